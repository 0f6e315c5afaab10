/- Values by numbers. -/
import Derived.Test.YtdhfnobijejpcaaDoorKSt6
set_option linter.all false
namespace Go.Ev
attribute [local irreducible] P0
theorem slV_sl(l:List V):slV (.sl l)=some l:=rfl
end Go.Ev
