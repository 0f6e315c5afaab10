/- Numbers, part 2: what is made is valid; sameness. -/
import Derived.Test.YtdhfnobijejpcaaDoorKSq1
import Derived.Test.YtdhfnobijejpcaaDoorKSp
set_option linter.all false
namespace Go.Ev
attribute [local irreducible] P0
theorem Nm.zero_ok:Nm.zero.ok := .inl ⟨rfl,rfl,rfl⟩
end Go.Ev
