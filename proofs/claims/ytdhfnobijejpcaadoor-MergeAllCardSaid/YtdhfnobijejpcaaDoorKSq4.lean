/- Texts: some that are valid. -/
import Derived.Test.YtdhfnobijejpcaaDoorKSq3
import Derived.Test.YtdhfnobijejpcaaDoorKSq4a
import Derived.Test.YtdhfnobijejpcaaDoorKSp
set_option linter.all false
namespace Go.Ev
attribute [local irreducible] P0
end Go.Ev
