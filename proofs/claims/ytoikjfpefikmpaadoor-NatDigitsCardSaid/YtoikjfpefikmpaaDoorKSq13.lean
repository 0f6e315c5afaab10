/- Floats: the bits of a number. -/
import Derived.Test.YtoikjfpefikmpaaDoorKSq12
import Derived.Test.YtoikjfpefikmpaaDoorKSq9
import Derived.Test.YtoikjfpefikmpaaDoorKSp
set_option linter.all false
namespace Go.Ev
attribute [local irreducible] P0
end Go.Ev
