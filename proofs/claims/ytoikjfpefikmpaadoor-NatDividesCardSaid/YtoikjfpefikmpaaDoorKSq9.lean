/- Floats: the signs' law. -/
import Derived.Test.YtoikjfpefikmpaaDoorKSq8
import Derived.Test.YtoikjfpefikmpaaDoorKSr1
set_option linter.all false
namespace Go.Ev
attribute [local irreducible] P0
end Go.Ev
