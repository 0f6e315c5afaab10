/- Floats: the number that bits are. -/
import Derived.Test.YtoikjfpefikmpaaDoorKSq7
set_option linter.all false
namespace Go.Ev
attribute [local irreducible] P0
end Go.Ev
