/- Floats: the bits of a number, whole; the shortest. -/
import Derived.Test.YtoikjfpefikmpaaDoorKSq14
set_option linter.all false
namespace Go.Ev
attribute [local irreducible] P0
end Go.Ev
