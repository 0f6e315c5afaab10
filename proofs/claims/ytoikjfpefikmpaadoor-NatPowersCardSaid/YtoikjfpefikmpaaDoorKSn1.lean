/- Naturals: sums. -/
import Derived.Test.YtoikjfpefikmpaaDoorKSq12
import Derived.Test.YtoikjfpefikmpaaDoorKSq13
set_option linter.all false
namespace Go.Ev
attribute [local irreducible] P0
end Go.Ev
