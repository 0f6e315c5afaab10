/- Naturals: quotients. -/
import Derived.Test.YtoikjfpefikmpaaDoorKSq11
set_option linter.all false
namespace Go.Ev
attribute [local irreducible] P0
end Go.Ev
