/- Naturals: how many bits; quotients. -/
import Derived.Test.YtoikjfpefikmpaaDoorKSq10
import Derived.Test.YtoikjfpefikmpaaDoorKSq4a
set_option linter.all false
namespace Go.Ev
attribute [local irreducible] P0
end Go.Ev
