/- The reference's naturals and numbers, by value. -/
import Derived.Test.YtoikjfpefikmpaaDoorKSq1
import Derived.Test.YtoikjfpefikmpaaDoorKSp
set_option linter.all false
namespace Go.Ev
attribute [local irreducible] P0
end Go.Ev
