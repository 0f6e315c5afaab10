/- Numbers: what the reference's functions yield. -/
import Derived.Test.YtoikjfpefikmpaaDoorKPv
import Derived.Test.YtoikjfpefikmpaaDoorKSp
set_option linter.all false
namespace Go.Ev
attribute [local irreducible] P0
end Go.Ev
