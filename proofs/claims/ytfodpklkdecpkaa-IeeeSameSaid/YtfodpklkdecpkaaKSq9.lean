/- Floats: the signs' law. -/
import Derived.Test.YtfodpklkdecpkaaKSq8
import Derived.Test.YtfodpklkdecpkaaKSr1
set_option linter.all false
namespace Go.Ev
attribute [local irreducible] P0
end Go.Ev
