/- What may be a value: ref05.Check. -/
import Derived.Test.YtineambfljmbgaaKSt5
set_option linter.all false
namespace Go.Ev
attribute [local irreducible] P0
end Go.Ev
