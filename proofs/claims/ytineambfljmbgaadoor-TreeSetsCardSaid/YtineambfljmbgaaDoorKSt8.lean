/- Values by numbers, part 2. -/
import Derived.Test.YtineambfljmbgaaDoorKSt7
set_option linter.all false
namespace Go.Ev
attribute [local irreducible] P0
end Go.Ev
