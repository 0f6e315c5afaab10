/- Values by numbers. -/
import Derived.Test.YtineambfljmbgaaDoorKSt6
set_option linter.all false
namespace Go.Ev
attribute [local irreducible] P0
end Go.Ev
