/- Texts: some that are valid. -/
import Derived.Test.YtineambfljmbgaaDoorKSq3
import Derived.Test.YtineambfljmbgaaDoorKSq4a
import Derived.Test.YtineambfljmbgaaDoorKSp
set_option linter.all false
namespace Go.Ev
attribute [local irreducible] P0

end Go.Ev
