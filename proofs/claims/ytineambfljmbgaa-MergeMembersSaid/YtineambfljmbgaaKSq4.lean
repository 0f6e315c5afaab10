/- Texts: some that are valid. -/
import Derived.Test.YtineambfljmbgaaKSq3
import Derived.Test.YtineambfljmbgaaKSq4a
import Derived.Test.YtineambfljmbgaaKSp
set_option linter.all false
namespace Go.Ev
attribute [local irreducible] P0

end Go.Ev
