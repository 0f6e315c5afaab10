/- Texts: a byte at a place. -/
import Derived.Test.YtineambfljmbgaaKPv
import Derived.Test.YtineambfljmbgaaKSp
set_option linter.all false
namespace Go.Ev
end Go.Ev
