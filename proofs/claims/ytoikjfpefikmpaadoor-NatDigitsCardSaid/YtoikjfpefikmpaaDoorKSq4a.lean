/- Texts: a byte at a place. -/
import Derived.Test.YtoikjfpefikmpaaDoorKPv
import Derived.Test.YtoikjfpefikmpaaDoorKSp
set_option linter.all false
namespace Go.Ev
theorem lns_s(s:Str):lnsV (.str s)=some s.length:=rfl
end Go.Ev
