/- Trees: what the packages' functions yield: places of names, members. -/
import Derived.Test.YtineambfljmbgaaDoorKSq4
import Derived.Test.YtineambfljmbgaaDoorKSp
set_option linter.all false
namespace Go.Ev
attribute [local irreducible] P0
theorem i64_succ {i : Nat} (h : i ≤ 1000000000) : IntKind.i64.wrap ((i : Int) + 1) = ((i + 1 : Nat) : Int) := w64 (a := (i : Int) + 1) (by omega)
end Go.Ev
