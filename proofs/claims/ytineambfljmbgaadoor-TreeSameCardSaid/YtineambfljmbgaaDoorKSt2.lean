/- Trees: with a member, without one. -/
import Derived.Test.YtineambfljmbgaaDoorKSt1
set_option linter.all false
namespace Go.Ev
attribute [local irreducible] P0
theorem obj_val (l : AL) : (obj l).val = .agg [.int .i64 7, .bool false, .bool false, .sl [], .int .i64 0, .str [], .sl (strs (names l)), .sl (trs (valsL l))] := by rw [Tree.val_eq]; rfl
end Go.Ev
