/- Merging. -/
import Derived.Test.YtineambfljmbgaaDoorKSt3
set_option linter.all false
namespace Go.Ev
attribute [local irreducible] P0
theorem null_val : null.val = .agg [.int .i64 1, .bool false, .bool false, .sl [], .int .i64 0, .str [], .sl [], .sl []] := by rw [Tree.val_eq]; rfl
end Go.Ev
