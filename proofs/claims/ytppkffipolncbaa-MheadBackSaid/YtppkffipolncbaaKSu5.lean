/- Heads: the reference's Get. -/
import Derived.Test.YtppkffipolncbaaKSu4
set_option linter.all false
namespace Go.Ev
attribute [local irreducible] P0
theorem low_facts : ∀ c, c < 256 → (c < 192 ∨ 224 ≤ c) → hz c = 0 ∧ mo c = 0 ∧ hs c = false := by
  have h : (List.range 256).all (fun c => decide ((c < 192 ∨ 224 ≤ c) → hz c = 0 ∧ mo c = 0 ∧ hs c = false)) = true := by kernel_rfl
  intro c hc
  exact of_decide_eq_true (List.all_eq_true.1 h c (List.mem_range.2 hc))
end Go.Ev
