/- Numbers, part 3: small ones, numbers by a number, sameness. -/
import Derived.Test.YtineambfljmbgaaDoorKSq2
set_option linter.all false
namespace Go.Ev
attribute [local irreducible] P0

instance : DecidableEq Nm := fun a b => by
  cases a; cases b
  simp only [Nm.mk.injEq]
  infer_instance
theorem nm_u32 {n : Nm} (h : n.ok) : U32 n.m ∧ Nrm n.m ∧ n.m.length ≤ 90 := by
  rcases h with ⟨h1, _⟩ | ⟨_, h2, h3, h4, _⟩
  · rw [h1]; exact ⟨fun x hx => by simp at hx, by simp [Nrm], by simp⟩
  · exact ⟨h2, h4, h3⟩
end Go.Ev
