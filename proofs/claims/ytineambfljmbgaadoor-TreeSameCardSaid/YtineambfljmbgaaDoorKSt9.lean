/- Merging: the document's example; a law's lists of numbers. -/
import Derived.Test.YtineambfljmbgaaDoorKSt8
import Derived.Test.YtineambfljmbgaaDoorKSp
set_option linter.all false
namespace Go.Ev
attribute [local irreducible] P0
theorem ty_ints {P : Program} {n : Nat} {t e : TypeId} {xs : List V} (hu : P.underlying t = some (.slice e)) (he : P.underlying e = some (.int .i64)) (h : Ty P n t xs) : ∃ l : List Int, mkV P t xs = .sl (ints l) := by
  cases n with
  | zero => exact h.elim
  | succ n =>
    unfold Ty at h
    rw [hu] at h
    obtain ⟨ys, _, hy, rfl⟩ := h
    have : ∀ ys : List (List V), (∀ x ∈ ys, Ty P n e x) → ∃ l : List Int, ys.map (mkV P e) = ints l := by
      intro ys
      induction ys with
      | nil => intro _; exact ⟨[], rfl⟩
      | cons y r ih =>
        intro hy
        obtain ⟨l, hl⟩ := ih (fun x hx => hy x (List.mem_cons_of_mem _ hx))
        obtain ⟨z, _, hz⟩ := ty_int he (hy y List.mem_cons_self)
        exact ⟨z :: l, by rw [List.map_cons, hl, hz]; rfl⟩
    obtain ⟨l, hl⟩ := this ys hy
    refine ⟨l, ?_⟩
    rw [hl]; unfold mkV isAggT
    rw [hu]; rfl
end Go.Ev
