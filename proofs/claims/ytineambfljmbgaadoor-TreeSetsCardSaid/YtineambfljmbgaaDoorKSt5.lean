/- What is clean; sameness. -/
import Derived.Test.YtineambfljmbgaaDoorKSt4
set_option linter.all false
namespace Go.Ev
attribute [local irreducible] P0
/-- kinds that may be -/
theorem OkT.kind {t : Tree} (h : OkT t) : t.kind = 1 ∨ t.kind = 2 ∨ t.kind = 3 ∨ t.kind = 4 ∨ t.kind = 5 ∨ t.kind = 6 ∨ t.kind = 7 := by
  cases h <;> simp [Tree.kind, Ev.null, Ev.obj]
theorem subV_nm (t : Tree) : subV t.val 2 3 = t.n.val := by rw [t.val_eq]; rfl
theorem OkT.num_ok {t : Tree} (h : OkT t) : t.n.ok := by
  cases h <;> first | exact Nm.zero_ok | assumption
/-- what a value is, by its kind -/
theorem OkT.shape {t : Tree} (h : OkT t) :
    (t.kind = 1 → t = Ev.null) ∧ (t.kind = 2 → t = .mk 2 t.b .zero [] [] []) ∧ (t.kind = 3 → t = .mk 3 false t.n [] [] []) ∧ (t.kind = 4 → t = .mk 4 false .zero t.s [] []) ∧ (t.kind = 5 → t = .mk 5 false .zero t.s [] []) ∧
    (t.kind = 6 → t = .mk 6 false .zero [] [] t.v) ∧ (t.kind = 7 → t = .mk 7 false .zero [] t.k t.v) := by
  cases h <;> simp [Tree.kind, Ev.null, Ev.obj, Tree.b, Tree.n, Tree.s, Tree.v, Tree.k]
theorem OkT.lens {t : Tree} (h : OkT t) : t.k.length ≤ 300 ∧ t.v.length ≤ 300 ∧ (t.kind ≠ 7 → t.k = []) ∧ (t.kind ≠ 6 → t.kind ≠ 7 → t.v = []) ∧ (t.kind = 7 → t.k.length = t.v.length) := by
  cases h with
  | arr v hl hv => exact ⟨by simp [Tree.k], hl, fun _ => rfl, fun h => absurd rfl h, fun h => by simp [Tree.kind] at h⟩
  | obj l hs hl hn hv => exact ⟨by show (names l).length ≤ 300; rw [names_len]; exact hl, by show (valsL l).length ≤ 300; rw [valsL_len]; exact hl, fun h => absurd rfl h, fun _ h => absurd rfl h, fun _ => by show (names l).length = (valsL l).length; rw [names_len, valsL_len]⟩
  | _ => refine ⟨by simp [Tree.k, Ev.null], by simp [Tree.v, Ev.null], fun _ => rfl, fun _ _ => rfl, fun h => by simp [Tree.kind, Ev.null] at h⟩
theorem OkT.sub {t : Tree} (h : OkT t) : ∀ x, x ∈ t.v → OkT x := by
  cases h with
  | arr v hl hv => exact hv
  | obj l hs hl hn hv =>
    intro x hx
    obtain ⟨q, hq, rfl⟩ := List.mem_map.1 (show x ∈ valsL l from hx)
    exact hv q hq
  | _ => intro x hx; simp [Tree.v, Ev.null] at hx
/-- trees by induction -/
theorem Tree.ind {Q : Tree → Prop} (h : ∀ t, (∀ x, x ∈ t.v → Q x) → Q t) (t : Tree) : Q t := by
  have key : ∀ n, ∀ t, nodes t ≤ n → Q t := by
    intro n
    induction n with
    | zero => intro t ht; rw [nodes_eq] at ht; omega
    | succ n ih =>
      intro t ht
      refine h t (fun x hx => ih x ?_)
      have : nodes x ≤ nodesL t.v := by
        have : ∀ l : List Tree, x ∈ l → nodes x ≤ nodesL l := by
          intro l
          induction l with
          | nil => intro h; simp at h
          | cons y r ih2 =>
            intro h
            simp only [nodesL]
            rcases List.mem_cons.1 h with rfl | h
            · omega
            · have := ih2 h; omega
        exact this _ hx
      rw [nodes_eq] at ht; omega
  exact key _ t (Nat.le_refl _)
end Go.Ev
