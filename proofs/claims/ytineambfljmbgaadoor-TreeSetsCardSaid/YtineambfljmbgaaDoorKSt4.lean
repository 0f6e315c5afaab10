/- Merging. -/
import Derived.Test.YtineambfljmbgaaDoorKSt3
set_option linter.all false
namespace Go.Ev
attribute [local irreducible] P0
theorem unset_obj (u : AL) (n : Str) (hl : u.length ≤ 1000000) : P0 f_tree_Unset [.v (obj u).val, .v (.str n)] [] = some ((obj (delA n u)).val, []) := by
  have h := unset_ok (obj u) n (by rw [al_obj]; exact hl)
  rw [al_obj] at h
  rw [h]
  cases hx : lk n u with
  | some x => rfl
  | none => rw [del_none (pos_none.2 hx)]
theorem member_obj (u : AL) (n : Str) (hl : u.length ≤ 1000000) : P0 f_tree_Member [.v (obj u).val, .v (.str n)] [] = some (memV n u, []) := by
  have h := member_ok (obj u) n (by rw [al_obj]; exact hl)
  rw [al_obj] at h
  exact h
end Go.Ev
