/- What may be a value: ref05.Check. -/
import Derived.Test.YtdhfnobijejpcaaDoorKSt5
set_option linter.all false
namespace Go.Ev
attribute [local irreducible] P0
theorem zero_ok:P0 f_ref05_zero [.v Nm.zero.val] []=some (.bool true,[]):=by
 rw[eq_ref05_zero];unfold F_ref05_zero;rfl
theorem srt_at{l:List Str}(h:Srt l) : ∀ i j (hj:j<l.length) (hi:i<j),lt (l[i]'(by omega)) l[j]=true:=by
 induction l with
 | nil=>intro i j hj;simp at hj
 | cons x r ih=>
  intro i j hj hi
  cases j with
  | zero=>omega
  | succ j=>
   cases i with
   | zero=>exact h.1 _ (List.getElem_mem (by simpa using hj))
   | succ i=>exact ih h.2 i j (by simpa using hj) (by omega)
end Go.Ev
