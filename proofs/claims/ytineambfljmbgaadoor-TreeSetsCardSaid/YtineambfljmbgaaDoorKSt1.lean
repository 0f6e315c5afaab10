/- Trees: what the packages' functions yield: places of names, members. -/
import Derived.Test.YtineambfljmbgaaDoorKSq4
import Derived.Test.YtineambfljmbgaaDoorKSp
set_option linter.all false
namespace Go.Ev
attribute [local irreducible] P0
theorem i64_succ {i : Nat} (h : i ≤ 1000000000) : IntKind.i64.wrap ((i : Int) + 1) = ((i + 1 : Nat) : Int) := w64 (a := (i : Int) + 1) (by omega)
theorem index_loop (l : List Str) (s : Str) (hl : l.length ≤ 1000000) (k : Nat) : ∀ i, i + k = l.length →
    loopL (L_slices_Index_string_1 l.length (.sl (strs l)) (.str s)) (vec [.int .i64 (i : Int)]) = match pos s (l.drop i) with | some j => some (1, vec [.int .i64 ((i + j : Nat) : Int)]) | none => some (0, vec []) := by
  induction k with
  | zero =>
    intro i hi
    have e : i = l.length := by omega
    subst e
    rw [List.drop_length]
    apply loopL_inr
    unfold L_slices_Index_string_1
    simp only [tick_eq, vec_0, lss_i, Int.lt_irrefl, decide_false, some_bind, asBool_b, Bool.false_eq_true, if_false]
  | succ k ih =>
    intro i hi
    have hlt : i < l.length := by omega
    have c1 : (i : Int) < (l.length : Int) := by omega
    have hx : l[i]? = some l[i] := List.getElem?_eq_getElem hlt
    rw [List.drop_eq_getElem_cons hlt]
    simp only [pos]
    by_cases he : l[i] = s
    · rw [if_pos he]
      apply loopL_inr
      unfold L_slices_Index_string_1
      simp only [tick_eq, vec_0, lss_i, c1, decide_true, some_bind, asBool_b, if_true, asSl_strs, strs_len, idx_nat _ i l.length hlt, strs_get, hx, Option.map_some, fld_str, eql_s, he, beq_self_eq_true, Nat.add_zero]
    · rw [if_neg he]
      have hne : (s == l[i]) = false := by simpa using fun e => he e.symm
      rw [loopL_inl (a' := vec [.int .i64 ((i + 1 : Nat) : Int)])]
      · rw [ih (i + 1) (by omega)]
        cases pos s (l.drop (i + 1)) with
        | none => rfl
        | some j => simp only [Option.map_some]; rw [show i + 1 + j = i + (j + 1) by omega]
      · unfold L_slices_Index_string_1
        simp only [tick_eq, vec_0, lss_i, c1, decide_true, some_bind, asBool_b, if_true, asSl_strs, strs_len, idx_nat _ i l.length hlt, strs_get, hx, Option.map_some, fld_str, eql_s, hne, Bool.false_eq_true, if_false, add_i, i64_succ (i := i) (by omega)]
theorem index_ok (l : List Str) (s : Str) (hl : l.length ≤ 1000000) : P0 f_slices_Index_string [.v (.sl (strs l)), .v (.str s)] [] = some (.int .i64 (match pos s l with | some i => (i : Int) | none => -1), []) := by
  rw [eq_slices_Index_string]; unfold F_slices_Index_string
  have h := index_loop l s hl l.length 0 (by omega)
  rw [List.drop_zero, show ((0 : Nat) : Int) = 0 from rfl] at h
  simp only [tick_eq, lenV_sl, some_bind, strs_len, h]
  cases pos s l with
  | none => rfl
  | some i => simp only [some_bind, Nat.zero_add]; rfl
theorem names_zip (k : List Str) (v : List Tree) : names (k.zip v) = k.take (min k.length v.length) := by
  induction k generalizing v with
  | nil => simp [names]
  | cons x r ih => cases v with
    | nil => simp [names]
    | cons y s =>
      have := ih s
      simp only [names] at this ⊢
      simp [this, Nat.succ_min_succ]
theorem valsL_zip (k : List Str) (v : List Tree) : valsL (k.zip v) = v.take (min k.length v.length) := by
  induction k generalizing v with
  | nil => simp [valsL]
  | cons x r ih => cases v with
    | nil => simp [valsL]
    | cons y s =>
      have := ih s
      simp only [valsL] at this ⊢
      simp [this, Nat.succ_min_succ]
theorem bnd3_to (k k' : IntKind) (i n : Nat) (h : i ≤ n) : bnd3 none (some (.int k (i : Int))) (some (.int k' (i : Int))) n = some (0, i) := by
  simp [bnd3, bndV, h]
theorem cut_ok (t : Tree) : P0 f_tree_cut [.v t.val] [] = some (.tup [.sl (strs (names (al t))), .sl (trs (valsL (al t)))], []) := by
  rw [eq_tree_cut]; unfold F_tree_cut
  by_cases hk : t.kind = 7
  · have hal : al t = t.k.zip t.v := if_pos hk
    have hm : minV (.int .i64 ((t.k.length : Nat) : Int)) [.int .i64 ((t.v.length : Nat) : Int)] = some (.int .i64 ((min t.k.length t.v.length : Nat) : Int)) := by
      simp only [minV, if_true]
      congr 2
      split <;> omega
    simp only [tick_eq, okN_tree, tst_t, fld0, some_bind, neq_i, hk, decide_true, Bool.not_true, asBool_b, Bool.false_eq_true, if_false, fld6, fld7, lenV_sl, strs_len, trs_len, hm, asSl_strs, asSl_trs,
      bnd3_to _ _ _ _ (Nat.min_le_left t.k.length t.v.length), bnd3_to _ _ _ _ (Nat.min_le_right t.k.length t.v.length), List.drop_zero, Nat.sub_zero, strs_take, trs_take, hal, names_zip, valsL_zip]
  · simp only [tick_eq, okN_tree, tst_t, fld0, some_bind, neq_i, hk, decide_false, Bool.not_false, asBool_b, if_true, al_of hk]
    rfl
/-- what is at the first place of a name -/
theorem pos_lk {n : Str} {l : AL} : (pos n (names l)).bind (fun i => (valsL l)[i]?) = lk n l := by
  induction l with
  | nil => rfl
  | cons p r ih =>
    obtain ⟨k, v⟩ := p
    show (if k = n then some 0 else (pos n (names r)).map (· + 1)).bind _ = if k = n then some v else lk n r
    split
    · rfl
    · rw [← ih]
      cases pos n (names r) with
      | none => rfl
      | some i => simp [valsL]
theorem pos_none {n : Str} {l : AL} : pos n (names l) = none ↔ lk n l = none := by
  induction l with
  | nil => simp [names, pos, lk]
  | cons p r ih =>
    obtain ⟨k, v⟩ := p
    show (if k = n then some 0 else (pos n (names r)).map (· + 1)) = none ↔ (if k = n then some v else lk n r) = none
    split
    · simp
    · rw [← ih]; simp
/-- a member, and whether there is one -/
def memV (n : Str) (l : AL) : V := match lk n l with
  | some x => .tup [x.val, .bool true]
  | none => .tup [Tree.zero.val, .bool false]
theorem member_ok (t : Tree) (n : Str) (hl : (al t).length ≤ 1000000) : P0 f_tree_Member [.v t.val, .v (.str n)] [] = some (memV n (al t), []) := by
  rw [eq_tree_Member]; unfold F_tree_Member
  have hlen : (names (al t)).length = (al t).length := names_len _
  have hlen2 : (valsL (al t)).length = (al t).length := valsL_len _
  simp only [tick_eq, okN_tree, tst_t, cut_ok, some_bind, ext_tup, List.getElem?_cons_zero, List.getElem?_cons_succ, index_ok _ _ (by omega : (names (al t)).length ≤ 1000000)]
  unfold memV
  have h := pos_lk (n := n) (l := al t)
  cases hp : pos n (names (al t)) with
  | none =>
    rw [hp] at h
    simp only [Option.bind_none] at h
    rw [← h]
    have c1 : ¬ (0 : Int) ≤ -1 := by decide
    simp only [tick_eq, geq_i, c1, decide_false, some_bind, asBool_b, Bool.false_eq_true, if_false]
    rfl
  | some i =>
    have hi := pos_lt hp
    rw [hp] at h
    simp only [Option.bind_some] at h
    have hx : (valsL (al t))[i]? = some (valsL (al t))[i] := List.getElem?_eq_getElem (by omega)
    rw [hx] at h
    rw [← h]
    have c1 : (0 : Int) ≤ (i : Int) := Int.natCast_nonneg i
    simp only [tick_eq, geq_i, c1, decide_true, some_bind, asBool_b, if_true, asSl_trs, trs_len, idx_nat _ i (valsL (al t)).length (by omega), trs_get, hx, Option.map_some, okN_tree, tst_t]
end Go.Ev
