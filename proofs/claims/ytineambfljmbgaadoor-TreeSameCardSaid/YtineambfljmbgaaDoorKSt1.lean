/- Trees: what the packages' functions yield: places of names, members. -/
import Derived.Test.YtineambfljmbgaaDoorKSq4
import Derived.Test.YtineambfljmbgaaDoorKSp
set_option linter.all false
namespace Go.Ev
attribute [local irreducible] P0
theorem i64_succ {i : Nat} (h : i ≤ 1000000000) : IntKind.i64.wrap ((i : Int) + 1) = ((i + 1 : Nat) : Int) := w64 (a := (i : Int) + 1) (by omega)
/-- a member, and whether there is one -/
def memV (n : Str) (l : AL) : V := match lk n l with
  | some x => .tup [x.val, .bool true]
  | none => .tup [Tree.zero.val, .bool false]
theorem rmember_loop (t : Tree) (n : Str) (hk : t.kind = 7) (hkl : t.k.length ≤ 1000000) (hl : (al t).length ≤ 1000000) (k : Nat) : ∀ i, i + k = (al t).length →
    loopL (L_ref05_Member_1 t.val (.str n)) (vec [.int .i64 (i : Int), .int .i64 0, .bool false, .bool false, .sl [], .int .i64 0, .str [], .sl [], .sl []]) =
      match lk n ((al t).drop i) with | some x => some (1, vec [.bool true, x.val]) | none => some (0, vec [Tree.zero.val]) := by
  have hal : al t = t.k.zip t.v := if_pos hk
  have hll : (al t).length = min t.k.length t.v.length := by rw [hal, List.length_zip]
  induction k with
  | zero =>
    intro i hi
    rw [List.drop_eq_nil_of_le (by omega)]
    apply loopL_inr
    unfold L_ref05_Member_1
    by_cases h1 : i < t.k.length
    · have c1 : (i : Int) < (t.k.length : Int) := by omega
      have c2 : ¬ (i : Int) < (t.v.length : Int) := by omega
      simp only [tick_eq, fld6, fld7, some_bind, lenV_sl, strs_len, trs_len, vec_0, lss_i, c1, c2, decide_true, decide_false, asBool_b, if_true, Bool.false_eq_true, if_false]
      rfl
    · have c1 : ¬ (i : Int) < (t.k.length : Int) := by omega
      simp only [tick_eq, fld6, some_bind, lenV_sl, strs_len, vec_0, lss_i, c1, decide_false, asBool_b, Bool.false_eq_true, if_false]
      rfl
  | succ k ih =>
    intro i hi
    have h1 : i < t.k.length := by omega
    have h2 : i < t.v.length := by omega
    have c1 : (i : Int) < (t.k.length : Int) := by omega
    have c2 : (i : Int) < (t.v.length : Int) := by omega
    have hx : t.k[i]? = some t.k[i] := List.getElem?_eq_getElem h1
    have hy : t.v[i]? = some t.v[i] := List.getElem?_eq_getElem h2
    have hi' : i < (al t).length := by omega
    have hz : (al t)[i] = (t.k[i], t.v[i]) := by simp [hal]
    rw [List.drop_eq_getElem_cons hi', hz]
    simp only [lk]
    by_cases he : t.k[i] = n
    · rw [if_pos he]
      have heb : (t.k[i] == n) = true := by simpa using he
      apply loopL_inr
      unfold L_ref05_Member_1
      simp only [tick_eq, fld0, fld6, fld7, hk, some_bind, lenV_sl, strs_len, trs_len, vec_0, lss_i, c1, c2, decide_true, asBool_b, if_true, eql_i, asSl_strs, idx_nat _ i t.k.length h1, strs_get, hx, Option.map_some, fld_str, eql_s, heb, asSl_trs, idx_nat _ i t.v.length h2, trs_get, hy, okN_tree, tst_t]
    · rw [if_neg he]
      have heb : (t.k[i] == n) = false := by simpa using he
      rw [← ih (i + 1) (by omega)]
      apply loopL_inl
      unfold L_ref05_Member_1
      simp only [tick_eq, fld0, fld6, fld7, hk, some_bind, lenV_sl, strs_len, trs_len, vec_0, vec_s, lss_i, c1, c2, decide_true, asBool_b, if_true, eql_i, asSl_strs, idx_nat _ i t.k.length h1, strs_get, hx, Option.map_some, fld_str, eql_s, heb, Bool.false_eq_true, if_false, add_i, i64_succ (i := i) (by omega)]
theorem rmember_ok (t : Tree) (n : Str) (hkl : t.k.length ≤ 1000000) (hl : (al t).length ≤ 1000000) : P0 f_ref05_Member [.v t.val, .v (.str n)] [] = some (memV n (al t), []) := by
  rw [eq_ref05_Member]; unfold F_ref05_Member memV
  by_cases hk : t.kind = 7
  · have h := rmember_loop t n hk hkl hl (al t).length 0 (by omega)
    rw [List.drop_zero, show ((0 : Nat) : Int) = 0 from rfl] at h
    simp only [tick_eq, okN_tree, tst_t, h]
    cases lk n (al t) with
    | none => simp only [some_bind]; rfl
    | some x => simp only [some_bind]; rfl
  · rw [al_of hk]
    have h : loopL (L_ref05_Member_1 t.val (.str n)) (vec [.int .i64 0, .int .i64 0, .bool false, .bool false, .sl [], .int .i64 0, .str [], .sl [], .sl []]) = some (0, vec [Tree.zero.val]) := by
      apply loopL_inr
      unfold L_ref05_Member_1
      by_cases h1 : 0 < t.k.length
      · have c1 : (0 : Int) < (t.k.length : Int) := by omega
        by_cases h2 : 0 < t.v.length
        · have c2 : (0 : Int) < (t.v.length : Int) := by omega
          simp only [tick_eq, fld0, fld6, fld7, some_bind, lenV_sl, strs_len, trs_len, vec_0, lss_i, c1, c2, decide_true, asBool_b, if_true, eql_i, hk, decide_false, Bool.false_eq_true, if_false]
          rfl
        · have c2 : ¬ (0 : Int) < (t.v.length : Int) := by omega
          simp only [tick_eq, fld6, fld7, some_bind, lenV_sl, strs_len, trs_len, vec_0, lss_i, c1, c2, decide_true, decide_false, asBool_b, if_true, Bool.false_eq_true, if_false]
          rfl
      · have c1 : ¬ (0 : Int) < (t.k.length : Int) := by omega
        simp only [tick_eq, fld6, some_bind, lenV_sl, strs_len, vec_0, lss_i, c1, decide_false, asBool_b, Bool.false_eq_true, if_false]
        rfl
    simp only [tick_eq, okN_tree, tst_t, h, some_bind, lk]
    rfl
end Go.Ev
