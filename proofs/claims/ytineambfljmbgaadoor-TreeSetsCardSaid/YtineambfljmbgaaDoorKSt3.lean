/- Trees: the reference's Set; without a member. -/
import Derived.Test.YtineambfljmbgaaDoorKSt2
set_option linter.all false
namespace Go.Ev
attribute [local irreducible] P0
theorem grow_str (n : Nat) (h : n ≤ 100000000) : P0 f_slices_Grow_string [.g, .v (.sl []), .v (.int .i64 (n : Int))] [] = some (.sl [], []) := by
  rw [tell_slices_Grow_string]
  have hk : growOk 16 (n : Int) = true := by
    simp only [growOk, Bool.and_eq_true, decide_eq_true_eq, Int.toNat_natCast]; omega
  simp only [tellK, extK, valsA, txGrow, hk, tst_t, some_bind]
theorem grow_tr (n : Nat) (h : n ≤ 100000000) : P0 f_slices_Grow_erratum_api_Tree [.g, .v (.sl []), .v (.int .i64 (n : Int))] [] = some (.sl [], []) := by
  rw [tell_slices_Grow_erratum_api_Tree]
  have hk : growOk 120 (n : Int) = true := by
    simp only [growOk, Bool.and_eq_true, decide_eq_true_eq, Int.toNat_natCast]; omega
  simp only [tellK, extK, valsA, txGrow, hk, tst_t, some_bind]
theorem szOk_2sl (a b : List V) : szOk 1 [V.sl a, V.sl b] = true := rfl
theorem asSl_2sl (a b : List V) : asSl 1 (.sl [V.sl a, V.sl b]) = some [.sl a, .sl b] := by unfold asSl; simp only [szOk_2sl]
theorem slV_nil : slV (.sl []) = some [] := rfl
theorem concat_str (a b : List Str) (ha : a.length ≤ 1000000) (hb : b.length ≤ 1000000) : P0 f_slices_Concat_string [.v (.sl [.sl (strs a), .sl (strs b)])] [] = some (.sl (strs (a ++ b)), []) := by
  rw [eq_slices_Concat_string]; unfold F_slices_Concat_string
  have w1 : IntKind.i64.wrap (0 + (a.length : Int)) = (a.length : Int) := w64 (a := 0 + (a.length : Int)) (by omega) |>.trans (by omega)
  have w2 : IntKind.i64.wrap ((a.length : Int) + (b.length : Int)) = ((a.length + b.length : Nat) : Int) := w64 (a := (a.length : Int) + (b.length : Int)) (by omega) |>.trans (by omega)
  have w3 : IntKind.i64.wrap (0 + 1) = 1 := by decide
  have w4 : IntKind.i64.wrap (1 + 1) = 2 := by decide
  have c0 : ¬ (a.length : Int) < 0 := by omega
  have c1 : ¬ ((a.length + b.length : Nat) : Int) < 0 := by omega
  have d0 : (0 : Int) < ((2 : Nat) : Int) := by decide
  have d1 : (1 : Int) < ((2 : Nat) : Int) := by decide
  have d2 : ¬ (2 : Int) < ((2 : Nat) : Int) := by decide
  have i0 := idx_0 .i64 2 (by decide)
  have i1 : idxV (.int .i64 1) 2 = some 1 := idx_nat .i64 1 2 (by decide)
  have l1 : loopL (L_slices_Concat_string_1 2 (.sl [.sl (strs a), .sl (strs b)])) (vec [.int .i64 0, .int .i64 0]) = some (0, vec [.int .i64 ((a.length + b.length : Nat) : Int)]) := by
    rw [loopL_inl (a' := vec [.int .i64 (a.length : Int), .int .i64 1])]
    · rw [loopL_inl (a' := vec [.int .i64 ((a.length + b.length : Nat) : Int), .int .i64 2])]
      · apply loopL_inr
        unfold L_slices_Concat_string_1
        simp only [tick_eq, vec_0, vec_s, lss_i, d2, decide_false, some_bind, asBool_b, Bool.false_eq_true, if_false]
      · unfold L_slices_Concat_string_1
        simp only [tick_eq, vec_0, vec_s, lss_i, d1, decide_true, some_bind, asBool_b, if_true, asSl_2sl, List.length_cons, List.length_nil, Nat.zero_add, Nat.reduceAdd, i1, List.getElem?_cons_succ, List.getElem?_cons_zero, fld_sl, lenV_sl, strs_len, add_i, w2, c1, decide_false, Bool.false_eq_true, if_false, w4]
    · unfold L_slices_Concat_string_1
      simp only [tick_eq, vec_0, vec_s, lss_i, d0, decide_true, some_bind, asBool_b, if_true, asSl_2sl, List.length_cons, List.length_nil, Nat.zero_add, Nat.reduceAdd, i0, List.getElem?_cons_zero, fld_sl, lenV_sl, strs_len, add_i, w1, c0, decide_false, Bool.false_eq_true, if_false, w3]
  have l2 : loopL (L_slices_Concat_string_2 2 (.sl [.sl (strs a), .sl (strs b)])) (vec [.sl [], .int .i64 0]) = some (0, vec [.sl (strs (a ++ b))]) := by
    rw [loopL_inl (a' := vec [.sl (strs a), .int .i64 1])]
    · rw [loopL_inl (a' := vec [.sl (strs (a ++ b)), .int .i64 2])]
      · apply loopL_inr
        unfold L_slices_Concat_string_2
        simp only [tick_eq, vec_0, vec_s, lss_i, d2, decide_false, some_bind, asBool_b, Bool.false_eq_true, if_false, elems_sl]
      · unfold L_slices_Concat_string_2
        simp only [tick_eq, vec_0, vec_s, lss_i, d1, decide_true, some_bind, asBool_b, if_true, asSl_2sl, List.length_cons, List.length_nil, Nat.zero_add, Nat.reduceAdd, i1, List.getElem?_cons_succ, List.getElem?_cons_zero, fld_sl, asEl_strs, elems_sl, strs_len, app_ok 16 a.length b.length (by omega) (by omega), tst_t, add_i, w4, strs_app]
    · unfold L_slices_Concat_string_2
      simp only [tick_eq, vec_0, vec_s, lss_i, d0, decide_true, some_bind, asBool_b, if_true, asSl_2sl, List.length_cons, List.length_nil, Nat.zero_add, Nat.reduceAdd, i0, List.getElem?_cons_zero, fld_sl, asEl_strs, elems_sl, strs_len, app_ok 16 0 a.length (by omega) (by omega), tst_t, add_i, w3, List.nil_append]
  simp only [tick_eq, lenV_sl, some_bind, List.length_cons, List.length_nil, Nat.zero_add, Nat.reduceAdd, l1, vec_0, grow_str _ (by omega : a.length + b.length ≤ 100000000), slV_nil, l2, elems_sl]
theorem concat_tr (a b : List Tree) (ha : a.length ≤ 1000000) (hb : b.length ≤ 1000000) : P0 f_slices_Concat_erratum_api_Tree [.v (.sl [.sl (trs a), .sl (trs b)])] [] = some (.sl (trs (a ++ b)), []) := by
  rw [eq_slices_Concat_erratum_api_Tree]; unfold F_slices_Concat_erratum_api_Tree
  have w1 : IntKind.i64.wrap (0 + (a.length : Int)) = (a.length : Int) := w64 (a := 0 + (a.length : Int)) (by omega) |>.trans (by omega)
  have w2 : IntKind.i64.wrap ((a.length : Int) + (b.length : Int)) = ((a.length + b.length : Nat) : Int) := w64 (a := (a.length : Int) + (b.length : Int)) (by omega) |>.trans (by omega)
  have w3 : IntKind.i64.wrap (0 + 1) = 1 := by decide
  have w4 : IntKind.i64.wrap (1 + 1) = 2 := by decide
  have c0 : ¬ (a.length : Int) < 0 := by omega
  have c1 : ¬ ((a.length + b.length : Nat) : Int) < 0 := by omega
  have d0 : (0 : Int) < ((2 : Nat) : Int) := by decide
  have d1 : (1 : Int) < ((2 : Nat) : Int) := by decide
  have d2 : ¬ (2 : Int) < ((2 : Nat) : Int) := by decide
  have i0 := idx_0 .i64 2 (by decide)
  have i1 : idxV (.int .i64 1) 2 = some 1 := idx_nat .i64 1 2 (by decide)
  have l1 : loopL (L_slices_Concat_erratum_api_Tree_1 2 (.sl [.sl (trs a), .sl (trs b)])) (vec [.int .i64 0, .int .i64 0]) = some (0, vec [.int .i64 ((a.length + b.length : Nat) : Int)]) := by
    rw [loopL_inl (a' := vec [.int .i64 (a.length : Int), .int .i64 1])]
    · rw [loopL_inl (a' := vec [.int .i64 ((a.length + b.length : Nat) : Int), .int .i64 2])]
      · apply loopL_inr
        unfold L_slices_Concat_erratum_api_Tree_1
        simp only [tick_eq, vec_0, vec_s, lss_i, d2, decide_false, some_bind, asBool_b, Bool.false_eq_true, if_false]
      · unfold L_slices_Concat_erratum_api_Tree_1
        simp only [tick_eq, vec_0, vec_s, lss_i, d1, decide_true, some_bind, asBool_b, if_true, asSl_2sl, List.length_cons, List.length_nil, Nat.zero_add, Nat.reduceAdd, i1, List.getElem?_cons_succ, List.getElem?_cons_zero, fld_sl, lenV_sl, trs_len, add_i, w2, c1, decide_false, Bool.false_eq_true, if_false, w4]
    · unfold L_slices_Concat_erratum_api_Tree_1
      simp only [tick_eq, vec_0, vec_s, lss_i, d0, decide_true, some_bind, asBool_b, if_true, asSl_2sl, List.length_cons, List.length_nil, Nat.zero_add, Nat.reduceAdd, i0, List.getElem?_cons_zero, fld_sl, lenV_sl, trs_len, add_i, w1, c0, decide_false, Bool.false_eq_true, if_false, w3]
  have l2 : loopL (L_slices_Concat_erratum_api_Tree_2 2 (.sl [.sl (trs a), .sl (trs b)])) (vec [.sl [], .int .i64 0]) = some (0, vec [.sl (trs (a ++ b))]) := by
    rw [loopL_inl (a' := vec [.sl (trs a), .int .i64 1])]
    · rw [loopL_inl (a' := vec [.sl (trs (a ++ b)), .int .i64 2])]
      · apply loopL_inr
        unfold L_slices_Concat_erratum_api_Tree_2
        simp only [tick_eq, vec_0, vec_s, lss_i, d2, decide_false, some_bind, asBool_b, Bool.false_eq_true, if_false, elems_sl]
      · unfold L_slices_Concat_erratum_api_Tree_2
        simp only [tick_eq, vec_0, vec_s, lss_i, d1, decide_true, some_bind, asBool_b, if_true, asSl_2sl, List.length_cons, List.length_nil, Nat.zero_add, Nat.reduceAdd, i1, List.getElem?_cons_succ, List.getElem?_cons_zero, fld_sl, asEl_trs, elems_sl, trs_len, app_ok 120 a.length b.length (by omega) (by omega), tst_t, add_i, w4, trs_app]
    · unfold L_slices_Concat_erratum_api_Tree_2
      simp only [tick_eq, vec_0, vec_s, lss_i, d0, decide_true, some_bind, asBool_b, if_true, asSl_2sl, List.length_cons, List.length_nil, Nat.zero_add, Nat.reduceAdd, i0, List.getElem?_cons_zero, fld_sl, asEl_trs, elems_sl, trs_len, app_ok 120 0 a.length (by omega) (by omega), tst_t, add_i, w3, List.nil_append]
  simp only [tick_eq, lenV_sl, some_bind, List.length_cons, List.length_nil, Nat.zero_add, Nat.reduceAdd, l1, vec_0, grow_tr _ (by omega : a.length + b.length ≤ 100000000), slV_nil, l2, elems_sl]
theorem del_pos {n : Str} {l : AL} {i : Nat} (h : pos n (names l) = some i) : names (delA n l) = (names l).take i ++ (names l).drop (i + 1) ∧ valsL (delA n l) = (valsL l).take i ++ (valsL l).drop (i + 1) := by
  induction l generalizing i with
  | nil => simp [names, pos] at h
  | cons p r ih =>
    obtain ⟨k, w⟩ := p
    have h : (if k = n then some 0 else (pos n (names r)).map (· + 1)) = some i := h
    simp only [delA]
    by_cases e : k = n
    · rw [if_pos e] at h ⊢
      injection h with h; subst h
      exact ⟨rfl, rfl⟩
    · rw [if_neg e] at h ⊢
      rw [Option.map_eq_some_iff] at h
      obtain ⟨j, hj, rfl⟩ := h
      obtain ⟨h3, h4⟩ := ih hj
      exact ⟨by show k :: names (delA n r) = k :: _; rw [h3]; rfl, by show w :: valsL (delA n r) = w :: _; rw [h4]; rfl⟩
theorem del_none {n : Str} {l : AL} (h : pos n (names l) = none) : delA n l = l := by
  induction l with
  | nil => rfl
  | cons p r ih =>
    obtain ⟨k, w⟩ := p
    have h : (if k = n then some 0 else (pos n (names r)).map (· + 1)) = none := h
    simp only [delA]
    by_cases e : k = n
    · rw [if_pos e] at h; contradiction
    · rw [if_neg e] at h ⊢
      rw [ih (by simpa using h)]
theorem unset_ok (t : Tree) (n : Str) (hl : (al t).length ≤ 1000000) : P0 f_tree_Unset [.v t.val, .v (.str n)] [] = some ((match lk n (al t) with | some _ => (obj (delA n (al t))).val | none => t.val), []) := by
  rw [eq_tree_Unset]; unfold F_tree_Unset
  have hlen : (names (al t)).length = (al t).length := names_len _
  have hlen2 : (valsL (al t)).length = (al t).length := valsL_len _
  simp only [tick_eq, okN_tree, tst_t, cut_ok, some_bind, ext_tup, List.getElem?_cons_zero, List.getElem?_cons_succ, index_ok _ _ (by omega : (names (al t)).length ≤ 1000000)]
  cases hp : pos n (names (al t)) with
  | none =>
    rw [pos_none.1 hp]
    have c1 : (-1 : Int) < 0 := by decide
    simp only [tick_eq, lss_i, c1, decide_true, some_bind, asBool_b, if_true, okN_tree, tst_t]
  | some i =>
    have hi := pos_lt hp
    have hne : lk n (al t) ≠ none := fun e => by rw [pos_none.2 e] at hp; contradiction
    obtain ⟨x, hx⟩ : ∃ x, lk n (al t) = some x := by
      cases h : lk n (al t) with
      | none => exact (hne h).elim
      | some x => exact ⟨x, rfl⟩
    obtain ⟨h1, h2⟩ := del_pos hp
    have c1 : ¬ (i : Int) < 0 := by omega
    have w := i64_succ (i := i) (by omega)
    have b1 := bnd_to .i64 (i : Int) (names (al t)).length ⟨Int.natCast_nonneg i, by omega⟩
    have b2 := bnd_from .i64 ((i + 1 : Nat) : Int) (names (al t)).length ⟨Int.natCast_nonneg _, by omega⟩
    have b3 := bnd_to .i64 (i : Int) (valsL (al t)).length ⟨Int.natCast_nonneg i, by omega⟩
    have b4 := bnd_from .i64 ((i + 1 : Nat) : Int) (valsL (al t)).length ⟨Int.natCast_nonneg _, by omega⟩
    simp only [Int.toNat_natCast] at b1 b2 b3 b4
    have k1 : ((names (al t)).drop (i + 1)).take ((names (al t)).length - (i + 1)) = (names (al t)).drop (i + 1) := List.take_of_length_le (by simp)
    have k2 : ((valsL (al t)).drop (i + 1)).take ((valsL (al t)).length - (i + 1)) = (valsL (al t)).drop (i + 1) := List.take_of_length_le (by simp)
    have cc1 := concat_str ((names (al t)).take i) ((names (al t)).drop (i + 1)) (by simp; omega) (by simp; omega)
    have cc2 := concat_tr ((valsL (al t)).take i) ((valsL (al t)).drop (i + 1)) (by simp; omega) (by simp; omega)
    simp only [tick_eq, lss_i, c1, decide_false, some_bind, asBool_b, Bool.false_eq_true, if_false, asSl_strs, asSl_trs, strs_len, trs_len, b1, b2, b3, b4, add_i, w, List.drop_zero, Nat.sub_zero, strs_drop, strs_take, trs_drop, trs_take, k1, k2, cc1, cc2, okN_sl, tst_t, fld_sl, hx, obj_val, h1, h2]
end Go.Ev
