/- Trees: the reference's Set; without a member. -/
import Derived.Test.YtineambfljmbgaaDoorKSt2
set_option linter.all false
namespace Go.Ev
attribute [local irreducible] P0
def rset (n : Str) (v : Tree) (has : Bool) : Bool → AL → Bool × AL
  | d, [] => (d, [])
  | d, (k, w) :: r => if d = false ∧ k = n then ((rset n v has true r).1, (n, v) :: (rset n v has true r).2)
    else if d = false ∧ has = false ∧ lt n k = true then ((rset n v has true r).1, (n, v) :: (k, w) :: (rset n v has true r).2)
    else ((rset n v has d r).1, (k, w) :: (rset n v has d r).2)
theorem rset_true (n : Str) (v : Tree) (has : Bool) (l : AL) : rset n v has true l = (true, l) := by
  induction l with
  | nil => rfl
  | cons p r ih => obtain ⟨k, w⟩ := p; simp [rset, ih]
theorem rset_eq {n : Str} {v : Tree} {l : AL} (hs : SrtA l) : (rset n v (lk n l).isSome false l).2 ++ (if (rset n v (lk n l).isSome false l).1 = true then [] else [(n, v)]) = setA n v l := by
  cases hh : (lk n l).isSome with
  | true =>
    have hm : n ∈ names l := Classical.byContradiction fun hc => by rw [lk_names.2 hc] at hh; contradiction
    clear hh
    induction l with
    | nil => simp [names] at hm
    | cons p r ih =>
      obtain ⟨k, w⟩ := p
      obtain ⟨h1, h2⟩ := srt_cons.1 hs
      simp only [rset, setA, rset_true]
      by_cases e : k = n
      · simp [e]
      · have hm2 : n ∈ names r := by
          rcases List.mem_cons.1 (show n ∈ k :: names r from hm) with h | h
          · exact (e h.symm).elim
          · exact h
        have : lt n k = false := lt_asymm (h1 n hm2)
        have ih := ih h2 hm2
        simp only [e, this, and_false, if_false, Bool.false_eq_true, Bool.true_eq_false, false_and]
        rw [← ih]; rfl
  | false =>
    have hm : n ∉ names l := fun hc => by
      have : lk n l ≠ none := fun e => lk_names.1 e hc
      cases hx : lk n l with
      | none => exact this hx
      | some x => rw [hx] at hh; contradiction
    clear hh
    induction l with
    | nil => simp [rset, setA]
    | cons p r ih =>
      obtain ⟨k, w⟩ := p
      obtain ⟨h1, h2⟩ := srt_cons.1 hs
      have hm : ¬ (n = k ∨ n ∈ names r) := fun hc => hm (List.mem_cons.2 hc)
      have e : k ≠ n := fun e => hm (.inl e.symm)
      simp only [rset, setA, rset_true, e, and_false, if_false, true_and]
      by_cases hlt : lt n k = true
      · simp [hlt]
      · simp only [hlt, if_false, Bool.false_eq_true]
        rw [← ih h2 (fun hc => hm (.inr hc))]; rfl
theorem szOk_1 (s : Str) : szOk 1 [V.str s] = true := rfl
theorem szOk_8 (t : Tree) : szOk 8 [t.val] = true := by simp [szOk, okN_tree]
theorem strs_1 (l : List Str) (s : Str) : strs l ++ [V.str s] = strs (l ++ [s]) := by simp [strs]
theorem trs_1 (l : List Tree) (t : Tree) : trs l ++ [t.val] = trs (l ++ [t]) := by simp [trs]
theorem len1 (x : V) : [x].length = 1 := rfl
theorem rset_loop (t : Tree) (n : Str) (v : Tree) (has : Bool) (hk : t.kind = 7) (hkl : t.k.length ≤ 1000000) (hl : (al t).length ≤ 1000000) (k : Nat) : ∀ (i : Nat) (d : Bool) (ks : List Str) (vs : List Tree), i + k = (al t).length → ks.length ≤ 2 * i → vs.length ≤ 2 * i →
    loopL (L_ref05_Set_1 t.val (.str n) v.val (.bool has)) (vec [.bool d, .int .i64 (i : Int), .int .i64 7, .bool false, .bool false, .sl [], .int .i64 0, .str [], .sl (strs ks), .sl (trs vs)]) =
      some (0, vec [.bool (rset n v has d ((al t).drop i)).1, .int .i64 7, .bool false, .bool false, .sl [], .int .i64 0, .str [], .sl (strs (ks ++ names (rset n v has d ((al t).drop i)).2)), .sl (trs (vs ++ valsL (rset n v has d ((al t).drop i)).2))]) := by
  have hal : al t = t.k.zip t.v := if_pos hk
  have hll : (al t).length = min t.k.length t.v.length := by rw [hal, List.length_zip]
  induction k with
  | zero =>
    intro i d ks vs hi hks hvs
    rw [List.drop_eq_nil_of_le (by omega)]
    apply loopL_inr
    unfold L_ref05_Set_1
    simp only [rset, names, valsL, List.map_nil, List.append_nil]
    by_cases h1 : i < t.k.length
    · have c1 : (i : Int) < (t.k.length : Int) := by omega
      have c2 : ¬ (i : Int) < (t.v.length : Int) := by omega
      simp only [tick_eq, fld6, fld7, some_bind, lenV_sl, strs_len, trs_len, vec_0, vec_s, lss_i, c1, c2, decide_true, decide_false, asBool_b, if_true, Bool.false_eq_true, if_false, elems_sl]
    · have c1 : ¬ (i : Int) < (t.k.length : Int) := by omega
      simp only [tick_eq, fld6, some_bind, lenV_sl, strs_len, vec_0, vec_s, lss_i, c1, decide_false, asBool_b, Bool.false_eq_true, if_false, elems_sl]
  | succ k ih =>
    intro i d ks vs hi hks hvs
    have h1 : i < t.k.length := by omega
    have h2 : i < t.v.length := by omega
    have c1 : (i : Int) < (t.k.length : Int) := by omega
    have c2 : (i : Int) < (t.v.length : Int) := by omega
    have hx : t.k[i]? = some t.k[i] := List.getElem?_eq_getElem h1
    have hy : t.v[i]? = some t.v[i] := List.getElem?_eq_getElem h2
    have hi' : i < (al t).length := by omega
    have hz : (al t)[i] = (t.k[i], t.v[i]) := by simp [hal]
    rw [List.drop_eq_getElem_cons hi', hz]
    generalize hkk : t.k[i] = kk at *
    generalize hww : t.v[i] = ww at *
    have a1 := fun m => app_ok 16 ks.length m
    have a2 := fun m => app_ok 120 vs.length m
    have w := i64_succ (i := i) (by omega)
    simp only [rset]
    by_cases q1 : d = false ∧ kk = n
    · rw [if_pos q1]
      obtain ⟨rfl, rfl⟩ := q1
      have := ih (i + 1) true (ks ++ [kk]) (vs ++ [v]) (by omega) (by simp; omega) (by simp; omega)
      simp only [names, valsL, List.map_cons, List.append_assoc, List.singleton_append] at this ⊢
      rw [← this]
      apply loopL_inl
      unfold L_ref05_Set_1
      simp only [tick_eq, fld0, fld6, fld7, hk, some_bind, lenV_sl, strs_len, trs_len, vec_0, vec_s, lss_i, c1, c2, decide_true, asBool_b, if_true, eql_i, not_b, Bool.not_false, asSl_strs, idx_nat _ i t.k.length h1, strs_get, hx, Option.map_some, fld_str, eql_s, beq_self_eq_true, okN_str, tst_t, szOk_1, elems_sl, len1, app_ok 16 ks.length 1 (by omega) (by omega), okN_tree, szOk_8, app_ok 120 vs.length 1 (by omega) (by omega), add_i, w, strs_1, trs_1]
    · rw [if_neg q1]
      have hb : (if d = false then (kk == n) else false) = false := by
        cases d with
        | true => rfl
        | false => simpa using fun e => q1 ⟨rfl, e⟩
      have e27 : ((if (!d) = true then (binV .eql (.str kk) (.str n)).bind fun x25 => some x25 else some (.bool false) : Option V)) = some (.bool false) := by
        cases d with
        | true => rfl
        | false =>
          have : (kk == n) = false := by simpa using fun e => q1 ⟨rfl, e⟩
          simp only [tick_eq, Bool.not_false, if_true, eql_s, some_bind, this]
      by_cases q2 : d = false ∧ has = false ∧ lt n kk = true
      · rw [if_pos q2]
        obtain ⟨rfl, rfl, hlt⟩ := q2
        have hne : (kk == n) = false := by simpa using fun e => q1 ⟨rfl, e⟩
        have hlt2 : Op.bytesLess kk n = false := lt_asymm hlt
        have := ih (i + 1) true (ks ++ [n] ++ [kk]) (vs ++ [v] ++ [ww]) (by omega) (by simp; omega) (by simp; omega)
        simp only [names, valsL, List.map_cons, List.append_assoc, List.cons_append, List.nil_append] at this ⊢
        rw [← this]
        apply loopL_inl
        unfold L_ref05_Set_1
        simp only [tick_eq, fld0, fld6, fld7, hk, some_bind, lenV_sl, strs_len, trs_len, vec_0, vec_s, lss_i, c1, c2, decide_true, asBool_b, if_true, eql_i, not_b, Bool.not_false, asSl_strs, asSl_trs, idx_nat _ i t.k.length h1, idx_nat _ i t.v.length h2, strs_get, trs_get, hx, hy, Option.map_some, fld_str, eql_s, hne, Bool.false_eq_true, if_false, gtr_s, hlt2, Bool.or_false, Bool.not_false, okN_str, tst_t, szOk_1, elems_sl, len1, app_ok 16 ks.length 1 (by omega) (by omega), okN_tree, szOk_8, app_ok 120 vs.length 1 (by omega) (by omega), add_i, w, strs_1, trs_1, strs_len, trs_len, List.length_append, List.length_singleton, app_ok 16 (ks.length + 1) 1 (by omega) (by omega), app_ok 120 (vs.length + 1) 1 (by omega) (by omega), List.append_assoc, List.cons_append, List.nil_append]
      · rw [if_neg q2]
        have := ih (i + 1) d (ks ++ [kk]) (vs ++ [ww]) (by omega) (by simp; omega) (by simp; omega)
        simp only [names, valsL, List.map_cons, List.append_assoc, List.singleton_append] at this ⊢
        rw [← this]
        apply loopL_inl
        unfold L_ref05_Set_1
        cases d with
        | true =>
          simp only [tick_eq, fld0, fld6, fld7, hk, some_bind, lenV_sl, strs_len, trs_len, vec_0, vec_s, lss_i, c1, c2, decide_true, asBool_b, if_true, eql_i, not_b, Bool.not_true, Bool.false_eq_true, if_false, asSl_strs, asSl_trs, idx_nat _ i t.k.length h1, idx_nat _ i t.v.length h2, strs_get, trs_get, hx, hy, Option.map_some, fld_str, okN_str, tst_t, szOk_1, elems_sl, len1, app_ok 16 ks.length 1 (by omega) (by omega), okN_tree, szOk_8, app_ok 120 vs.length 1 (by omega) (by omega), add_i, w, strs_1, trs_1]
        | false =>
          have hne : (kk == n) = false := by simpa using fun e => q1 ⟨rfl, e⟩
          cases has with
          | true =>
            simp only [tick_eq, fld0, fld6, fld7, hk, some_bind, lenV_sl, strs_len, trs_len, vec_0, vec_s, lss_i, c1, c2, decide_true, asBool_b, if_true, eql_i, not_b, Bool.not_true, Bool.not_false, Bool.false_eq_true, if_false, asSl_strs, asSl_trs, idx_nat _ i t.k.length h1, idx_nat _ i t.v.length h2, strs_get, trs_get, hx, hy, Option.map_some, fld_str, eql_s, hne, okN_str, tst_t, szOk_1, elems_sl, len1, app_ok 16 ks.length 1 (by omega) (by omega), okN_tree, szOk_8, app_ok 120 vs.length 1 (by omega) (by omega), add_i, w, strs_1, trs_1]
          | false =>
            have hlt : lt n kk = false := by
              cases hc : lt n kk with
              | false => rfl
              | true => exact (q2 ⟨rfl, rfl, hc⟩).elim
            have hlt2 : Op.bytesLess kk n = true := lt_total (fun e => q1 ⟨rfl, e.symm⟩) hlt
            simp only [tick_eq, fld0, fld6, fld7, hk, some_bind, lenV_sl, strs_len, trs_len, vec_0, vec_s, lss_i, c1, c2, decide_true, asBool_b, if_true, eql_i, not_b, Bool.not_true, Bool.not_false, Bool.false_eq_true, if_false, asSl_strs, asSl_trs, idx_nat _ i t.k.length h1, idx_nat _ i t.v.length h2, strs_get, trs_get, hx, hy, Option.map_some, fld_str, eql_s, hne, gtr_s, hlt2, Bool.true_or, okN_str, tst_t, szOk_1, elems_sl, len1, app_ok 16 ks.length 1 (by omega) (by omega), okN_tree, szOk_8, app_ok 120 vs.length 1 (by omega) (by omega), add_i, w, strs_1, trs_1]
theorem rset_ok (t : Tree) (n : Str) (v : Tree) (hs : SrtA (al t)) (hkl : t.k.length ≤ 1000000) (hl : (al t).length ≤ 1000000) : P0 f_ref05_Set [.v t.val, .v (.str n), .v v.val] [] = some ((obj (setA n v (al t))).val, []) := by
  rw [eq_ref05_Set]; unfold F_ref05_Set
  have hloop : loopL (L_ref05_Set_1 t.val (.str n) v.val (.bool (lk n (al t)).isSome)) (vec [.bool false, .int .i64 0, .int .i64 7, .bool false, .bool false, .sl [], .int .i64 0, .str [], .sl [], .sl []]) =
      some (0, vec [.bool (rset n v (lk n (al t)).isSome false (al t)).1, .int .i64 7, .bool false, .bool false, .sl [], .int .i64 0, .str [], .sl (strs (names (rset n v (lk n (al t)).isSome false (al t)).2)), .sl (trs (valsL (rset n v (lk n (al t)).isSome false (al t)).2))]) := by
    by_cases hk : t.kind = 7
    · have h := rset_loop t n v (lk n (al t)).isSome hk hkl hl (al t).length 0 false [] [] (by omega) (by simp) (by simp)
      rw [List.drop_zero, show ((0 : Nat) : Int) = 0 from rfl] at h
      simp only [List.nil_append] at h
      exact h
    · rw [al_of hk]
      apply loopL_inr
      unfold L_ref05_Set_1
      by_cases h1 : 0 < t.k.length
      · have c1 : (0 : Int) < (t.k.length : Int) := by omega
        by_cases h2 : 0 < t.v.length
        · have c2 : (0 : Int) < (t.v.length : Int) := by omega
          simp only [tick_eq, fld0, fld6, fld7, some_bind, lenV_sl, strs_len, trs_len, vec_0, vec_s, lss_i, c1, c2, decide_true, asBool_b, if_true, eql_i, hk, decide_false, Bool.false_eq_true, if_false, elems_sl]
          rfl
        · have c2 : ¬ (0 : Int) < (t.v.length : Int) := by omega
          simp only [tick_eq, fld6, fld7, some_bind, lenV_sl, strs_len, trs_len, vec_0, vec_s, lss_i, c1, c2, decide_true, decide_false, asBool_b, if_true, Bool.false_eq_true, if_false, elems_sl]
          rfl
      · have c1 : ¬ (0 : Int) < (t.k.length : Int) := by omega
        simp only [tick_eq, fld6, some_bind, lenV_sl, strs_len, vec_0, vec_s, lss_i, c1, decide_false, asBool_b, Bool.false_eq_true, if_false, elems_sl]
        rfl
  have hm : ∃ x : Tree, memV n (al t) = .tup [x.val, .bool (lk n (al t)).isSome] := by
    unfold memV
    cases lk n (al t) with
    | none => exact ⟨_, rfl⟩
    | some x => exact ⟨x, rfl⟩
  obtain ⟨x, hm⟩ := hm
  have he := rset_eq (v := v) hs (n := n)
  generalize hg : rset n v (lk n (al t)).isSome false (al t) = g at *
  obtain ⟨d, out⟩ := g
  have hlo : out.length ≤ 2000000 := by
    have : out.length ≤ (setA n v (al t)).length := by rw [← he]; simp
    have := len_set n v (al t)
    omega
  have n1 : (names out).length = out.length := names_len _
  have n2 : (valsL out).length = out.length := valsL_len _
  simp only [tick_eq, okN_tree, tst_t, rmember_ok t n hkl hl, some_bind, hm, ext_tup, List.getElem?_cons_zero, List.getElem?_cons_succ, hloop, vec_0, not_b, asBool_b]
  cases d with
  | true =>
    simp only [if_true, List.append_nil] at he
    simp only [tick_eq, Bool.not_true, Bool.false_eq_true, if_false, vec_s, vec_0, elems_sl, obj_val, ← he]
  | false =>
    have he : out ++ [(n, v)] = setA n v (al t) := he
    have e1 : names (setA n v (al t)) = names out ++ [n] := by rw [← he]; simp [names]
    have e2 : valsL (setA n v (al t)) = valsL out ++ [v] := by rw [← he]; simp [valsL]
    simp only [tick_eq, Bool.not_false, if_true, okN_str, tst_t, fld_str, some_bind, szOk_1, vec_s, vec_0, elems_sl, strs_len, trs_len, len1, app_ok 16 (names out).length 1 (by omega) (by omega), okN_tree, szOk_8, app_ok 120 (valsL out).length 1 (by omega) (by omega), strs_1, trs_1, obj_val, e1, e2]
/- two slices behind one another -/
end Go.Ev
