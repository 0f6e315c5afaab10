/- Sameness. -/
import Derived.Test.YtineambfljmbgaaDoorKSv7
set_option linter.all false
namespace Go.Ev
attribute [local irreducible] P0
theorem lens_ne (a b : Nat) : (((a : Nat) : Int) != ((b : Nat) : Int)) = !decide (a = b) := by
  by_cases h : a = b
  · subst h; simp
  · have : ¬ ((a : Int) = (b : Int)) := by omega
    simp [h, bne, this]
theorem seq_loop (a b : List Str) (hl : a.length = b.length) (hb : a.length ≤ 1000000) (k : Nat) : ∀ i, i + k = a.length →
    (a.drop i = b.drop i → loopL (L_slices_Equal_string_1 a.length (.sl (strs a)) (.sl (strs b))) (vec [.int .i64 (i : Int)]) = some (0, vec [])) ∧ (a.drop i ≠ b.drop i → loopL (L_slices_Equal_string_1 a.length (.sl (strs a)) (.sl (strs b))) (vec [.int .i64 (i : Int)]) = some (1, vec [.bool false])) := by
  induction k with
  | zero =>
    intro i hi
    have e1 : a.drop i = [] := List.drop_eq_nil_of_le (by omega)
    have e2 : b.drop i = [] := List.drop_eq_nil_of_le (by omega)
    refine ⟨fun _ => loopL_inr ?_, fun h => absurd (e1.trans e2.symm) h⟩
    unfold L_slices_Equal_string_1
    have c1 : ¬ (i : Int) < (a.length : Int) := by omega
    simp only [tick_eq, vec_0, lss_i, c1, decide_false, some_bind, asBool_b, Bool.false_eq_true, if_false]
  | succ k ih =>
    intro i hi
    have h1 : i < a.length := by omega
    have h2 : i < b.length := by omega
    have c1 : (i : Int) < (a.length : Int) := by omega
    have hx : a[i]? = some a[i] := List.getElem?_eq_getElem h1
    have hy : b[i]? = some b[i] := List.getElem?_eq_getElem h2
    have hd : a.drop i = b.drop i ↔ a[i] = b[i] ∧ a.drop (i + 1) = b.drop (i + 1) := by rw [List.drop_eq_getElem_cons h1, List.drop_eq_getElem_cons h2]; exact List.cons_eq_cons
    by_cases he : a[i] = b[i]
    · have heb : (b[i] == b[i]) = true := by simp
      have step : loopL (L_slices_Equal_string_1 a.length (.sl (strs a)) (.sl (strs b))) (vec [.int .i64 (i : Int)]) = loopL (L_slices_Equal_string_1 a.length (.sl (strs a)) (.sl (strs b))) (vec [.int .i64 ((i + 1 : Nat) : Int)]) := by
        apply loopL_inl
        unfold L_slices_Equal_string_1
        simp only [tick_eq, vec_0, lss_i, c1, decide_true, some_bind, asBool_b, if_true, asSl_strs, strs_len, idx_nat _ i a.length h1, idx_nat _ i b.length h2, strs_get, hx, hy, Option.map_some, fld_str, neq_s, he, heb, Bool.not_true, Bool.false_eq_true, if_false, add_i, i64_succ (i := i) (by omega)]
      rw [step]
      obtain ⟨q1, q2⟩ := ih (i + 1) (by omega)
      exact ⟨fun h => q1 (hd.1 h).2, fun h => q2 (fun e => h (hd.2 ⟨he, e⟩))⟩
    · refine ⟨fun h => absurd (hd.1 h).1 he, fun _ => loopL_inr ?_⟩
      have heb : (a[i] == b[i]) = false := by simpa using he
      unfold L_slices_Equal_string_1
      simp only [tick_eq, vec_0, lss_i, c1, decide_true, some_bind, asBool_b, if_true, asSl_strs, strs_len, idx_nat _ i a.length h1, idx_nat _ i b.length h2, strs_get, hx, hy, Option.map_some, fld_str, neq_s, heb, Bool.not_false]
theorem seq_ok (a b : List Str) (hb : a.length ≤ 1000000) : P0 f_slices_Equal_string [.v (.sl (strs a)), .v (.sl (strs b))] [] = some (.bool (decide (a = b)), []) := by
  rw [eq_slices_Equal_string]; unfold F_slices_Equal_string
  by_cases hl : a.length = b.length
  · have h := seq_loop a b hl hb a.length 0 (by omega)
    rw [List.drop_zero, List.drop_zero, show ((0 : Nat) : Int) = 0 from rfl] at h
    have hn : (((a.length : Nat) : Int) != ((b.length : Nat) : Int)) = false := by rw [lens_ne, decide_eq_true hl]; rfl
    by_cases he : a = b
    · simp only [tick_eq, lenV_sl, strs_len, some_bind, hn, Bool.false_eq_true, if_false, h.1 he, if_true, decide_eq_true he]
    · simp only [tick_eq, lenV_sl, strs_len, some_bind, hn, Bool.false_eq_true, if_false, h.2 he, Nat.one_ne_zero, vec_0, decide_eq_false he]
  · have he : a ≠ b := fun e => hl (by rw [e])
    have hn : (((a.length : Nat) : Int) != ((b.length : Nat) : Int)) = true := by rw [lens_ne, decide_eq_false hl]; rfl
    simp only [tick_eq, lenV_sl, strs_len, some_bind, hn, if_true, decide_eq_false he]
theorem leq_loop (a b : List Nat) (hl : a.length = b.length) (hb : a.length ≤ 1000000) (k : Nat) : ∀ i, i + k = a.length →
    (a.drop i = b.drop i → loopL (L_slices_Equal_uint32_1 a.length (.sl (limbs a)) (.sl (limbs b))) (vec [.int .i64 (i : Int)]) = some (0, vec [])) ∧ (a.drop i ≠ b.drop i → loopL (L_slices_Equal_uint32_1 a.length (.sl (limbs a)) (.sl (limbs b))) (vec [.int .i64 (i : Int)]) = some (1, vec [.bool false])) := by
  induction k with
  | zero =>
    intro i hi
    have e1 : a.drop i = [] := List.drop_eq_nil_of_le (by omega)
    have e2 : b.drop i = [] := List.drop_eq_nil_of_le (by omega)
    refine ⟨fun _ => loopL_inr ?_, fun h => absurd (e1.trans e2.symm) h⟩
    unfold L_slices_Equal_uint32_1
    have c1 : ¬ (i : Int) < (a.length : Int) := by omega
    simp only [tick_eq, vec_0, lss_i, c1, decide_false, some_bind, asBool_b, Bool.false_eq_true, if_false]
  | succ k ih =>
    intro i hi
    have h1 : i < a.length := by omega
    have h2 : i < b.length := by omega
    have c1 : (i : Int) < (a.length : Int) := by omega
    have hx : a[i]? = some a[i] := List.getElem?_eq_getElem h1
    have hy : b[i]? = some b[i] := List.getElem?_eq_getElem h2
    have hd : a.drop i = b.drop i ↔ a[i] = b[i] ∧ a.drop (i + 1) = b.drop (i + 1) := by rw [List.drop_eq_getElem_cons h1, List.drop_eq_getElem_cons h2]; exact List.cons_eq_cons
    by_cases he : a[i] = b[i]
    · have heb : decide ((a[i] : Int) = (b[i] : Int)) = true := decide_eq_true (by omega)
      have step : loopL (L_slices_Equal_uint32_1 a.length (.sl (limbs a)) (.sl (limbs b))) (vec [.int .i64 (i : Int)]) = loopL (L_slices_Equal_uint32_1 a.length (.sl (limbs a)) (.sl (limbs b))) (vec [.int .i64 ((i + 1 : Nat) : Int)]) := by
        apply loopL_inl
        unfold L_slices_Equal_uint32_1
        simp only [tick_eq, vec_0, lss_i, c1, decide_true, some_bind, asBool_b, if_true, asSl_limbs, limbs_len, idx_nat _ i a.length h1, idx_nat _ i b.length h2, limbs_get, hx, hy, Option.map_some, fld_int, neq_i, heb, Bool.not_true, Bool.false_eq_true, if_false, add_i, i64_succ (i := i) (by omega)]
      rw [step]
      obtain ⟨q1, q2⟩ := ih (i + 1) (by omega)
      exact ⟨fun h => q1 (hd.1 h).2, fun h => q2 (fun e => h (hd.2 ⟨he, e⟩))⟩
    · refine ⟨fun h => absurd (hd.1 h).1 he, fun _ => loopL_inr ?_⟩
      have heb : decide ((a[i] : Int) = (b[i] : Int)) = false := decide_eq_false (by omega)
      unfold L_slices_Equal_uint32_1
      simp only [tick_eq, vec_0, lss_i, c1, decide_true, some_bind, asBool_b, if_true, asSl_limbs, limbs_len, idx_nat _ i a.length h1, idx_nat _ i b.length h2, limbs_get, hx, hy, Option.map_some, fld_int, neq_i, heb, Bool.not_false]
theorem leq_ok (a b : List Nat) (hb : a.length ≤ 1000000) : P0 f_slices_Equal_uint32 [.v (.sl (limbs a)), .v (.sl (limbs b))] [] = some (.bool (decide (a = b)), []) := by
  rw [eq_slices_Equal_uint32]; unfold F_slices_Equal_uint32
  by_cases hl : a.length = b.length
  · have h := leq_loop a b hl hb a.length 0 (by omega)
    rw [List.drop_zero, List.drop_zero, show ((0 : Nat) : Int) = 0 from rfl] at h
    have hn : (((a.length : Nat) : Int) != ((b.length : Nat) : Int)) = false := by rw [lens_ne, decide_eq_true hl]; rfl
    by_cases he : a = b
    · simp only [tick_eq, lenV_sl, limbs_len, some_bind, hn, Bool.false_eq_true, if_false, h.1 he, if_true, decide_eq_true he]
    · simp only [tick_eq, lenV_sl, limbs_len, some_bind, hn, Bool.false_eq_true, if_false, h.2 he, Nat.one_ne_zero, vec_0, decide_eq_false he]
  · have he : a ≠ b := fun e => hl (by rw [e])
    have hn : (((a.length : Nat) : Int) != ((b.length : Nat) : Int)) = true := by rw [lens_ne, decide_eq_false hl]; rfl
    simp only [tick_eq, lenV_sl, limbs_len, some_bind, hn, if_true, decide_eq_false he]
theorem nokB_len {n : Nm} (h : nokB n = true) : n.m.length ≤ 90 := by
  unfold nokB at h
  split at h
  · next h0 => rw [h0]; simp
  · rw [decide_eq_true_eq] at h; exact h.1
theorem nof_ok (n : Nm) (hu : U32 n.m) (h : nokB n = true) : P0 f_num_of [.v n.val] [] = some (n.val, []) := by
  have hl := nokB_len h
  rw [eq_num_of]; unfold F_num_of
  simp only [tick_eq, okN_nm, tst_t, ncheck_all n hu (by omega), h, some_bind, not_b, Bool.not_true, asBool_b, Bool.false_eq_true, if_false]
theorem nmsame_ok (a b : Nm) (ha : U32 a.m) (hb : U32 b.m) (h1 : nokB a = true) (h2 : nokB b = true) : P0 f_num_Same [.v a.val, .v b.val] [] = some (.bool (decide (a = b)), []) := by
  have hl := nokB_len h1
  rw [eq_num_Same]; unfold F_num_Same
  have he := leq_ok a.m b.m (by omega)
  by_cases e1 : a.neg = b.neg
  · by_cases e2 : a.e = b.e
    · have d : decide (a.m = b.m) = decide (a = b) := by
        by_cases q : a.m = b.m
        · rw [decide_eq_true q, decide_eq_true (show a = b by cases a; cases b; simp_all)]
        · rw [decide_eq_false q, decide_eq_false (fun e => q (by rw [e]))]
      simp only [tick_eq, okN_nm, tst_t, nof_ok a ha h1, nof_ok b hb h2, some_bind, fld_nm0, fld_nm1, fld_nm2, asBool_b, e1, beq_self_eq_true, if_true, eql_i, e2, decide_true, he, d]
    · have d : decide (a = b) = false := decide_eq_false (fun e => e2 (by rw [e]))
      simp only [tick_eq, okN_nm, tst_t, nof_ok a ha h1, nof_ok b hb h2, some_bind, fld_nm0, fld_nm1, fld_nm2, asBool_b, e1, beq_self_eq_true, if_true, eql_i, e2, decide_false, Bool.false_eq_true, if_false, d]
  · have d : decide (a = b) = false := decide_eq_false (fun e => e1 (by rw [e]))
    have eb : (a.neg == b.neg) = false := by rw [beq_eq_false_iff_ne]; exact e1
    simp only [tick_eq, okN_nm, tst_t, nof_ok a ha h1, nof_ok b hb h2, some_bind, fld_nm0, fld_nm1, fld_nm2, asBool_b, eb, Bool.false_eq_true, if_false, d]
theorem eqf_loop (a b : List Tree) (hl : a.length = b.length) (hb : a.length ≤ 1000000) (f : Nat) (hs : ∀ i (h : i < a.length) (h2 : i < b.length), ∃ r, P0 f [.v a[i].val, .v b[i].val] [] = some (.bool r, []) ∧ (r = true ↔ a[i] = b[i])) (k : Nat) : ∀ i, i + k = a.length →
    (a.drop i = b.drop i → loopL (L_slices_EqualFunc_erratum_api_Tree_1 a.length (.sl (trs a)) (.sl (trs b)) f) (vec [.int .i64 (i : Int)]) = some (0, vec [])) ∧ (a.drop i ≠ b.drop i → loopL (L_slices_EqualFunc_erratum_api_Tree_1 a.length (.sl (trs a)) (.sl (trs b)) f) (vec [.int .i64 (i : Int)]) = some (1, vec [.bool false])) := by
  induction k with
  | zero =>
    intro i hi
    have e1 : a.drop i = [] := List.drop_eq_nil_of_le (by omega)
    have e2 : b.drop i = [] := List.drop_eq_nil_of_le (by omega)
    refine ⟨fun _ => loopL_inr ?_, fun h => absurd (e1.trans e2.symm) h⟩
    unfold L_slices_EqualFunc_erratum_api_Tree_1
    have c1 : ¬ (i : Int) < (a.length : Int) := by omega
    simp only [tick_eq, vec_0, lss_i, c1, decide_false, some_bind, asBool_b, Bool.false_eq_true, if_false]
  | succ k ih =>
    intro i hi
    have h1 : i < a.length := by omega
    have h2 : i < b.length := by omega
    have c1 : (i : Int) < (a.length : Int) := by omega
    have hx : a[i]? = some a[i] := List.getElem?_eq_getElem h1
    have hy : b[i]? = some b[i] := List.getElem?_eq_getElem h2
    obtain ⟨r, hr1, hr2⟩ := hs i h1 h2
    have hd : a.drop i = b.drop i ↔ a[i] = b[i] ∧ a.drop (i + 1) = b.drop (i + 1) := by rw [List.drop_eq_getElem_cons h1, List.drop_eq_getElem_cons h2]; exact List.cons_eq_cons
    cases r with
    | true =>
      have he := hr2.1 rfl
      have step : loopL (L_slices_EqualFunc_erratum_api_Tree_1 a.length (.sl (trs a)) (.sl (trs b)) f) (vec [.int .i64 (i : Int)]) = loopL (L_slices_EqualFunc_erratum_api_Tree_1 a.length (.sl (trs a)) (.sl (trs b)) f) (vec [.int .i64 ((i + 1 : Nat) : Int)]) := by
        apply loopL_inl
        unfold L_slices_EqualFunc_erratum_api_Tree_1
        simp only [tick_eq, vec_0, lss_i, c1, decide_true, some_bind, asBool_b, if_true, asSl_trs, trs_len, idx_nat _ i a.length h1, idx_nat _ i b.length h2, trs_get, hx, hy, Option.map_some, okN_tree, tst_t, hr1, not_b, Bool.not_true, Bool.false_eq_true, if_false, add_i, i64_succ (i := i) (by omega)]
      rw [step]
      obtain ⟨q1, q2⟩ := ih (i + 1) (by omega)
      exact ⟨fun h => q1 (hd.1 h).2, fun h => q2 (fun e => h (hd.2 ⟨he, e⟩))⟩
    | false =>
      have he : a[i] ≠ b[i] := fun e => by have := hr2.2 e; contradiction
      refine ⟨fun h => absurd (hd.1 h).1 he, fun _ => loopL_inr ?_⟩
      unfold L_slices_EqualFunc_erratum_api_Tree_1
      simp only [tick_eq, vec_0, lss_i, c1, decide_true, some_bind, asBool_b, if_true, asSl_trs, trs_len, idx_nat _ i a.length h1, idx_nat _ i b.length h2, trs_get, hx, hy, Option.map_some, okN_tree, tst_t, hr1, not_b, Bool.not_false]
theorem eqf_ok (a b : List Tree) (hb : a.length ≤ 1000000) (f : Nat) (hs : ∀ i (h : i < a.length) (h2 : i < b.length), ∃ r, P0 f [.v a[i].val, .v b[i].val] [] = some (.bool r, []) ∧ (r = true ↔ a[i] = b[i])) :
    ∃ r, P0 f_slices_EqualFunc_erratum_api_Tree [.v (.sl (trs a)), .v (.sl (trs b)), .fn f []] [] = some (.bool r, []) ∧ (r = true ↔ a = b) := by
  rw [eq_slices_EqualFunc_erratum_api_Tree]; unfold F_slices_EqualFunc_erratum_api_Tree
  by_cases hl : a.length = b.length
  · have h := eqf_loop a b hl hb f hs a.length 0 (by omega)
    rw [List.drop_zero, List.drop_zero, show ((0 : Nat) : Int) = 0 from rfl] at h
    have hn : (((a.length : Nat) : Int) != ((b.length : Nat) : Int)) = false := by rw [lens_ne, decide_eq_true hl]; rfl
    by_cases he : a = b
    · exact ⟨true, by simp only [tick_eq, lenV_sl, trs_len, some_bind, hn, Bool.false_eq_true, if_false, h.1 he, if_true], fun _ => he, fun _ => rfl⟩
    · exact ⟨false, by simp only [tick_eq, lenV_sl, trs_len, some_bind, hn, Bool.false_eq_true, if_false, h.2 he, Nat.one_ne_zero, vec_0], fun q => by contradiction, fun q => absurd q he⟩
  · have he : a ≠ b := fun e => hl (by rw [e])
    have hn : (((a.length : Nat) : Int) != ((b.length : Nat) : Int)) = true := by rw [lens_ne, decide_eq_false hl]; rfl
    exact ⟨false, by simp only [tick_eq, lenV_sl, trs_len, some_bind, hn, if_true], fun q => by contradiction, fun q => absurd q he⟩
/-- what a value is, by its kind -/
theorem numZ_eq {n : Nm} (h : numZ n = true) : n = .zero := by
  unfold numZ at h
  simp only [Bool.and_eq_true, Bool.not_eq_true', decide_eq_true_eq] at h
  obtain ⟨⟨h1, h2⟩, h3⟩ := h
  cases n; simp_all [Nm.zero]
theorem k0_eq {t : Tree} (h : k0 t = true) : t.k = [] := by
  unfold k0 at h; have := eq_of_beq h
  exact List.eq_nil_of_length_eq_zero (by omega)
theorem v0_eq {t : Tree} (h : v0 t = true) : t.v = [] := by
  unfold v0 at h; have := eq_of_beq h
  exact List.eq_nil_of_length_eq_zero (by omega)
theorem Tree.eta (t : Tree) : t = .mk t.kind t.b t.n t.s t.k t.v := by cases t; rfl
theorem own_kind {t : Tree} (h : ownB t = true) : t.kind = 1 ∨ t.kind = 2 ∨ t.kind = 3 ∨ t.kind = 4 ∨ t.kind = 5 ∨ t.kind = 6 ∨ t.kind = 7 := by
  unfold ownB at h
  repeat' (split at h)
  all_goals first
    | contradiction
    | omega
theorem own_shape {t : Tree} (h : ownB t = true) :
    (t.kind = 1 → t = .mk 1 false .zero [] [] []) ∧ (t.kind = 2 → t = .mk 2 t.b .zero [] [] []) ∧ (t.kind = 3 → t = .mk 3 false t.n [] [] [] ∧ nokB t.n = true) ∧ (t.kind = 4 → t = .mk 4 false .zero t.s [] []) ∧ (t.kind = 5 → t = .mk 5 false .zero t.s [] []) ∧
    (t.kind = 6 → t = .mk 6 false .zero [] [] t.v) ∧ (t.kind = 7 → t = .mk 7 false .zero [] t.k t.v ∧ NmsP t.k ∧ t.k.length = t.v.length) := by
  refine ⟨fun hk => ?_, fun hk => ?_, fun hk => ?_, fun hk => ?_, fun hk => ?_, fun hk => ?_, fun hk => ?_⟩
  · rw [own_1 hk] at h
    simp only [Bool.and_eq_true, Bool.not_eq_true', decide_eq_true_eq] at h
    obtain ⟨⟨⟨⟨h1, h2⟩, h3⟩, h4⟩, h5⟩ := h
    have e := t.eta
    rw [hk, h1, numZ_eq h2, h3, k0_eq h4, v0_eq h5] at e; exact e
  · rw [own_2 hk] at h
    simp only [Bool.and_eq_true, Bool.not_eq_true', decide_eq_true_eq, Bool.true_and] at h
    obtain ⟨⟨⟨h2, h3⟩, h4⟩, h5⟩ := h
    have e := t.eta
    rw [hk, numZ_eq h2, h3, k0_eq h4, v0_eq h5] at e; exact e
  · rw [own_3 hk] at h
    simp only [Bool.and_eq_true, Bool.not_eq_true', decide_eq_true_eq] at h
    obtain ⟨⟨⟨⟨h1, h2⟩, h3⟩, h4⟩, h5⟩ := h
    have e := t.eta
    rw [hk, h1, h3, k0_eq h4, v0_eq h5] at e; exact ⟨e, h2⟩
  · rw [own_4 hk] at h
    simp only [Bool.and_eq_true, Bool.not_eq_true', decide_eq_true_eq] at h
    obtain ⟨⟨⟨⟨h1, h2⟩, h3⟩, h4⟩, h5⟩ := h
    have e := t.eta
    rw [hk, h1, numZ_eq h2, k0_eq h4, v0_eq h5] at e; exact e
  · rw [own_5 hk] at h
    simp only [Bool.and_eq_true, Bool.not_eq_true', decide_eq_true_eq] at h
    obtain ⟨⟨⟨⟨h1, h2⟩, h3⟩, h4⟩, h5⟩ := h
    have e := t.eta
    rw [hk, h1, numZ_eq h2, k0_eq h4, v0_eq h5] at e; exact e
  · rw [own_6 hk] at h
    simp only [Bool.and_eq_true, Bool.not_eq_true', decide_eq_true_eq] at h
    obtain ⟨⟨⟨⟨h1, h2⟩, h3⟩, h4⟩, h5⟩ := h
    have e := t.eta
    rw [hk, h1, numZ_eq h2, h3, k0_eq h4] at e; exact e
  · rw [own_7 hk] at h
    simp only [Bool.and_eq_true, Bool.not_eq_true', decide_eq_true_eq] at h
    obtain ⟨⟨⟨⟨h1, h2⟩, h3⟩, h4, h4'⟩, h5⟩ := h
    have e := t.eta
    rw [hk, h1, numZ_eq h2, h3] at e; exact ⟨e, (nmsB_iff _).1 h4, h4'⟩
theorem TameT.tame {t : Tree} (h : TameT t) : Tame t := by cases h; assumption
theorem TameT.sub {t : Tree} (h : TameT t) : ∀ x, x ∈ t.v → TameT x := by cases h; assumption
theorem tsame_ok : ∀ a, OkG a → TameT a → ∀ b, OkG b → TameT b → ∃ r, P0 f_tree_Same [.v a.val, .v b.val] [] = some (.bool r, []) ∧ (r = true ↔ a = b) := by
  intro a
  induction a using Tree.ind with
  | h a ih =>
  intro ha ta b hb tb
  rw [eq_tree_Same]; unfold F_tree_Same
  by_cases hk : a.kind = b.kind
  · obtain ⟨a1, a2, a3, a4, a5, a6, a7⟩ := own_shape ha.own
    obtain ⟨b1, b2, b3, b4, b5, b6, b7⟩ := own_shape hb.own
    have hva := own_len ha.own
    have z4 : ((4 : Nat) = 0) = False := by decide
    have z41 : ((4 - 1 : Nat) = 0) = False := by decide
    have z411 : ((4 - 1 - 1 : Nat) = 0) = False := by decide
    have z4111 : ((4 - 1 - 1 - 1 : Nat) = 0) = False := by decide
    have z3 : ((3 : Nat) = 0) = False := by decide
    have z31 : ((3 - 1 : Nat) = 0) = False := by decide
    have z311 : ((3 - 1 - 1 : Nat) = 0) = False := by decide
    have z3111 : ((3 - 1 - 1 - 1 : Nat) = 0) = True := by decide
    have z2 : ((2 : Nat) = 0) = False := by decide
    have z21 : ((2 - 1 : Nat) = 0) = False := by decide
    have z211 : ((2 - 1 - 1 : Nat) = 0) = True := by decide
    have z11 : ((1 - 1 : Nat) = 0) = True := by decide
    obtain ⟨rv, hv1, hv2⟩ := eqf_ok a.v b.v (by omega) f_tree_Same (fun i h1 h2 => ih _ (List.getElem_mem h1) (ha.sub _ (List.getElem_mem h1)) (ta.sub _ (List.getElem_mem h1)) _ (hb.sub _ (List.getElem_mem h2)) (tb.sub _ (List.getElem_mem h2)))
    rcases own_kind ha.own with h | h | h | h | h | h | h
    · refine ⟨true, ?_, fun _ => ?_, fun _ => rfl⟩
      · simp only [tick_eq, okN_tree, tst_t, fld0, some_bind, neq_i, h, (hk ▸ h : b.kind = _), decide_true, Bool.not_true, asBool_b, Bool.false_eq_true, if_false, eql_i, Int.reduceEq, decide_false, if_true]
      · rw [a1 h, b1 (hk ▸ h)]
    · refine ⟨a.b == b.b, ?_, ?_⟩
      · simp only [tick_eq, okN_tree, tst_t, fld0, fld1, some_bind, neq_i, h, (hk ▸ h : b.kind = _), decide_true, Bool.not_true, asBool_b, Bool.false_eq_true, if_false, eql_i, Int.reduceEq, decide_false, if_true, z4, z41, z411, z4111, vec_0]
      · rw [beq_iff_eq]
        constructor
        · intro e; rw [a2 h, b2 (hk ▸ h), e]
        · intro e; rw [e]
    · obtain ⟨a3', an⟩ := a3 h
      obtain ⟨b3', bn⟩ := b3 (hk ▸ h)
      refine ⟨decide (a.n = b.n), ?_, ?_⟩
      · simp only [tick_eq, okN_tree, tst_t, fld0, some_bind, neq_i, h, (hk ▸ h : b.kind = _), decide_true, Bool.not_true, asBool_b, Bool.false_eq_true, if_false, eql_i, Int.reduceEq, decide_false, if_true, subV_nm, nmsame_ok a.n b.n ta.tame.1 tb.tame.1 an bn, z4, z41, z411, z4111, vec_0]
      · rw [decide_eq_true_eq]
        constructor
        · intro e; rw [a3', b3', e]
        · intro e; rw [e]
    · refine ⟨a.s == b.s, ?_, ?_⟩
      · simp only [tick_eq, okN_tree, tst_t, fld0, fld5, some_bind, neq_i, h, (hk ▸ h : b.kind = _), decide_true, Bool.not_true, asBool_b, Bool.false_eq_true, if_false, eql_i, Int.reduceEq, decide_false, if_true, z3, z31, z311, z3111, eql_s]
      · rw [beq_iff_eq]
        constructor
        · intro e; rw [a4 h, b4 (hk ▸ h), e]
        · intro e; rw [e]
    · refine ⟨a.s == b.s, ?_, ?_⟩
      · simp only [tick_eq, okN_tree, tst_t, fld0, fld5, some_bind, neq_i, h, (hk ▸ h : b.kind = _), decide_true, Bool.not_true, asBool_b, Bool.false_eq_true, if_false, eql_i, Int.reduceEq, decide_false, if_true, z3, z31, z311, z3111, eql_s]
      · rw [beq_iff_eq]
        constructor
        · intro e; rw [a5 h, b5 (hk ▸ h), e]
        · intro e; rw [e]
    · refine ⟨rv, ?_, ?_⟩
      · simp only [tick_eq, okN_tree, tst_t, fld0, fld7, some_bind, neq_i, h, (hk ▸ h : b.kind = _), decide_true, Bool.not_true, asBool_b, Bool.false_eq_true, if_false, eql_i, Int.reduceEq, decide_false, if_true, z2, z21, z211, hv1]
      · rw [hv2]
        constructor
        · intro e; rw [a6 h, b6 (hk ▸ h), e]
        · intro e; rw [e]
    · obtain ⟨a7', an, al⟩ := a7 h
      obtain ⟨b7', bn, bl⟩ := b7 (hk ▸ h)
      have hks := seq_ok a.k b.k (by have := an.2; omega)
      by_cases q : a.k = b.k
      · rw [decide_eq_true q] at hks
        refine ⟨rv, ?_, ?_⟩
        · simp only [tick_eq, okN_tree, tst_t, fld0, fld6, fld7, some_bind, neq_i, h, (hk ▸ h : b.kind = _), decide_true, Bool.not_true, asBool_b, Bool.false_eq_true, if_false, eql_i, Int.reduceEq, decide_false, if_true, Nat.one_ne_zero, z11, hks, hv1]
        · rw [hv2]
          constructor
          · intro e; rw [a7', b7', q, e]
          · intro e; rw [e]
      · rw [decide_eq_false q] at hks
        refine ⟨false, ?_, fun e => by contradiction, fun e => absurd (by rw [e]) q⟩
        simp only [tick_eq, okN_tree, tst_t, fld0, fld6, fld7, some_bind, neq_i, h, (hk ▸ h : b.kind = _), decide_true, Bool.not_true, asBool_b, Bool.false_eq_true, if_false, eql_i, Int.reduceEq, decide_false, if_true, Nat.one_ne_zero, z11, hks]
  · refine ⟨false, ?_, fun e => by contradiction, fun e => absurd (congrArg Tree.kind e) hk⟩
    simp only [tick_eq, okN_tree, tst_t, fld0, some_bind, neq_i, hk, decide_false, Bool.not_false, asBool_b, if_true]
end Go.Ev
