/- The reference's floats: which numbers may be; the bits of a number. -/
import Derived.Test.YtkomnpaihibmmaaKSr4
import Derived.Test.YtkomnpaihibmmaaKSx2
set_option linter.all false
namespace Go.Ev
attribute [local irreducible] P0

theorem trim_none (n : Nat) : (trim n).2 = 0 ↔ n = 0 ∨ n % 10 ≠ 0 := by
  constructor
  · intro h
    by_cases h0 : n ≠ 0 ∧ n % 10 = 0
    · rw [trim_step h0.1 h0.2] at h; simp at h
    · omega
  · intro h; rw [trim_stop h]
def okB (n : Nm) : Bool := if n.m = [] then (!n.neg && decide (n.e = 0)) else decide (n.m.length ≤ 90 ∧ lat n.m (n.m.length - 1) ≠ 0 ∧ -1200 ≤ n.e ∧ n.e ≤ 1200 ∧ nval n.m % 10 ≠ 0)
theorem last_ne {l : List Nat} (h : l ≠ []) (h2 : lat l (l.length - 1) ≠ 0) : Nrm l ∧ nval l ≠ 0 := by
  have hp := List.length_pos_iff.2 h
  have hn : Nrm l := by
    unfold Nrm; intro h3
    unfold lat at h2; rw [h3] at h2; exact h2 rfl
  exact ⟨hn, fun h0 => h (nrm_nil hn h0)⟩
theorem okB_num {n : Nm} (hu : U32 n.m) (h : okB n = true) (hm : n.m ≠ []) : n = ⟨n.neg, toL (nval n.m), n.e⟩ ∧ NumOk (nval n.m) n.e := by
  unfold okB at h
  rw [if_neg hm, decide_eq_true_eq] at h
  obtain ⟨h1, h2, h3, h4, h5⟩ := h
  obtain ⟨a1, a2⟩ := last_ne hm h2
  have e := nrm_toL n.m a1 hu
  refine ⟨?_, a2, h5, by rw [← e]; exact h1, h3, h4⟩
  cases n; simp only at e ⊢; rw [← e]
theorem ncheck_gen (n : Nm) (hu : U32 n.m) (hl : n.m.length ≤ 1000) : P0 f_num_Check [.v n.val] [] = some (.bool (okB n), []) := by
  rw [eq_num_Check]; unfold F_num_Check
  unfold okB
  by_cases h0 : n.m = []
  · rw [if_pos h0]
    cases hn : n.neg <;> (apply yes; simp [h0, hn])
  · have hp := List.length_pos_iff.2 h0
    rw [if_neg h0]
    have ht := ntrim_ok n.m hu (by omega)
    have e2 := w64 (a := (n.m.length : Int) - 1) (by omega)
    have e3 := idx_i .i64 ((n.m.length : Int) - 1) n.m.length (by omega)
    have e4 : ((n.m.length : Int) - 1).toNat = n.m.length - 1 := by omega
    have e8 : n.m.length - 1 < n.m.length := by omega
    have e5 : n.m[n.m.length - 1] = lat n.m (n.m.length - 1) := by unfold lat; rw [List.getElem?_eq_getElem e8]; rfl
    by_cases c1 : n.m.length ≤ 90
    · have c1' : ¬ ((90 : Int) < (n.m.length : Int)) ∧ (n.m.length : Int) ≤ 90 := by omega
      by_cases c2 : lat n.m (n.m.length - 1) = 0
      · apply yes; simp [h0, c1', e2, e3, e4, e8, e5, c2]
      · by_cases c3 : n.e < -1200
        · have c3' : ¬ (-1200 ≤ n.e) := by omega
          apply yes; simp [h0, c1', e2, e3, e4, e8, e5, c2, c3, c3']
        · have c3' : ¬ (n.e < -1200) ∧ -1200 ≤ n.e := by omega
          by_cases c4 : 1200 < n.e
          · have c4' : ¬ (n.e ≤ 1200) := by omega
            apply yes; simp [h0, c1', e2, e3, e4, e8, e5, c2, c3', c4, c4']
          · have c4' : ¬ (1200 < n.e) ∧ n.e ≤ 1200 := by omega
            have hv := (last_ne h0 c2).2
            have c5 : (trim (nval n.m)).2 = 0 ↔ ¬ nval n.m % 10 = 0 := by rw [trim_none]; omega
            apply yes; simp [h0, c1, c1', e2, e3, e4, e8, e5, c2, c3', c4', ht, c5]
    · have c1' : ((90 : Int) < (n.m.length : Int)) ∧ ¬ (n.m.length : Int) ≤ 90 := by omega
      apply yes; simp [h0, c1', c1]
theorem rcheck_gen (n : Nm) (hu : U32 n.m) (hl : n.m.length ≤ 1000) : P0 f_ref02_Check [.v n.val] [] = some (.bool (okB n), []) := by
  rw [eq_ref02_Check]; unfold F_ref02_Check
  unfold okB
  by_cases h0 : n.m = []
  · rw [if_pos h0]
    cases hn : n.neg <;> (apply yes; simp [h0, hn])
  · have hp := List.length_pos_iff.2 h0
    rw [if_neg h0]
    have ht : P0 f_ref01_Small [.v (.sl (limbs n.m)), .v (.int .u32 10)] [] = _ := rsmall_ok n.m 10 (by decide) (by decide) (by omega) hu
    have e2 := w64 (a := (n.m.length : Int) - 1) (by omega)
    have e3 := idx_i .i64 ((n.m.length : Int) - 1) n.m.length (by omega)
    have e4 : ((n.m.length : Int) - 1).toNat = n.m.length - 1 := by omega
    have e8 : n.m.length - 1 < n.m.length := by omega
    have e5 : n.m[n.m.length - 1] = lat n.m (n.m.length - 1) := by unfold lat; rw [List.getElem?_eq_getElem e8]; rfl
    by_cases c1 : n.m.length ≤ 90
    · have c1' : ¬ ((90 : Int) < (n.m.length : Int)) ∧ (n.m.length : Int) ≤ 90 := by omega
      by_cases c2 : lat n.m (n.m.length - 1) = 0
      · apply yes; simp [h0, c1', e2, e3, e4, e8, e5, c2]
      · by_cases c3 : n.e < -1200
        · have c3' : ¬ (-1200 ≤ n.e) := by omega
          apply yes; simp [h0, c1', e2, e3, e4, e8, e5, c2, c3, c3']
        · have c3' : ¬ (n.e < -1200) ∧ -1200 ≤ n.e := by omega
          by_cases c4 : 1200 < n.e
          · have c4' : ¬ (n.e ≤ 1200) := by omega
            apply yes; simp [h0, c1', e2, e3, e4, e8, e5, c2, c3', c4, c4']
          · have c4' : ¬ (1200 < n.e) ∧ n.e ≤ 1200 := by omega
            have c5 : ((nval n.m % 10 : Nat) : Int) = 0 ↔ nval n.m % 10 = 0 := by omega
            generalize hr : nval n.m % 10 = r at *
            apply yes; simp [h0, c1, c1', e2, e3, e4, e8, e5, c2, c3', c4', ht]
    · have c1' : ((90 : Int) < (n.m.length : Int)) ∧ ¬ (n.m.length : Int) ≤ 90 := by omega
      apply yes; simp [h0, c1', c1]
theorem ris_gen (n : Nm) (hu : U32 n.m) (hl : n.m.length ≤ 1000) : P0 f_ref02_Is [.v n.val] [] = some ((if okB n then n else Nm.zero).val, []) := by
  rw [eq_ref02_Is]; unfold F_ref02_Is
  have h := rcheck_gen n hu hl
  cases hk : okB n <;> rw [hk] at h <;> (apply yes; simp [h, num_zero])
/-- the program's bits of any number -/
theorem to_gen {w : Int} {ex fr : Nat} (h : Fm w ex fr) (n : Nm) (hu : U32 n.m) (hl : n.m.length ≤ 1000) :
    P0 f_ieee_To [.v (.int .i64 w), .v n.val] [] = some (.tup [.int .u64 ((if okB n = true ∧ n.m ≠ [] then toR ex fr n.neg (nval n.m) n.e else (0, true)).1 : Int), .bool (if okB n = true ∧ n.m ≠ [] then toR ex fr n.neg (nval n.m) n.e else (0, true)).2], []) := by
  by_cases hc : okB n = true ∧ n.m ≠ []
  · rw [if_pos hc]
    obtain ⟨h1, h2⟩ := okB_num hu hc.1 hc.2
    have := to_ok h n.neg (nval n.m) n.e h2
    rw [← h1] at this
    exact this
  · rw [if_neg hc]
    have hchk := ncheck_gen n hu hl
    have hof := of_w h
    rw [eq_ieee_To]; unfold F_ieee_To
    apply yes
    cases hk : okB n with
    | false =>
      rw [hk] at hchk
      simp only [tick_eq, okN_nm, tst_t, hof, some_bind, ext_tup, List.getElem?_cons_zero, List.getElem?_cons_succ, okN_fm, not_b, Bool.not_true, Bool.not_false, asBool_b, hchk, Bool.false_eq_true, if_false, if_true, vec_0, vec_s, lenV_sl, List.length_nil]
      simp
    | true =>
      rw [hk] at hchk
      have hm : n.m = [] := by
        by_cases h : n.m = []
        · exact h
        · exact absurd ⟨hk, h⟩ hc
      simp only [tick_eq, okN_nm, tst_t, hof, some_bind, ext_tup, List.getElem?_cons_zero, List.getElem?_cons_succ, okN_fm, not_b, Bool.not_true, asBool_b, hchk, Bool.false_eq_true, if_false, if_true, fld_nm0, fld_nm1, fld_nm2, vec_0, vec_s, lenV_sl, limbs_len, hm, List.length_nil]
      simp
theorem to_none {w : Int} (h : w ≠ 16 ∧ w ≠ 32 ∧ w ≠ 64) (n : Nm) : P0 f_ieee_To [.v (.int .i64 w), .v n.val] [] = some (.tup [.int .u64 0, .bool false], []) := by
  rw [eq_ieee_To]; unfold F_ieee_To
  apply yes
  simp only [tick_eq, okN_nm, tst_t, of_no h, some_bind, ext_tup, List.getElem?_cons_zero, List.getElem?_cons_succ, okN_fm, not_b, Bool.not_false, asBool_b, if_true, vec_0, vec_s]
  simp
theorem rto_none {w : Int} (h : w ≠ 16 ∧ w ≠ 32 ∧ w ≠ 64) (n : Nm) (hu : U32 n.m) (hl : n.m.length ≤ 1000) : P0 f_ref03_To [.v (.int .i64 w), .v n.val] [] = some (.tup [.int .u64 0, .bool false], []) := by
  rw [eq_ref03_To]; unfold F_ref03_To
  apply yes
  simp only [tick_eq, okN_nm, tst_t, parts_no h, some_bind, ext_tup, List.getElem?_cons_zero, List.getElem?_cons_succ, ris_gen n hu hl, eql_i, decide_true, asBool_b, show (true = false) = False by decide, if_false, if_true, gtr_i, show ((0 : Int) < 0) = False by decide, decide_false]
  rw [Yes_some]
end Go.Ev
