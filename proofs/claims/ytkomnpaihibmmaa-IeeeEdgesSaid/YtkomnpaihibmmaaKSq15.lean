/- Floats: the bits of a number, whole; the shortest. -/
import Derived.Test.YtkomnpaihibmmaaKSq14
set_option linter.all false
namespace Go.Ev
attribute [local irreducible] P0

theorem odd_part {n : Nat} (h : n ≠ 0) : (odd2 n).1 ≠ 0 ∧ (odd2 n).1 ≤ n ∧ (odd2 n).2 < bl n + 1 := by
  obtain ⟨h1, h2⟩ := odd2_spec h
  have h3 : (odd2 n).1 ≠ 0 := by omega
  refine ⟨h3, ?_, ?_⟩
  · calc (odd2 n).1 ≤ (odd2 n).1 * 2 ^ (odd2 n).2 := Nat.le_mul_of_pos_right _ (Nat.pow_pos (by decide))
      _ = n := h2.symm
  · have := bl_mul (s := (odd2 n).2) h3
    rw [← h2] at this; omega
theorem toL_bl (n : Nat) : bl n ≤ 32 * (toL n).length := bl_mono_lt (by rw [← B32_pow]; have := nval_lt' _ (toL_u32 n); rwa [nval_toL] at this)
theorem toL_mono {a b : Nat} (h : a ≤ b) : (toL a).length ≤ (toL b).length := toL_len (Nat.lt_of_le_of_lt h (by have := nval_lt' _ (toL_u32 b); rwa [nval_toL] at this))
theorem five_len (k : Nat) (h : k ≤ 1200) : (toL (5 ^ k)).length ≤ 88 := by
  apply toL_len
  calc 5 ^ k ≤ 5 ^ 1200 := Nat.pow_le_pow_right (by decide) h
    _ < B32 ^ 88 := by decide +kernel
theorem mul_len (a b : Nat) : (toL (a * b)).length ≤ (toL a).length + (toL b).length := by
  apply toL_len
  have h1 := nval_lt' _ (toL_u32 a)
  have h2 := nval_lt' _ (toL_u32 b)
  rw [nval_toL] at h1 h2
  rw [Nat.pow_add]
  exact Nat.mul_lt_mul'' h1 h2
theorem to_ok {w : Int} {ex fr : Nat} (h : Fm w ex fr) (neg : Bool) (m : Nat) (e : Int) (hn : NumOk m e) :
    P0 f_ieee_To [.v (.int .i64 w), .v (Nm.mk neg (toL m) e).val] [] = some (.tup [.int .u64 ((toR ex fr neg m e).1 : Int), .bool (toR ex fr neg m e).2], []) := by
  have hchk := ncheck_ok neg m e hn
  obtain ⟨h0, h1, h2, h3, h4⟩ := hn
  have hne : toL m ≠ [] := fun h => h0 (toL_nil.1 h)
  have hlen : ((((toL m).length : Nat) : Int) == 0) = false := by
    have := List.length_pos_iff.2 hne
    simp; omega
  have hof := of_w h
  rw [eq_ieee_To]; unfold F_ieee_To
  apply yes
  generalize hR : toR ex fr neg m e = R
  simp only [tick_eq, okN_nm, tst_t, hof, some_bind, ext_tup, List.getElem?_cons_zero, List.getElem?_cons_succ, okN_fm, not_b, Bool.not_true, asBool_b, hchk, Bool.false_eq_true, if_false, if_true, fld_nm0, fld_nm1, fld_nm2, vec_0, vec_s, lenV_sl, limbs_len, hlen]
  by_cases he : 0 ≤ e
  · obtain ⟨k, rfl⟩ := Int.eq_ofNat_of_zero_le he
    have hR2 : R = toQ ex fr neg (odd2 (m * 5 ^ k)).1 ((k : Int) + ((odd2 (m * 5 ^ k)).2 : Int)) := by
      rw [← hR]; unfold toR tenQ; rw [if_pos he, Int.toNat_natCast]
    rw [hR2]
    have hpw : P0 f_nat_Pow [.v (.int .u32 5), .v (.int .i64 (k : Int))] [] = _ := npow_ok 5 k (by decide) (by omega)
    have h5 := five_len k (by omega)
    have hmul := nmul_ok (toL m) (toL (5 ^ k)) (toL_u32 _) (toL_u32 _) (by omega)
    rw [nval_toL, nval_toL] at hmul
    have hM : m * 5 ^ k ≠ 0 := Nat.ne_of_gt (Nat.mul_pos (by omega) (Nat.pow_pos (by decide)))
    have hl := mul_len m (5 ^ k)
    have hodd := odd_ok _ hM (by omega)
    obtain ⟨o1, o2, o3⟩ := odd_part hM
    have hb := toL_bl (m * 5 ^ k)
    have hql := toL_mono o2
    have w1 : IntKind.i64.wrap ((k : Int) + ((odd2 (m * 5 ^ k)).2 : Int)) = (k : Int) + ((odd2 (m * 5 ^ k)).2 : Int) := w64 (by omega)
    have c1 : ¬ ((k : Int) < 0) := by omega
    simp only [tick_eq, hpw, some_bind, hmul, lss_i, c1, decide_false, asBool_b, Bool.false_eq_true, if_false, vec_0, vec_s, lenV_sl, List.length_nil, show (decide (((0 : Nat) : Int) > 0)) = false from rfl, hodd, ext_tup, List.getElem?_cons_zero, List.getElem?_cons_succ, add_i, w1]
    exact to_tail h neg _ _ o1 (by omega) (by omega)
  · obtain ⟨k, hk⟩ : ∃ k : Nat, -e = (k : Int) := ⟨(-e).toNat, by omega⟩
    have hk' : (-e).toNat = k := by omega
    have hpw0 : P0 f_nat_Pow [.v (.int .u32 5), .v (.int .i64 e)] [] = _ := npow_neg 5 e (by decide) (by omega)
    have hpw : P0 f_nat_Pow [.v (.int .u32 5), .v (.int .i64 (k : Int))] [] = _ := npow_ok 5 k (by decide) (by omega)
    have h5 := five_len k (by omega)
    have hmul := nmul_ok (toL m) (toL 1) (toL_u32 _) (toL_u32 _) (by rw [show (toL 1).length = 1 from rfl]; omega)
    have hp5 := Nat.pow_pos (n := k) (show 0 < 5 by decide)
    have hdiv := ndiv_ok (toL m) (toL (5 ^ k)) (toL_u32 _) (toL_u32 _) (by omega) (by omega) (by rw [nval_toL]; omega)
    rw [nval_toL, nval_toL] at hdiv
    have c1 : e < 0 := by omega
    have w0 : IntKind.i64.wrap (0 - e) = (k : Int) := by rw [show 0 - e = (k : Int) by omega]; exact w64 (by omega)
    simp only [tick_eq, hpw0, some_bind, hmul, lss_i, c1, decide_true, asBool_b, if_true, neg_i, w0, hpw, hdiv, ext_tup, List.getElem?_cons_zero, List.getElem?_cons_succ, vec_0, vec_s, lenV_sl, limbs_len]
    by_cases hr : m % 5 ^ k = 0
    · have hR2 : R = toQ ex fr neg (odd2 (m / 5 ^ k)).1 (e + ((odd2 (m / 5 ^ k)).2 : Int)) := by
        rw [← hR]; unfold toR tenQ; rw [if_neg he, hk', if_neg (by omega)]
      rw [hR2, hr, toL_zero]
      have hM : m / 5 ^ k ≠ 0 := by
        intro h6
        have := Nat.div_add_mod m (5 ^ k)
        rw [h6, hr] at this; simp at this; exact h0 this.symm
      have hle : m / 5 ^ k ≤ m := Nat.div_le_self _ _
      have hl := toL_mono hle
      have hodd := odd_ok _ hM (by omega)
      obtain ⟨o1, o2, o3⟩ := odd_part hM
      have hb := toL_bl (m / 5 ^ k)
      have hql := toL_mono o2
      have w1 : IntKind.i64.wrap (e + ((odd2 (m / 5 ^ k)).2 : Int)) = e + ((odd2 (m / 5 ^ k)).2 : Int) := w64 (by omega)
      simp only [tick_eq, vec_0, vec_s, List.length_nil, show (decide (((0 : Nat) : Int) > 0)) = false from rfl, Bool.false_eq_true, if_false, hodd, some_bind, ext_tup, List.getElem?_cons_zero, List.getElem?_cons_succ, add_i, w1]
      have ht2 : -100000 ≤ e + ((odd2 (m / 5 ^ k)).2 : Int) ∧ e + ((odd2 (m / 5 ^ k)).2 : Int) ≤ 100000 := by clear hR2 hpw0 hpw hmul hdiv hodd hchk hof; omega
      exact to_tail h neg _ _ o1 (by omega) ht2
    · have hR2 : R = (0, false) := by
        rw [← hR]; unfold toR tenQ; rw [if_neg he, hk', if_pos hr]
      rw [hR2]
      have hne2 : toL (m % 5 ^ k) ≠ [] := fun h => hr (toL_nil.1 h)
      have : (decide ((((toL (m % 5 ^ k)).length : Nat) : Int) > 0)) = true := by
        have := List.length_pos_iff.2 hne2
        simp; omega
      simp only [tick_eq, this, if_true]
      simp
theorem to_zero {w : Int} {ex fr : Nat} (h : Fm w ex fr) : P0 f_ieee_To [.v (.int .i64 w), .v Nm.zero.val] [] = some (.tup [.int .u64 0, .bool true], []) := by
  have hof := of_w h
  unfold Nm.zero
  have hchk : P0 f_num_Check [.v (Nm.mk false [] 0).val] [] = some (.bool true, []) := by
    rw [eq_num_Check]; unfold F_num_Check
    apply yes; simp
  rw [eq_ieee_To]; unfold F_ieee_To
  apply yes
  simp only [tick_eq, okN_nm, tst_t, hof, some_bind, ext_tup, List.getElem?_cons_zero, List.getElem?_cons_succ, okN_fm, not_b, Bool.not_true, asBool_b, hchk, Bool.false_eq_true, if_false, if_true, fld_nm0, fld_nm1, fld_nm2, vec_0, vec_s, lenV_sl, limbs_len, Nm.zero, List.length_nil]
  simp
end Go.Ev
