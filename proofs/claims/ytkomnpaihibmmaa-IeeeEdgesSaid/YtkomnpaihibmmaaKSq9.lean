/- Floats: the signs' law. -/
import Derived.Test.YtkomnpaihibmmaaKSq8
import Derived.Test.YtkomnpaihibmmaaKSr1
set_option linter.all false
namespace Go.Ev
attribute [local irreducible] P0

theorem exact_nf {w : Int} {ex fr : Nat} (h : Fm w ex fr) (b : Nat) (hb : b < 18446744073709551616) (hk : kindN ex (cutE ex fr b) (cutM fr b) ≠ 1) :
    P0 f_ieee_Exact [.v (.int .i64 w), .v (.int .u64 (b : Int))] [] = some (.tup [Nm.zero.val, .bool (decide (kindN ex (cutE ex fr b) (cutM fr b) = 2))], []) := by
  rw [eq_ieee_Exact]; unfold F_ieee_Exact
  have hkd := kind_ok h b hb
  by_cases h2 : kindN ex (cutE ex fr b) (cutM fr b) = 2
  · apply yes; simp [hkd, h2, num_zero]
  · apply yes; simp [hkd, h2, hk, num_zero]
theorem kind_no {w : Int} (h : w ≠ 16 ∧ w ≠ 32 ∧ w ≠ 64) (x : V) : P0 f_ieee_Kind [.v (.int .i64 w), .v x] [] = some (.int .i64 0, []) := by
  rw [eq_ieee_Kind]; unfold F_ieee_Kind
  apply yes; simp [of_no h, okN_fm]
theorem exact_no {w : Int} (h : w ≠ 16 ∧ w ≠ 32 ∧ w ≠ 64) (x : V) : P0 f_ieee_Exact [.v (.int .i64 w), .v x] [] = some (.tup [Nm.zero.val, .bool false], []) := by
  rw [eq_ieee_Exact]; unfold F_ieee_Exact
  apply yes; simp [kind_no h, num_zero]
/-- the number of what is finite may be -/
theorem mk_fin {w : Int} {ex fr : Nat} (h : Fm w ex fr) (e m : Nat) (he : e < 2 ^ ex - 1) (hm : m < 2 ^ fr) (m' j : Nat) (h1 : 0 < m') (h2 : j = 0 ∨ m' % 2 = 1) (h3 : 0 ≤ bitsT ex fr e → j = 0 ∧ m' = bitsM fr e m * 2 ^ (bitsT ex fr e).toNat)
    (h4 : bitsT ex fr e < 0 → (j : Int) ≤ -bitsT ex fr e ∧ bitsM fr e m = m' * 2 ^ ((-bitsT ex fr e).toNat - j)) (neg : Bool) :
    mk neg (m' * 5 ^ j) (-(j : Int)) = (⟨neg, toL (trim (m' * 5 ^ j)).1, -(j : Int) + (trim (m' * 5 ^ j)).2⟩, true) := by
  obtain ⟨_, hfr, hex, hl1, hl2, hx2⟩ := fm_shl h
  have hp52 : (2 : Nat) ^ fr ≤ 2 ^ 52 := Nat.pow_le_pow_right (by decide) hfr
  have hp52' : (2 : Nat) ^ 52 = 4503599627370496 := by decide
  have hbM : bitsM fr e m < 9007199254740992 := by unfold bitsM; split <;> omega
  have heI : (e : Int) < 2 ^ ex := by
    have h1 : e < 2 ^ ex := by omega
    have h2 : ((2 ^ ex : Nat) : Int) = 2 ^ ex := by simp
    omega
  have hT : -1074 ≤ bitsT ex fr e ∧ bitsT ex fr e ≤ 974 := by unfold bitsT; split <;> omega
  have hM0 : m' * 5 ^ j ≠ 0 := Nat.ne_of_gt (Nat.mul_pos h1 (Nat.pow_pos (by decide)))
  unfold mk
  rw [if_neg hM0, if_neg]
  rintro (hb | hb)
  · -- the limbs
    have hlim : (trim (m' * 5 ^ j)).1 < B32 ^ 90 := by
      refine Nat.lt_of_le_of_lt (trim_le _) ?_
      by_cases ht : 0 ≤ bitsT ex fr e
      · obtain ⟨rfl, hmm⟩ := h3 ht
        rw [hmm, Nat.pow_zero, Nat.mul_one]
        calc bitsM fr e m * 2 ^ (bitsT ex fr e).toNat < 9007199254740992 * 2 ^ 974 := Nat.mul_lt_mul_of_lt_of_le hbM (Nat.pow_le_pow_right (by decide) (by omega)) (Nat.pow_pos (by decide))
          _ ≤ B32 ^ 90 := by decide +kernel
      · obtain ⟨hj, hmm⟩ := h4 (by omega)
        have : m' ≤ bitsM fr e m := by rw [hmm]; exact Nat.le_mul_of_pos_right _ (Nat.pow_pos (by decide))
        calc m' * 5 ^ j < 9007199254740992 * 5 ^ 1074 := Nat.mul_lt_mul_of_lt_of_le (by omega) (Nat.pow_le_pow_right (by decide) (by omega)) (Nat.pow_pos (by decide))
          _ ≤ B32 ^ 90 := by decide +kernel
    have := toL_len hlim
    omega
  · have htens : (trim (m' * 5 ^ j)).2 ≤ 320 ∧ -1074 ≤ -(j : Int) := by
      by_cases ht : 0 ≤ bitsT ex fr e
      · obtain ⟨rfl, hmm⟩ := h3 ht
        refine ⟨trim_tens ?_, by omega⟩
        rw [hmm, Nat.pow_zero, Nat.mul_one]
        calc bitsM fr e m * 2 ^ (bitsT ex fr e).toNat < 9007199254740992 * 2 ^ 974 := Nat.mul_lt_mul_of_lt_of_le hbM (Nat.pow_le_pow_right (by decide) (by omega)) (Nat.pow_pos (by decide))
          _ ≤ 10 ^ 320 := by decide +kernel
      · obtain ⟨hj, hmm⟩ := h4 (by omega)
        have hm' : m' ≤ bitsM fr e m := by rw [hmm]; exact Nat.le_mul_of_pos_right _ (Nat.pow_pos (by decide))
        refine ⟨?_, by omega⟩
        rcases h2 with rfl | h2
        · refine trim_tens ?_
          rw [Nat.pow_zero, Nat.mul_one]
          exact Nat.lt_of_lt_of_le (show m' < 9007199254740992 by omega) (by decide +kernel)
        · have : (m' * 5 ^ j) % 10 ≠ 0 := by
            intro h0
            have h5 : (m' * 5 ^ j) % 2 = 1 := by rw [Nat.mul_mod, Nat.pow_mod, h2]; simp
            omega
          rw [trim_stop (.inr this)]; exact Nat.zero_le _
    omega
/-- the sign's bit turned -/
theorem xor_low (b k j : Nat) (h : j ≤ k) : (b ^^^ 2 ^ k) % 2 ^ j = b % 2 ^ j := by
  rw [Nat.xor_mod_two_pow]
  have : 2 ^ k % 2 ^ j = 0 := Nat.mod_eq_zero_of_dvd (Nat.pow_dvd_pow 2 h)
  rw [this, Nat.xor_zero]
theorem cutE_low (ex fr b : Nat) : cutE ex fr b = b % 2 ^ (ex + fr) / 2 ^ fr := by
  unfold cutE; rw [Nat.add_comm, Nat.pow_add, Nat.mod_mul_right_div_self]
theorem cutM_low (ex fr b : Nat) : cutM fr b = b % 2 ^ (ex + fr) % 2 ^ fr := by
  unfold cutM; rw [Nat.mod_mod_of_dvd _ (Nat.pow_dvd_pow 2 (by omega))]
theorem cutN_flip (ex fr b : Nat) : cutN ex fr (b ^^^ 2 ^ (ex + fr)) = !cutN ex fr b := by
  have h := Nat.testBit_xor b (2 ^ (ex + fr)) (ex + fr)
  rw [Nat.testBit_two_pow_self] at h
  rw [Nat.testBit_eq_decide_div_mod_eq, Nat.testBit_eq_decide_div_mod_eq] at h
  have e : ∀ x : Nat, decide (x % 2 ≠ 0) = decide (x % 2 = 1) := fun x => by
    rcases Nat.mod_two_eq_zero_or_one x with h | h <;> simp [h]
  unfold cutN
  rw [e, e, h, Bool.xor_true]
theorem cut_lt {ex fr b : Nat} : cutE ex fr b < 2 ^ ex ∧ cutM fr b < 2 ^ fr := ⟨Nat.mod_lt _ (Nat.pow_pos (by decide)), Nat.mod_lt _ (Nat.pow_pos (by decide))⟩
theorem kind_fin {ex e m : Nat} (h : kindN ex e m = 1) (he : e < 2 ^ ex) : e < 2 ^ ex - 1 ∧ ¬ (e = 0 ∧ m = 0) := by
  unfold kindN at h
  split at h
  · cases h
  · split at h
    · cases h
    · split at h
      · cases h
      · next h1 h2 h3 => exact ⟨by omega, h3⟩
end Go.Ev
