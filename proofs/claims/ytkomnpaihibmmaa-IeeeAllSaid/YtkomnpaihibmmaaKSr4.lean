/- The reference's floats: kinds, the number that bits are. -/
import Derived.Test.YtkomnpaihibmmaaKSr3
set_option linter.all false
namespace Go.Ev
attribute [local irreducible] P0

theorem parts_w {w : Int} {ex fr : Nat} (h : Fm w ex fr) : P0 f_ref03_parts [.v (.int .i64 w)] [] = some (.tup [.int .i64 (ex : Int), .int .i64 (fr : Int)], []) := by
  rw [eq_ref03_parts]; unfold F_ref03_parts
  cases h <;> (apply yes; simp)
theorem parts_no {w : Int} (h : w ≠ 16 ∧ w ≠ 32 ∧ w ≠ 64) : P0 f_ref03_parts [.v (.int .i64 w)] [] = some (.tup [.int .i64 0, .int .i64 0], []) := by
  rw [eq_ref03_parts]; unfold F_ref03_parts
  apply yes; simp [h.1, h.2.1, h.2.2]
theorem mask_facts {w : Int} {ex fr : Nat} (h : Fm w ex fr) : IntKind.u64.wrap (ex : Int) = (ex : Int) ∧ IntKind.u64.wrap (fr : Int) = (fr : Int) ∧ IntKind.u64.wrap ((ex + fr : Nat) : Int) = ((ex + fr : Nat) : Int) ∧
    binV .shl (.int .u64 1) (.int .u64 (ex : Int)) = some (.int .u64 ((2 ^ ex : Nat) : Int)) ∧ binV .sub (.int .u64 ((2 ^ ex : Nat) : Int)) (.int .u64 1) = some (.int .u64 ((2 ^ ex - 1 : Nat) : Int)) ∧
    binV .shl (.int .u64 1) (.int .u64 (fr : Int)) = some (.int .u64 ((2 ^ fr : Nat) : Int)) ∧ binV .sub (.int .u64 ((2 ^ fr : Nat) : Int)) (.int .u64 1) = some (.int .u64 ((2 ^ fr - 1 : Nat) : Int)) := by
  cases h <;> exact ⟨by decide, by decide, by decide, by kernel_rfl, by kernel_rfl, by kernel_rfl, by kernel_rfl⟩
theorem split_ok {w : Int} {ex fr : Nat} (h : Fm w ex fr) (b : Nat) (hb : b < 18446744073709551616) :
    P0 f_ref03_split [.v (.int .i64 w), .v (.int .u64 (b : Int))] [] = some (.tup [.bool (cutN ex fr b), .int .u64 (cutE ex fr b : Int), .int .u64 (cutM fr b : Int)], []) := by
  obtain ⟨f1, f2, f3, f4, f5, f6, f7, f8, f9, f10⟩ := fm_facts h
  obtain ⟨m1, m2, m3, m4, m5, m6, m7⟩ := mask_facts h
  rw [eq_ref03_split]; unfold F_ref03_split
  have hdiv : ∀ n, b / n < 18446744073709551616 := fun n => Nat.lt_of_le_of_lt (Nat.div_le_self _ _) hb
  have hpe := Nat.pow_pos (n := ex) (show 0 < 2 by decide)
  have hpf := Nat.pow_pos (n := fr) (show 0 < 2 by decide)
  have hle : 2 ^ ex ≤ 2 ^ 53 ∧ 2 ^ fr ≤ 2 ^ 53 := by cases h <;> decide
  have hp53 : (2 : Nat) ^ 53 = 9007199254740992 := by decide
  have s1 := shr_u64 b .u64 (ex + fr) (by omega)
  have s2 := shr_u64 b .u64 fr (by omega)
  have a1 := and_one_u64 (b / 2 ^ (ex + fr)) (hdiv _)
  have a2 := and_mask (b / 2 ^ fr) (2 ^ ex - 1) ex (by omega) (hdiv _) (by omega)
  have a3 := and_mask b (2 ^ fr - 1) fr (by omega) hb (by omega)
  have hbit : decide (((b / 2 ^ (ex + fr) % 2 : Nat) : Int) = 1) = cutN ex fr b := by
    unfold cutN
    rcases Nat.mod_two_eq_zero_or_one (b / 2 ^ (ex + fr)) with h | h <;> rw [h] <;> decide
  apply yes
  simp only [tick_eq, parts_w h, some_bind, ext_tup, List.getElem?_cons_zero, List.getElem?_cons_succ, add_i, f9, cvi_i, m3, s1, a1, eql_i, hbit, m2, s2, m1, m4, m5, a2, m6, m7, a3]
  simp [cutE, cutM]
theorem rkind_ok {w : Int} {ex fr : Nat} (h : Fm w ex fr) (b : Nat) (hb : b < 18446744073709551616) :
    P0 f_ref03_Kind [.v (.int .i64 w), .v (.int .u64 (b : Int))] [] = some (.int .i64 (kindN ex (cutE ex fr b) (cutM fr b)), []) := by
  obtain ⟨m1, m2, m3, m4, m5, m6, m7⟩ := mask_facts h
  have hsp := split_ok h b hb
  have hpw := parts_w h
  have hex0 : ¬ ((ex : Int) = 0) := by cases h <;> decide
  rw [eq_ref03_Kind]; unfold F_ref03_Kind
  generalize cutE ex fr b = e at *
  generalize cutM fr b = m at *
  generalize cutN ex fr b = neg at *
  unfold kindN
  generalize 2 ^ ex - 1 = M at *
  generalize 2 ^ ex = Q at *
  apply yes
  simp only [tick_eq, hpw, some_bind, ext_tup, List.getElem?_cons_zero, List.getElem?_cons_succ, eql_i, hex0, decide_false, asBool_b, Bool.false_eq_true, if_false, hsp, cvi_i, m1, m4, m5]
  by_cases c1 : e = M
  · have c1' : (e : Int) = (M : Int) := by omega
    by_cases c2 : m = 0
    · have c2' : (m : Int) = 0 := by omega
      simp only [tick_eq, c1', c2', decide_true, asBool_b, if_true, some_bind]
      simp [c1, c2]
    · have c2' : ¬ (m : Int) = 0 := by omega
      simp only [tick_eq, c1', c2', decide_true, decide_false, asBool_b, if_true, if_false, some_bind, Bool.false_eq_true, cvi_i, m1, m4, m5, eql_i]
      simp [c1, c2]
  · have c1' : ¬ (e : Int) = (M : Int) := by omega
    by_cases c2 : e = 0
    · have c2' : (e : Int) = 0 := by omega
      by_cases c3 : m = 0
      · have c3' : (m : Int) = 0 := by omega
        have c4 : ¬ ((0 : Int) = (M : Int)) := by omega
        have c5 : ¬ (0 = M) := by omega
        simp only [tick_eq, c1', c4, c2', c3', decide_true, decide_false, asBool_b, if_true, if_false, some_bind, Bool.false_eq_true, cvi_i, m1, m4, m5, eql_i]
        simp [c1, c2, c3, c4, c5]
      · have c3' : ¬ (m : Int) = 0 := by omega
        have c4 : ¬ ((0 : Int) = (M : Int)) := by omega
        have c5 : ¬ (0 = M) := by omega
        simp only [tick_eq, c1', c4, c2', c3', decide_true, decide_false, asBool_b, if_true, if_false, some_bind, Bool.false_eq_true, cvi_i, m1, m4, m5, eql_i]
        simp [c1, c2, c3, c4, c5]
    · have c2' : ¬ (e : Int) = 0 := by omega
      simp only [tick_eq, c1', c2', decide_false, asBool_b, if_false, some_bind, Bool.false_eq_true, cvi_i, m1, m4, m5, eql_i]
      simp [c1, c2]
theorem rkind_no {w : Int} (h : w ≠ 16 ∧ w ≠ 32 ∧ w ≠ 64) (x : V) : P0 f_ref03_Kind [.v (.int .i64 w), .v x] [] = some (.int .i64 0, []) := by
  rw [eq_ref03_Kind]; unfold F_ref03_Kind
  apply yes; simp [parts_no h]
theorem rexact_no {w : Int} (h : w ≠ 16 ∧ w ≠ 32 ∧ w ≠ 64) (x : V) : P0 f_ref03_Exact [.v (.int .i64 w), .v x] [] = some (.tup [Nm.zero.val, .bool false], []) := by
  rw [eq_ref03_Exact]; unfold F_ref03_Exact
  apply yes; simp [rkind_no h, num_zero]
theorem rexact_nf {w : Int} {ex fr : Nat} (h : Fm w ex fr) (b : Nat) (hb : b < 18446744073709551616) (hk : kindN ex (cutE ex fr b) (cutM fr b) ≠ 1) :
    P0 f_ref03_Exact [.v (.int .i64 w), .v (.int .u64 (b : Int))] [] = some (.tup [Nm.zero.val, .bool (decide (kindN ex (cutE ex fr b) (cutM fr b) = 2))], []) := by
  rw [eq_ref03_Exact]; unfold F_ref03_Exact
  have hkd := rkind_ok h b hb
  generalize kindN ex (cutE ex fr b) (cutM fr b) = kd at *
  apply yes; simp [hkd, hk, num_zero]
theorem rexact_fin {w : Int} {ex fr : Nat} (h : Fm w ex fr) (b : Nat) (hb : b < 18446744073709551616) (hk : kindN ex (cutE ex fr b) (cutM fr b) = 1) :
    P0 f_ref03_Exact [.v (.int .i64 w), .v (.int .u64 (b : Int))] [] = some (.tup [(numV (cutN ex fr b) (odd2 (bitsM fr (cutE ex fr b) (cutM fr b))).1 (bitsT ex fr (cutE ex fr b) + (odd2 (bitsM fr (cutE ex fr b) (cutM fr b))).2)).1.val,
      .bool (numV (cutN ex fr b) (odd2 (bitsM fr (cutE ex fr b) (cutM fr b))).1 (bitsT ex fr (cutE ex fr b) + (odd2 (bitsM fr (cutE ex fr b) (cutM fr b))).2)).2], []) := by
  obtain ⟨le, lm⟩ := @cut_lt ex fr b
  obtain ⟨q1, q2⟩ := kind_fin hk le
  obtain ⟨hsh, hfr, hex, hl1, hl2, hx2⟩ := fm_shl h
  obtain ⟨m1, m2, m3, m4, m5, m6, m7⟩ := mask_facts h
  have hkd := rkind_ok h b hb
  have hsp := split_ok h b hb
  rw [hk] at hkd
  have hM : bitsM fr (cutE ex fr b) (cutM fr b) ≠ 0 := by
    have := Nat.pow_pos (n := fr) (show 0 < 2 by decide)
    unfold bitsM; split <;> omega
  rw [← numV_ref (cutN ex fr b) hM (bitsT ex fr (cutE ex fr b))]
  have hpw := parts_w h
  have hleast : ∃ S Q : Int, IntKind.u64.wrap (IntKind.i64.wrap ((ex : Int) - 1)) = S ∧ binV .shl (.int .i64 1) (.int .u64 S) = some (.int .i64 Q) ∧ IntKind.i64.wrap (IntKind.i64.wrap (2 - Q) - (fr : Int)) = leastI ex fr := by
    cases h
    · exact ⟨4, 16, by decide, by kernel_rfl, by decide⟩
    · exact ⟨7, 128, by decide, by kernel_rfl, by decide⟩
    · exact ⟨10, 1024, by decide, by kernel_rfl, by decide⟩
  obtain ⟨S, Q, g1, g2, g3⟩ := hleast
  generalize cutE ex fr b = e at *
  generalize cutM fr b = m at *
  generalize cutN ex fr b = neg at *
  have hp52 : (2 : Nat) ^ fr ≤ 2 ^ 52 := Nat.pow_le_pow_right (by decide) hfr
  have hp52' : (2 : Nat) ^ 52 = 4503599627370496 := by decide
  have hbM : bitsM fr e m < 9007199254740992 := by unfold bitsM; split <;> omega
  have heI : (e : Int) < 2 ^ ex := by
    have h2 : ((2 ^ ex : Nat) : Int) = 2 ^ ex := by simp
    omega
  have hT : -1074 ≤ bitsT ex fr e ∧ bitsT ex fr e ≤ 974 := by unfold bitsT; split <;> omega
  have hor : binV .or (.int .u64 (m : Int)) (.int .u64 ((2 ^ fr : Nat) : Int)) = some (.int .u64 ((m + 2 ^ fr : Nat) : Int)) := by
    have := or_u64 m (2 ^ fr) (by omega) (by omega)
    rw [or_bit m fr lm] at this
    exact this
  obtain ⟨u1, u2, u3, u4, u5, u6⟩ := limb_facts (bitsM fr e m) (by omega)
  have hu : U32 [bitsM fr e m % B32, bitsM fr e m / B32] := by
    intro x hx
    simp at hx
    rcases hx with rfl | rfl
    · exact Nat.mod_lt _ (by decide)
    · exact u6
  have hnv : nval [bitsM fr e m % B32, bitsM fr e m / B32] = bitsM fr e m := by simp only [nval, Nat.mul_zero, Nat.add_zero]; exact Nat.mod_add_div _ B32
  have c1 : IntKind.u32.wrap ((bitsM fr e m : Nat) : Int) = ((bitsM fr e m % B32 : Nat) : Int) := by rw [IntKind.wrap_u32]; unfold B32; omega
  have c2 : binV .shr (.int .u64 ((bitsM fr e m : Nat) : Int)) (.int .u64 32) = some (.int .u64 ((bitsM fr e m / B32 : Nat) : Int)) := by
    have := shr_u64 (bitsM fr e m) .u64 32 (by decide)
    rw [show (2 : Nat) ^ 32 = B32 by decide, show ((32 : Nat) : Int) = 32 by decide] at this
    exact this
  have c3 : IntKind.u32.wrap ((bitsM fr e m / B32 : Nat) : Int) = ((bitsM fr e m / B32 : Nat) : Int) := wu32 ⟨Int.natCast_nonneg _, Int.ofNat_le.2 u2⟩
  have l2 : [V.int .u32 ((bitsM fr e m % B32 : Nat) : Int), V.int .u32 ((bitsM fr e m / B32 : Nat) : Int)] = limbs [bitsM fr e m % B32, bitsM fr e m / B32] := rfl
  -- behind the choice of the fraction and the exponent
  have behind : Yes (α := V × List V) ((cviV .u32 (.int .u64 ((bitsM fr e m : Nat) : Int))).bind fun x26 =>
      (binV .shr (.int .u64 ((bitsM fr e m : Nat) : Int)) (.int .u64 32)).bind fun x27 =>
      (cviV .u32 x27).bind fun x28 =>
      tst (okN 1 x26) ((fldV x26 0).bind fun c29 =>
      tst (okN 1 x28) ((fldV x28 0).bind fun c30 =>
      (binV .geq (.int .i64 (bitsT ex fr e)) (.int .i64 0)).bind fun x31 =>
      (asBool x31).bind fun b32 =>
      if b32 = true then
      (P0 f_ref01_Shift [.v (.sl [c29, c30]), .v (.int .i64 (bitsT ex fr e))] []).bind fun r33 =>
      (P0 f_ref02_Make [.v (.bool neg), .v r33.1, .v (.int .i64 0)] []).bind fun r34 =>
      (extV r34.1 0).bind fun x35 =>
      (extV r34.1 1).bind fun x36 =>
      tst (okN 3 x35) (some ((V.tup [x35, x36]), []))
      else
      (unV .neg (.int .i64 (bitsT ex fr e))).bind fun x37 =>
      (P0 f_ref01_Pow [.v (.int .u32 5), .v x37] []).bind fun r38 =>
      (P0 f_ref01_Mul [.v (.sl [c29, c30]), .v r38.1] []).bind fun r39 =>
      (P0 f_ref02_Make [.v (.bool neg), .v r39.1, .v (.int .i64 (bitsT ex fr e))] []).bind fun r40 =>
      (extV r40.1 0).bind fun x41 =>
      (extV r40.1 1).bind fun x42 =>
      tst (okN 3 x41) (some ((V.tup [x41, x42]), [])))))
      (V.tup [(if 0 ≤ bitsT ex fr e then mk neg (bitsM fr e m * 2 ^ (bitsT ex fr e).toNat) 0 else mk neg (bitsM fr e m * 5 ^ (-bitsT ex fr e).toNat) (bitsT ex fr e)).1.val,
        V.bool (if 0 ≤ bitsT ex fr e then mk neg (bitsM fr e m * 2 ^ (bitsT ex fr e).toNat) 0 else mk neg (bitsM fr e m * 5 ^ (-bitsT ex fr e).toNat) (bitsT ex fr e)).2], []) := by
    simp only [tick_eq, cvi_i, c1, some_bind, c2, c3, okN_int, tst_t, fld_int, geq_i, asBool_b]
    by_cases ht : 0 ≤ bitsT ex fr e
    · obtain ⟨t, htt⟩ := Int.eq_ofNat_of_zero_le ht
      have hs := rshift_ok [bitsM fr e m % B32, bitsM fr e m / B32] t hu (by simp) (by omega)
      rw [hnv] at hs
      have hlen : (toL (bitsM fr e m * 2 ^ t)).length ≤ 40 := by
        apply toL_len
        calc bitsM fr e m * 2 ^ t < 9007199254740992 * 2 ^ 974 := Nat.mul_lt_mul_of_lt_of_le hbM (Nat.pow_le_pow_right (by decide) (by omega)) (Nat.pow_pos (by decide))
          _ ≤ B32 ^ 40 := by decide +kernel
      have hmk := rmake_ok neg (toL (bitsM fr e m * 2 ^ t)) 0 (toL_u32 _) (by omega) (by decide)
      rw [nval_toL] at hmk
      rw [if_pos ht, htt, Int.toNat_natCast]
      have ht2 : (0 : Int) ≤ (t : Int) := by omega
      simp only [tick_eq, ht2, decide_true, if_true, l2, hs, some_bind, hmk, ext_tup, List.getElem?_cons_zero, List.getElem?_cons_succ, okN_nm, tst_t]
      simp
    · obtain ⟨k, hkk⟩ : ∃ k : Nat, -bitsT ex fr e = (k : Int) := ⟨(-bitsT ex fr e).toNat, by omega⟩
      have w0 : IntKind.i64.wrap (0 - bitsT ex fr e) = (k : Int) := by rw [show 0 - bitsT ex fr e = (k : Int) by omega]; exact w64 (by omega)
      have hpow : P0 f_ref01_Pow [.v (.int .u32 5), .v (.int .i64 (k : Int))] [] = _ := rpow_ok 5 k (by decide) (by omega)
      have h5 := five_len k (by omega)
      have hmul := rmul_ok [bitsM fr e m % B32, bitsM fr e m / B32] (toL (5 ^ k)) hu (toL_u32 _) (by simp; omega)
      rw [hnv, nval_toL] at hmul
      have hl := mul_len (bitsM fr e m) (5 ^ k)
      have hlM : (toL (bitsM fr e m)).length ≤ 2 := toL_len (by rw [show B32 ^ 2 = 18446744073709551616 by decide]; omega)
      have hmk := rmake_ok neg (toL (bitsM fr e m * 5 ^ k)) (bitsT ex fr e) (toL_u32 _) (by omega) (by omega)
      rw [nval_toL] at hmk
      rw [if_neg ht, show (-bitsT ex fr e).toNat = k by omega]
      simp only [tick_eq, ht, decide_false, Bool.false_eq_true, if_false, neg_i, w0, some_bind, hpow, l2, hmul, hmk, ext_tup, List.getElem?_cons_zero, List.getElem?_cons_succ, okN_nm, tst_t]
      simp
  rw [eq_ref03_Exact]; unfold F_ref03_Exact
  have hT2 := hT
  generalize hR : (V.tup [(if 0 ≤ bitsT ex fr e then mk neg (bitsM fr e m * 2 ^ (bitsT ex fr e).toNat) 0 else mk neg (bitsM fr e m * 5 ^ (-bitsT ex fr e).toNat) (bitsT ex fr e)).1.val,
        V.bool (if 0 ≤ bitsT ex fr e then mk neg (bitsM fr e m * 2 ^ (bitsT ex fr e).toNat) 0 else mk neg (bitsM fr e m * 5 ^ (-bitsT ex fr e).toNat) (bitsT ex fr e)).2]) = R at *
  apply yes
  by_cases hez : e = 0
  · have w1 : leastI ex fr = bitsT ex fr e := by unfold bitsT; rw [if_pos hez]; omega
    have w2 : m = bitsM fr e m := by unfold bitsM; rw [if_pos hez]
    rw [w1] at g3
    have t0 : ¬ ((0 : Int) < (e : Int)) := by omega
    simp only [tick_eq, hkd, some_bind, neq_i, decide_true, Bool.not_true, asBool_b, Bool.false_eq_true, if_false, hpw, ext_tup, List.getElem?_cons_zero, List.getElem?_cons_succ, hsp, sub_i, cvi_i, g1, g2, g3, gtr_i, t0, decide_false, vec_0, vec_s]
    rw [← w2] at behind
    simp only [tick_eq, cvi_i, some_bind] at behind ⊢
    exact behind
  · have hpos : (0 : Int) < (e : Int) := by omega
    have w0 := w64 (a := (e : Int)) (by omega)
    have w3 : IntKind.i64.wrap (IntKind.i64.wrap (leastI ex fr + (e : Int)) - 1) = bitsT ex fr e := by
      unfold bitsT at hT2 ⊢; rw [if_neg hez] at hT2 ⊢
      rw [w64 (a := leastI ex fr + (e : Int)) (by omega)]
      rw [show leastI ex fr + (e : Int) - 1 = (e : Int) - 1 + leastI ex fr by omega]
      exact w64 (by omega)
    have w2 : m + 2 ^ fr = bitsM fr e m := by unfold bitsM; rw [if_neg hez]
    rw [w2] at hor
    simp only [tick_eq, hkd, some_bind, neq_i, decide_true, Bool.not_true, asBool_b, Bool.false_eq_true, if_false, hpw, ext_tup, List.getElem?_cons_zero, List.getElem?_cons_succ, hsp, sub_i, cvi_i, g1, g2, g3, gtr_i, hpos, if_true, m2, m6, hor, w0, add_i, w3, vec_0, vec_s]
    simp only [tick_eq, cvi_i, some_bind] at behind ⊢
    exact behind
end Go.Ev
