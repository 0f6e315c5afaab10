/- The law of halves. -/
import Derived.Test.YtkomnpaihibmmaaKSx3
import Derived.Test.YtkomnpaihibmmaaRows
import Derived.Test.YtkomnpaihibmmaaKSp
set_option linter.all false
namespace Go.Ev
attribute [local irreducible] P0

theorem five_loop (n : Nat) (ps : List V) (hn : n ≤ 11) (k : Nat) : ∀ i, i + k = n → loopL (L_law03_IeeeHalves_1 (.int .i64 (n : Int), ps)) (vec [.int .u64 ((5 ^ i : Nat) : Int), .int .i64 (i : Int)]) = some (0, vec [.int .u64 ((5 ^ n : Nat) : Int)]) := by
  induction k with
  | zero =>
    intro i hi
    have e : i = n := by omega
    subst e
    apply loopL_inr
    unfold L_law03_IeeeHalves_1
    have c1 : ¬ ((i : Int) < (i : Int)) := by omega
    simp only [tick_eq, vec_0, vec_s, lss_i, c1, decide_false, some_bind, asBool_b, Bool.false_eq_true, if_false]
  | succ k ih =>
    intro i hi
    rw [← ih (i + 1) (by omega)]
    apply loopL_inl
    unfold L_law03_IeeeHalves_1
    have c1 : (i : Int) < (n : Int) := by omega
    have hle : 5 ^ (i + 1) ≤ 5 ^ 11 := Nat.pow_le_pow_right (by decide) (by omega)
    have h11 : (5 : Nat) ^ 11 = 48828125 := by decide
    have w1 : IntKind.u64.wrap (((5 ^ i : Nat) : Int) * 5) = ((5 ^ (i + 1) : Nat) : Int) := by
      have : ((5 ^ i : Nat) : Int) * 5 = ((5 ^ (i + 1) : Nat) : Int) := by rw [Nat.pow_succ]; rw [Int.natCast_mul]; rfl
      rw [this]; exact wu64 ⟨Int.natCast_nonneg _, Int.ofNat_le.2 (show 5 ^ (i + 1) ≤ 18446744073709551615 by omega)⟩
    have w2 : IntKind.i64.wrap ((i : Int) + 1) = ((i + 1 : Nat) : Int) := w64 (a := (i : Int) + 1) (by omega)
    simp only [tick_eq, vec_0, vec_s, lss_i, c1, decide_true, some_bind, asBool_b, if_true, mul_i, w1, add_i, w2]
theorem bl_half {m : Nat} (h : m ≠ 0) : bl m = bl (m / 2) + 1 := by
  by_cases h1 : m / 2 = 0
  · have : m = 1 := by omega
    subst this; rfl
  · have := bl_shift (n := m) (s := 1) (by rw [Nat.pow_one]; exact h1)
    rw [Nat.pow_one] at this; omega
theorem count_loop (f : Nat) : ∀ (m c : Nat), m < 2 ^ f → m < 9223372036854775808 → c + f ≤ 1000000 → loopL L_law03_IeeeHalves_2 (vec [.int .i64 (c : Int), .int .i64 (m : Int)]) = some (0, vec [.int .i64 ((c + bl m : Nat) : Int)]) := by
  induction f with
  | zero =>
    intro m c h _ _
    have : m = 0 := by simpa using h
    subst this
    apply loopL_inr
    unfold L_law03_IeeeHalves_2
    have c1 : ¬ ((0 : Int) < ((0 : Nat) : Int)) := by decide
    simp only [tick_eq, vec_0, vec_s, gtr_i, c1, decide_false, some_bind, asBool_b, Bool.false_eq_true, if_false, bl_zero, Nat.add_zero]
  | succ f ih =>
    intro m c h h2 hc
    by_cases h0 : m = 0
    · subst h0
      apply loopL_inr
      unfold L_law03_IeeeHalves_2
      have c1 : ¬ ((0 : Int) < ((0 : Nat) : Int)) := by decide
      simp only [tick_eq, vec_0, vec_s, gtr_i, c1, decide_false, some_bind, asBool_b, Bool.false_eq_true, if_false, bl_zero, Nat.add_zero]
    · have := ih (m / 2) (c + 1) (by rw [Nat.div_lt_iff_lt_mul (by decide)]; rw [Nat.pow_succ] at h; exact h) (by omega) (by omega)
      rw [bl_half h0, show c + (bl (m / 2) + 1) = c + 1 + bl (m / 2) by omega, ← this]
      apply loopL_inl
      unfold L_law03_IeeeHalves_2
      have c1 : (0 : Int) < (m : Int) := by omega
      have w1 : IntKind.i64.wrap ((c : Int) + 1) = ((c + 1 : Nat) : Int) := w64 (a := (c : Int) + 1) (by omega)
      have hs : binV .shr (.int .i64 (m : Int)) (.int .u64 1) = some (.int .i64 ((m / 2 : Nat) : Int)) := by
        rw [shr_i _ _ _ _ (by decide)]
        have hp : (2 : Int) ^ Nat.min (1 : Int).toNat (IntKind.bits .i64) = 2 := by decide
        rw [hp, Int.fdiv_eq_ediv_of_nonneg _ (by decide)]
        congr 2
      simp only [tick_eq, vec_0, vec_s, gtr_i, c1, decide_true, some_bind, asBool_b, if_true, add_i, w1, hs]
theorem halves_w {w : Int} {ex fr : Nat} (h : Fm w ex fr) (v k which : Int) (neg : Bool) (m e : Nat) (hm : m % 2 = 1) (hm2 : m < 1152921504606846976) (he : e ≤ 11)
    (hv : (P0 f_law00_Place [.v (.int .i64 v), .v (.int .i64 576460752303423488)] []).bind (fun r5 => (binV .mul (.int .i64 2) r5.1).bind fun x6 => binV .add x6 (.int .i64 1)) = some (.int .i64 (m : Int)))
    (hk : ∃ ps, P0 f_law00_Place [.v (.int .i64 k), .v (.int .i64 12)] [] = some (.int .i64 (e : Int), ps))
    (hp : (P0 f_law00_Place [.v (.int .i64 which), .v (.int .i64 3)] []).bind (fun r1 => ixaV false 3 1 (.agg [(.int .i64 16), (.int .i64 32), (.int .i64 64)]) r1.1) = some (.int .i64 w))
    (hp2 : (P0 f_law00_Place [.v (.int .i64 which), .v (.int .i64 3)] []).bind (fun r1 => ixaV false 3 1 (.agg [(.int .i64 11), (.int .i64 24), (.int .i64 53)]) r1.1) = some (.int .i64 ((fr : Int) + 1)))
    (hp3 : (P0 f_law00_Place [.v (.int .i64 which), .v (.int .i64 3)] []).bind (fun r1 => ixaV false 3 1 (.agg [(.int .i64 16), (.int .i64 128), (.int .i64 1024)]) r1.1) = some (.int .i64 (2 ^ (ex - 1)))) :
    P0 f_law03_IeeeHalves [.v (.int .i64 v), .v (.int .i64 k), .v (.int .i64 which), .v (.bool neg)] [] = some (.bool true, []) := by
  obtain ⟨f1, f2, f3, f4, f5, f6, _⟩ := fm_facts h
  obtain ⟨r1, hr1, hix⟩ := Option.bind_eq_some_iff.1 hp
  rw [hr1, some_bind] at hp2 hp3
  obtain ⟨r5, hr5, hv⟩ := Option.bind_eq_some_iff.1 hv
  obtain ⟨x6, hx6, hv⟩ := Option.bind_eq_some_iff.1 hv
  obtain ⟨ps, hk⟩ := hk
  have hfive := five_loop e ps he e 0 (by omega)
  rw [Nat.pow_zero, show ((1 : Nat) : Int) = 1 from rfl, show ((0 : Nat) : Int) = 0 from rfl] at hfive
  have h5 : 5 ^ e ≤ 5 ^ 11 := Nat.pow_le_pow_right (by decide) he
  have h11 : (5 : Nat) ^ 11 = 48828125 := by decide
  obtain ⟨l, hl1, hl2, hl3, hl4⟩ := lmul_ok m (5 ^ e) (by omega) (by omega)
  have wm : IntKind.u64.wrap (m : Int) = (m : Int) := wu64 (by omega)
  have wn : IntKind.i64.wrap (0 - (e : Int)) = -(e : Int) := by rw [Int.zero_sub]; exact w64 (by omega)
  have hmk := rmake_ok neg l (-(e : Int)) hl2 (by omega) (by omega)
  rw [hl4] at hmk
  have hm0 : m ≠ 0 := by omega
  have h5p := Nat.pow_pos (n := e) (show 0 < 5 by decide)
  have hnum : mk neg (m * 5 ^ e) (-(e : Int)) = numV neg m (-(e : Int)) := by
    unfold numV
    by_cases h0 : e = 0
    · subst h0; simp
    · rw [if_neg (by omega), show (-(-(e : Int))).toNat = e by omega]
  have hodd : (m * 5 ^ e) % 2 = 1 := by rw [Nat.mul_mod, hm, five_odd]
  have hlen : (toL (m * 5 ^ e)).length ≤ 4 := toL_len (by have := nval_lt' l hl2; rw [hl3, hl4] at this; exact this)
  have hok : mk neg (m * 5 ^ e) (-(e : Int)) = (⟨neg, toL (m * 5 ^ e), -(e : Int)⟩, true) := by
    unfold mk
    rw [trim_odd hodd, if_neg (by omega), if_neg (by simp only; omega)]
    simp
  rw [hok] at hmk
  have hn : numV neg m (-(e : Int)) = (⟨neg, toL (m * 5 ^ e), -(e : Int)⟩, true) := hnum.symm.trans hok
  have hcount := count_loop 60 m 0 (by simpa using hm2) (by omega) (by decide)
  rw [Nat.zero_add, show ((0 : Nat) : Int) = 0 from rfl] at hcount
  have hto := to_num h hm hn
  have hbl : bl m ≤ 60 := bl_mono_lt (k := 60) (by simpa using hm2)
  have wb : IntKind.i64.wrap ((bl m : Int) - (e : Int)) = (bl m : Int) - (e : Int) := w64 (by omega)
  have hfit : (toQ ex fr neg m (-(e : Int))).2 = (decide ((bl m : Int) ≤ (fr : Int) + 1) && decide ((bl m : Int) - (e : Int) ≤ 2 ^ (ex - 1))) := by
    have hl : (2 : Int) - 2 ^ (ex - 1) - fr ≤ -(e : Int) := by omega
    unfold toQ
    generalize (2 : Int) ^ (ex - 1) = p at *
    by_cases c1 : (bl m : Int) ≤ (fr : Int) + 1
    · by_cases c2 : (bl m : Int) - (e : Int) ≤ p
      · rw [if_neg (by omega)]; simp [c1, c2]
      · rw [if_pos (by omega)]; simp [c1, c2]
    · rw [if_pos (by omega)]; simp [c1]
  have hsame := samenum_ok (Nm.mk neg (toL (m * 5 ^ e)) (-(e : Int))) (Nm.mk neg (toL (m * 5 ^ e)) (-(e : Int))) (by simp only; omega)
  simp only [and_self, decide_true] at hsame
  rw [eq_law03_IeeeHalves]; unfold F_law03_IeeeHalves
  apply yes
  simp only [tick_eq, hr1, some_bind, hix, hp2, hr5, hx6, hv, hk, hfive, vec_0, cvi_i, wm, hl1, neg_i, wn, hmk, ext_tup, List.getElem?_cons_zero, List.getElem?_cons_succ, okN_nm, tst_t, hcount, hto, leq_i, asBool_b]
  by_cases cf : (toQ ex fr neg m (-(e : Int))).2 = true
  · rw [cf] at hfit
    rw [cf]
    have hc := hfit.symm
    rw [Bool.and_eq_true, decide_eq_true_eq, decide_eq_true_eq] at hc
    obtain ⟨hx, _⟩ := exact_toQ h hm cf
    rw [hn] at hx
    obtain ⟨_, _, a3, _, _, _, a7⟩ := bits_toQ f6 hm cf
    have hsh : ∃ S : Int, IntKind.i64.wrap (w - 1) = S ∧ IntKind.u64.wrap S = ((ex + fr : Nat) : Int) ∧ ex + fr < 64 := by
      cases h
      · exact ⟨15, by decide, by decide, by decide⟩
      · exact ⟨31, by decide, by decide, by decide⟩
      · exact ⟨63, by decide, by decide, by decide⟩
    obtain ⟨S, hS1, hS2, hS3⟩ := hsh
    have hshr := shr_u64 (toQ ex fr neg m (-(e : Int))).1 .u64 (ex + fr) hS3
    have hbit : (decide ((((toQ ex fr neg m (-(e : Int))).1 / 2 ^ (ex + fr) : Nat) : Int) = 1)) = neg := by
      unfold cutN at a3
      have h4 : (toQ ex fr neg m (-(e : Int))).1 / 2 ^ (ex + fr) < 2 := by
        rw [Nat.div_lt_iff_lt_mul (Nat.pow_pos (by decide)), Nat.mul_comm, ← Nat.pow_succ]; exact a7
      generalize (toQ ex fr neg m (-(e : Int))).1 / 2 ^ (ex + fr) = s at *
      rw [← a3]
      have h5 : s = 0 ∨ s = 1 := by omega
      rcases h5 with rfl | rfl <;> decide
    generalize (toQ ex fr neg m (-(e : Int))).1 = d at *
    simp only [tick_eq, vec_0, hc.1, hc.2, decide_true, asBool_b, if_true, some_bind, sub_i, wb, hr1, hp3, leq_i, hx, ext_tup, List.getElem?_cons_zero, List.getElem?_cons_succ, okN_nm, tst_t, not_b, Bool.not_true]
    simp only [tick_eq, Bool.false_eq_true, if_false, asBool_b, some_bind, beq_self_eq_true, Bool.not_true, not_b, hsame, if_true, sub_i, hS1, cvi_i, hS2, hshr, eql_i, hbit, awake3]
    simp [hsame, hS1, hS2, hshr, awake3]
  · have cf' : (toQ ex fr neg m (-(e : Int))).2 = false := by simpa using cf
    have h0 : (toQ ex fr neg m (-(e : Int))).1 = 0 := by
      unfold toQ at cf' ⊢
      split at cf' <;> first | rfl | cases cf'
      split <;> first | rfl | (next h1 h2 => exact absurd h2 (by assumption))
    rw [cf'] at hfit
    rw [cf', h0]
    have hk2 : kindN ex (cutE ex fr 0) (cutM fr 0) = 2 := by cases h <;> decide
    have hx := exact_nf h 0 (by decide) (by rw [hk2]; decide)
    rw [hk2] at hx
    have hc := hfit.symm
    rw [Bool.and_eq_false_iff, decide_eq_false_iff_not, decide_eq_false_iff_not] at hc
    by_cases c1 : (bl m : Int) ≤ (fr : Int) + 1
    · have c2 := hc.resolve_left (fun h => h c1)
      simp only [tick_eq, vec_0, c1, c2, decide_true, decide_false, asBool_b, if_true, some_bind, sub_i, wb, hr1, hp3, leq_i, hx, ext_tup, List.getElem?_cons_zero, List.getElem?_cons_succ, okN_nm, tst_t, not_b, Bool.not_true, Bool.not_false]
      simp [awake3]
    · simp only [tick_eq, vec_0, c1, decide_false, asBool_b, Bool.false_eq_true, if_false, some_bind, hx, ext_tup, List.getElem?_cons_zero, List.getElem?_cons_succ, okN_nm, tst_t, not_b, Bool.not_true, Bool.not_false]
      simp [awake3]
theorem halves_ok (v k which : Int) (neg : Bool) (hv : -9223372036854775808 ≤ v ∧ v ≤ 9223372036854775807) (hk : -9223372036854775808 ≤ k ∧ k ≤ 9223372036854775807) (hw : -9223372036854775808 ≤ which ∧ which ≤ 9223372036854775807) :
    P0 f_law03_IeeeHalves [.v (.int .i64 v), .v (.int .i64 k), .v (.int .i64 which), .v (.bool neg)] [] = some (.bool true, []) := by
  have hpv := goplace_ok v 576460752303423488 (by decide) hv
  have v1 := Int.emod_nonneg v (show (576460752303423488 : Int) ≠ 0 by decide)
  have v2 := Int.emod_lt_of_pos v (show (0 : Int) < 576460752303423488 by decide)
  have hpk := goplace_ok k 12 (by decide) hk
  have k1 := Int.emod_nonneg k (show (12 : Int) ≠ 0 by decide)
  have k2 := Int.emod_lt_of_pos k (show (0 : Int) < 12 by decide)
  have hp := goplace_ok which 3 (by decide) hw
  have h1 := Int.emod_nonneg which (show (3 : Int) ≠ 0 by decide)
  have h2 := Int.emod_lt_of_pos which (show (0 : Int) < 3 by decide)
  have h3 : which % 3 = 0 ∨ which % 3 = 1 ∨ which % 3 = 2 := by omega
  obtain ⟨a, ha⟩ := Int.eq_ofNat_of_zero_le v1
  obtain ⟨e, he⟩ := Int.eq_ofNat_of_zero_le k1
  have w1 : IntKind.i64.wrap (2 * (a : Int)) = 2 * (a : Int) := w64 (by omega)
  have w2 : IntKind.i64.wrap (2 * (a : Int) + 1) = ((2 * a + 1 : Nat) : Int) := w64 (a := 2 * (a : Int) + 1) (by omega)
  have hv' : (P0 f_law00_Place [.v (.int .i64 v), .v (.int .i64 576460752303423488)] []).bind (fun r5 => (binV .mul (.int .i64 2) r5.1).bind fun x6 => binV .add x6 (.int .i64 1)) = some (.int .i64 ((2 * a + 1 : Nat) : Int)) := by
    rw [hpv, ha]
    simp only [tick_eq, some_bind, mul_i, w1, add_i, w2]
  have hk' : ∃ ps, P0 f_law00_Place [.v (.int .i64 k), .v (.int .i64 12)] [] = some (.int .i64 (e : Int), ps) := ⟨[], by rw [hpk, he]⟩
  have hm2 : 2 * a + 1 < 1152921504606846976 := by omega
  have hel : e ≤ 11 := by omega
  rcases h3 with h3 | h3 | h3
  · exact halves_w .w16 v k which neg _ e (by omega) hm2 hel hv' hk' (by rw [hp, h3]; kernel_rfl) (by rw [hp, h3]; kernel_rfl) (by rw [hp, h3]; kernel_rfl)
  · exact halves_w .w32 v k which neg _ e (by omega) hm2 hel hv' hk' (by rw [hp, h3]; kernel_rfl) (by rw [hp, h3]; kernel_rfl) (by rw [hp, h3]; kernel_rfl)
  · exact halves_w .w64 v k which neg _ e (by omega) hm2 hel hv' hk' (by rw [hp, h3]; kernel_rfl) (by rw [hp, h3]; kernel_rfl) (by rw [hp, h3]; kernel_rfl)
theorem pure_IeeeHalves {n0 n1 n2 n3 : Nat} {xs ys zs us : List V} (hx : Ty Go.Proofs.Try.prog n0 3 xs) (hy : Ty Go.Proofs.Try.prog n1 3 ys) (hz : Ty Go.Proofs.Try.prog n2 3 zs) (hu : Ty Go.Proofs.Try.prog n3 4 us) :
    P0 f_law03_IeeeHalves ([mkV Go.Proofs.Try.prog 3 xs, mkV Go.Proofs.Try.prog 3 ys, mkV Go.Proofs.Try.prog 3 zs, mkV Go.Proofs.Try.prog 4 us].map .v) [] = some (.bool true, []) := by
  obtain ⟨a, ha, ea⟩ := ty_int Go.Proofs.Try.underlying3 hx
  obtain ⟨b, hb, eb⟩ := ty_int Go.Proofs.Try.underlying3 hy
  obtain ⟨c, hc, ec⟩ := ty_int Go.Proofs.Try.underlying3 hz
  obtain ⟨d, ed⟩ := ty_bool Go.Proofs.Try.underlying4 hu
  rw [ea, eb, ec, ed]
  exact halves_ok a b c d (wf_i64 ha) (wf_i64 hb) (wf_i64 hc)
end Go.Ev
