/- The law of floats there and back, for all values of its types. -/
import Derived.Test.YtkomnpaihibmmaaKSx2
import Derived.Test.YtkomnpaihibmmaaRows
import Derived.Test.YtkomnpaihibmmaaKSp
set_option linter.all false
namespace Go.Ev
attribute [local irreducible] P0

theorem cut_join {ex fr b : Nat} (hb : b < 2 ^ (ex + fr + 1)) : cutM fr b + cutE ex fr b * 2 ^ fr + (if cutN ex fr b then 2 ^ (ex + fr) else 0) = b := by
  unfold cutM cutE cutN
  have h1 := Nat.mod_add_div b (2 ^ fr)
  have h2 := Nat.mod_add_div (b / 2 ^ fr) (2 ^ ex)
  have h3 : b / 2 ^ fr / 2 ^ ex = b / 2 ^ (ex + fr) := by rw [Nat.div_div_eq_div_mul, ← Nat.pow_add, Nat.add_comm]
  have h4 : b / 2 ^ (ex + fr) < 2 := by
    rw [Nat.div_lt_iff_lt_mul (Nat.pow_pos (by decide)), Nat.mul_comm, ← Nat.pow_succ]; exact hb
  rw [h3] at h2
  have e1 : 2 ^ (ex + fr) = 2 ^ fr * 2 ^ ex := by rw [Nat.add_comm, Nat.pow_add]
  generalize b / 2 ^ (ex + fr) = s at *
  have h5 : s = 0 ∨ s = 1 := by omega
  rcases h5 with rfl | rfl
  · simp only [Nat.mul_zero, Nat.add_zero] at h2
    rw [h2]
    simp
    rw [Nat.mul_comm]; exact h1
  · simp only [Nat.mul_one] at h2
    simp
    rw [e1]
    have h6 : b / 2 ^ fr * 2 ^ fr = b / 2 ^ fr % 2 ^ ex * 2 ^ fr + 2 ^ ex * 2 ^ fr := by rw [← Nat.add_mul, h2]
    rw [Nat.mul_comm (2 ^ fr) (2 ^ ex)]
    rw [Nat.mul_comm (2 ^ fr)] at h1
    omega
theorem back_w {w : Int} {ex fr : Nat} (h : Fm w ex fr) (which : Int) (bits b : Nat) (hb : b < 2 ^ (ex + fr + 1))
    (hp : (P0 f_law00_Place [.v (.int .i64 which), .v (.int .i64 3)] []).bind (fun r1 => ixaV false 3 1 (.agg [(.int .i64 16), (.int .i64 32), (.int .i64 64)]) r1.1) = some (.int .i64 w))
    (hmask : (((binV .lss (.int .i64 w) (.int .i64 64)).bind fun x3 => (asBool x3).bind fun b4 => if b4 = true then (cviV .u64 (.int .i64 w)).bind fun x5 => (binV .shl (.int .u64 1) x5).bind fun x6 => (binV .sub x6 (.int .u64 1)).bind fun x7 => (binV .and (.int .u64 (bits : Int)) x7).bind fun x8 => some (0, (vec [x8]))
      else some (0, (vec [.int .u64 (bits : Int)])) : Option (Nat × (Nat → V)))) = some (0, vec [.int .u64 (b : Int)])) :
    P0 f_law03_IeeeBack [.v (.int .i64 which), .v (.int .u64 (bits : Int))] [] = some (.bool true, []) := by
  obtain ⟨_, _, _, _, f5, f6, _⟩ := fm_facts h
  have hb64 : b < 18446744073709551616 := by
    refine Nat.lt_of_lt_of_le hb ?_
    calc 2 ^ (ex + fr + 1) ≤ 2 ^ 64 := Nat.pow_le_pow_right (by decide) (by omega)
      _ = 18446744073709551616 := by decide
  obtain ⟨r1, hr1, hix⟩ := Option.bind_eq_some_iff.1 hp
  rw [eq_law03_IeeeBack]; unfold F_law03_IeeeBack
  have hk := kind_ok h b hb64
  obtain ⟨le, lm⟩ := @cut_lt ex fr b
  apply yes
  simp only [tick_eq, hr1, some_bind, hix]
  rw [hmask]
  by_cases hf : kindN ex (cutE ex fr b) (cutM fr b) = 1
  · obtain ⟨q1, q2⟩ := kind_fin hf le
    have hM : bitsM fr (cutE ex fr b) (cutM fr b) ≠ 0 := by
      have := Nat.pow_pos (n := fr) (show 0 < 2 by decide)
      unfold bitsM; split <;> omega
    obtain ⟨⟨L, E, hn⟩, hx⟩ := exact_q h _ _ q1 lm q2 hM (cutN ex fr b)
    have hx := hx b hb64 rfl rfl rfl
    have hbits := toQ_bits f6 q1 lm q2 (cutN ex fr b)
    rw [cut_join hb] at hbits
    obtain ⟨hq, _⟩ := odd2_spec hM
    rw [hf] at hk
    generalize (odd2 (bitsM fr (cutE ex fr b) (cutM fr b))).1 = q at *
    generalize bitsT ex fr (cutE ex fr b) + ((odd2 (bitsM fr (cutE ex fr b) (cutM fr b))).2 : Int) = two at *
    generalize cutN ex fr b = neg at *
    have hok : (toQ ex fr neg q two).2 = true := by rw [hbits]
    have hto := to_num h hq hn
    rw [hbits] at hto
    obtain ⟨v, ex', fr', g1, g2, g3, g4⟩ := shortest_num h hq hn hok
    obtain ⟨hx', _⟩ := exact_toQ g1 hq g3
    rw [hn] at hx hx'
    have hsame := samenum_ok (Nm.mk neg L E) (Nm.mk neg L E) (by
      obtain ⟨m, rfl, h2, _⟩ := num_facts hq hn
      have := h2.2.2.1; simp only; omega)
    simp only [and_self, decide_true] at hsame
    -- wider ones have it, too
    have t16 := to_num .w16 hq hn
    have t32 := to_num .w32 hq hn
    have t64 := to_num .w64 hq hn
    have k16 : (16 : Int) ≥ w → (toQ 5 10 neg q two).2 = true := by
      cases h with
      | w16 => exact fun _ => hok
      | w32 => intro h; exact absurd h (by decide)
      | w64 => intro h; exact absurd h (by decide)
    have k32 : (32 : Int) ≥ w → (toQ 8 23 neg q two).2 = true := by
      cases h with
      | w16 => exact fun _ => toQ_more hok (by decide) (by decide) (by decide)
      | w32 => exact fun _ => hok
      | w64 => intro h; exact absurd h (by decide)
    have k64 : (64 : Int) ≥ w → (toQ 11 52 neg q two).2 = true := by
      cases h with
      | w16 => exact fun _ => toQ_more hok (by decide) (by decide) (by decide)
      | w32 => exact fun _ => toQ_more hok (by decide) (by decide) (by decide)
      | w64 => exact fun _ => hok
    have step : ∀ (i : Nat) (w' : Int) (r : Nat × Bool), i < 3 → ixaV false 3 1 (.agg [(.int .i64 16), (.int .i64 32), (.int .i64 64)]) (.int .i64 (i : Int)) = some (.int .i64 w') →
        P0 f_ieee_To [.v (.int .i64 w'), .v (Nm.mk neg L E).val] [] = some (.tup [.int .u64 (r.1 : Int), .bool r.2], []) → (w' ≥ w → r.2 = true) →
        loopL (L_law03_IeeeBack_1 (Nm.mk neg L E).val (.int .i64 w)) (vec [.int .i64 (i : Int)]) = loopL (L_law03_IeeeBack_1 (Nm.mk neg L E).val (.int .i64 w)) (vec [.int .i64 ((i + 1 : Nat) : Int)]) := by
      intro i w' r hi hix hto hr
      apply loopL_inl; unfold L_law03_IeeeBack_1
      have c1 : (i : Int) < 3 := by omega
      have w1 : IntKind.i64.wrap ((i : Int) + 1) = ((i + 1 : Nat) : Int) := w64 (by omega)
      by_cases c2 : w ≤ w'
      · have := hr c2
        rw [this] at hto
        simp only [tick_eq, vec_0, lss_i, c1, decide_true, some_bind, asBool_b, if_true, hix, hto, ext_tup, List.getElem?_cons_zero, List.getElem?_cons_succ, geq_i, c2, not_b, Bool.not_true, Bool.false_eq_true, if_false, add_i, w1]
      · simp only [tick_eq, vec_0, lss_i, c1, decide_true, some_bind, asBool_b, if_true, hix, hto, ext_tup, List.getElem?_cons_zero, List.getElem?_cons_succ, geq_i, c2, decide_false, Bool.false_eq_true, if_false, add_i, w1]
    have s0 := step 0 16 _ (by decide) (by kernel_rfl) t16 k16
    have s1 := step 1 32 _ (by decide) (by kernel_rfl) t32 k32
    have s2 := step 2 64 _ (by decide) (by kernel_rfl) t64 k64
    have s3 : loopL (L_law03_IeeeBack_1 (Nm.mk neg L E).val (.int .i64 w)) (vec [.int .i64 ((2 + 1 : Nat) : Int)]) = some (0, vec []) := by
      apply loopL_inr; unfold L_law03_IeeeBack_1
      have c1 : ¬ (((2 + 1 : Nat) : Int) < 3) := by decide
      simp only [tick_eq, vec_0, lss_i, c1, decide_false, some_bind, asBool_b, Bool.false_eq_true, if_false]
    have hloop := s0.trans (s1.trans (s2.trans s3))
    rw [show ((0 : Nat) : Int) = 0 from rfl] at hloop
    simp only [tick_eq, some_bind, vec_0, hx, ext_tup, List.getElem?_cons_zero, List.getElem?_cons_succ, okN_nm, tst_t, hk, gtr_i, show ((2 : Int) < 1) = False by decide, decide_false, asBool_b, Bool.false_eq_true, if_false, hto, eql_i, show ((1 : Int) = 2) = False by decide, g4, hx', hloop, if_true, decide_true, leq_i, g2, hsame, awake3]
    simp
  · have hx := exact_nf h b hb64 hf
    have hto := to_zero h
    have hkk : kindN ex (cutE ex fr b) (cutM fr b) = 2 ∨ kindN ex (cutE ex fr b) (cutM fr b) = 3 ∨ kindN ex (cutE ex fr b) (cutM fr b) = 4 := by
      unfold kindN at hf ⊢
      split
      · exact .inr (.inr rfl)
      · split
        · exact .inr (.inl rfl)
        · split
          · exact .inl rfl
          · next h1 h2 h3 => rw [if_neg h1, if_neg h2, if_neg h3] at hf; exact (hf rfl).elim
    generalize kindN ex (cutE ex fr b) (cutM fr b) = kd at *
    have hz1 : fldV Nm.zero.val 1 = some (.sl []) := rfl
    rcases hkk with rfl | rfl | rfl
    · apply yes
      simp [hx, hk, hto, hz1, awake3]
    · apply yes
      simp [hx, hk, hto, hz1, awake3]
    · apply yes
      simp [hx, hk, hto, hz1, awake3]
theorem back_ok (which : Int) (hw : -9223372036854775808 ≤ which ∧ which ≤ 9223372036854775807) (bits : Nat) (hb : bits < 18446744073709551616) :
    P0 f_law03_IeeeBack [.v (.int .i64 which), .v (.int .u64 (bits : Int))] [] = some (.bool true, []) := by
  have hp := goplace_ok which 3 (by decide) hw
  have h1 := Int.emod_nonneg which (show (3 : Int) ≠ 0 by decide)
  have h2 := Int.emod_lt_of_pos which (show (0 : Int) < 3 by decide)
  have h3 : which % 3 = 0 ∨ which % 3 = 1 ∨ which % 3 = 2 := by omega
  rcases h3 with h3 | h3 | h3
  · refine back_w .w16 which bits (bits % 2 ^ 16) (Nat.mod_lt _ (by decide)) (by rw [hp, h3]; kernel_rfl) ?_
    have e1 : binV .shl (.int .u64 1) (.int .u64 16) = some (.int .u64 65536) := by kernel_rfl
    have e2 : binV .sub (.int .u64 65536) (.int .u64 1) = some (.int .u64 ((65535 : Nat) : Int)) := by kernel_rfl
    have e3 : cviV .u64 (.int .i64 16) = some (.int .u64 16) := by kernel_rfl
    have m := and_mask bits 65535 16 (by decide) hb (by decide)
    simp only [tick_eq, lss_i, show ((16 : Int) < 64) = True by decide, decide_true, some_bind, asBool_b, if_true, e3, e1, e2, m]
  · refine back_w .w32 which bits (bits % 2 ^ 32) (Nat.mod_lt _ (by decide)) (by rw [hp, h3]; kernel_rfl) ?_
    have e1 : binV .shl (.int .u64 1) (.int .u64 32) = some (.int .u64 4294967296) := by kernel_rfl
    have e2 : binV .sub (.int .u64 4294967296) (.int .u64 1) = some (.int .u64 ((4294967295 : Nat) : Int)) := by kernel_rfl
    have e3 : cviV .u64 (.int .i64 32) = some (.int .u64 32) := by kernel_rfl
    have m := and_mask bits 4294967295 32 (by decide) hb (by decide)
    simp only [tick_eq, lss_i, show ((32 : Int) < 64) = True by decide, decide_true, some_bind, asBool_b, if_true, e3, e1, e2, m]
  · refine back_w .w64 which bits bits (by simpa using hb) (by rw [hp, h3]; kernel_rfl) ?_
    simp only [tick_eq, lss_i, show ((64 : Int) < 64) = False by decide, decide_false, some_bind, asBool_b, Bool.false_eq_true, if_false]
theorem pure_IeeeBack {n m : Nat} {xs ys : List V} (hx : Ty Go.Proofs.Try.prog n 3 xs) (hy : Ty Go.Proofs.Try.prog m 22 ys) :
    P0 f_law03_IeeeBack ([mkV Go.Proofs.Try.prog 3 xs, mkV Go.Proofs.Try.prog 22 ys].map .v) [] = some (.bool true, []) := by
  obtain ⟨z, hz, ez⟩ := ty_int Go.Proofs.Try.underlying3 hx
  obtain ⟨w, hw, ew⟩ := ty_int Go.Proofs.Try.underlying22 hy
  obtain ⟨b, rfl, hb⟩ := wf_u64 hw
  rw [ez, ew]
  exact back_ok z (wf_i64 hz) b hb
end Go.Ev
