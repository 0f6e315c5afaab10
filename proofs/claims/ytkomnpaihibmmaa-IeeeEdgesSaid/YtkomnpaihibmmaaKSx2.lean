/- The law of floats there and back. -/
import Derived.Test.YtkomnpaihibmmaaKSq15
import Derived.Test.YtkomnpaihibmmaaKSx1
set_option linter.all false
namespace Go.Ev
attribute [local irreducible] P0

theorem mk_facts {neg : Bool} {M : Nat} {t : Int} {L : List Nat} {E : Int} (hM : M ≠ 0) (h : mk neg M t = (⟨neg, L, E⟩, true)) : L = toL (trim M).1 ∧ E = t + (trim M).2 ∧ NumOk (trim M).1 E := by
  unfold mk at h
  rw [if_neg hM] at h
  split at h
  · cases h
  · next hc =>
    injection h with h1 _
    injection h1 with _ h2 h3
    have h4 := (trim_mod M).resolve_left (trim_ne hM)
    exact ⟨h2.symm, h3.symm, trim_ne hM, h4, by omega, by omega, by omega⟩
theorem num_facts {neg : Bool} {q : Nat} {two : Int} {L : List Nat} {E : Int} (hq : q % 2 = 1) (h : numV neg q two = (⟨neg, L, E⟩, true)) : ∃ m, L = toL m ∧ NumOk m E ∧ tenQ m E = some (q, two) := by
  unfold numV at h
  split at h
  · next ht =>
    obtain ⟨h1, h2, h3⟩ := mk_facts (Nat.ne_of_gt (Nat.mul_pos (by omega) (Nat.pow_pos (by decide)))) h
    exact ⟨_, h1, h3, by rw [h2]; exact tenQ_trim hq ht⟩
  · next ht =>
    obtain ⟨h1, h2, h3⟩ := mk_facts (Nat.ne_of_gt (Nat.mul_pos (by omega) (Nat.pow_pos (by decide)))) h
    exact ⟨_, h1, h3, by rw [h2]; exact tenQ_odd hq (by omega)⟩
theorem to_num {w : Int} {ex fr : Nat} (h : Fm w ex fr) {neg : Bool} {q : Nat} {two : Int} {L : List Nat} {E : Int} (hq : q % 2 = 1) (hn : numV neg q two = (⟨neg, L, E⟩, true)) :
    P0 f_ieee_To [.v (.int .i64 w), .v (Nm.mk neg L E).val] [] = some (.tup [.int .u64 ((toQ ex fr neg q two).1 : Int), .bool (toQ ex fr neg q two).2], []) := by
  obtain ⟨m, rfl, h2, h3⟩ := num_facts hq hn
  rw [to_ok h neg m E h2]
  unfold toR
  rw [h3]
theorem exact_toQ {w : Int} {ex fr : Nat} (h : Fm w ex fr) {neg : Bool} {q : Nat} {two : Int} (hq : q % 2 = 1) (hok : (toQ ex fr neg q two).2 = true) :
    P0 f_ieee_Exact [.v (.int .i64 w), .v (.int .u64 ((toQ ex fr neg q two).1 : Int))] [] = some (.tup [(numV neg q two).1.val, .bool (numV neg q two).2], []) ∧ ∃ L E, numV neg q two = (⟨neg, L, E⟩, true) := by
  obtain ⟨_, _, _, _, f5, f6, _⟩ := fm_facts h
  obtain ⟨a1, a2, a3, a4, a5, a6, a7⟩ := bits_toQ f6 hq hok
  have hlt : (toQ ex fr neg q two).1 < 18446744073709551616 := by
    refine Nat.lt_of_lt_of_le a7 ?_
    calc 2 ^ (ex + fr + 1) ≤ 2 ^ 64 := Nat.pow_le_pow_right (by decide) (by omega)
      _ = 18446744073709551616 := by decide
  obtain ⟨b1, b2⟩ := exact_q h _ _ a1 (@cut_lt ex fr _).2 a2 a4 neg
  have := b2 _ hlt rfl rfl a3
  rw [a5, a6] at this b1
  exact ⟨this, b1⟩
theorem shortest_ok (x : Nm) (r16 r32 r64 : Nat × Bool) (h16 : P0 f_ieee_To [.v (.int .i64 16), .v x.val] [] = some (.tup [.int .u64 (r16.1 : Int), .bool r16.2], []))
    (h32 : P0 f_ieee_To [.v (.int .i64 32), .v x.val] [] = some (.tup [.int .u64 (r32.1 : Int), .bool r32.2], [])) (h64 : P0 f_ieee_To [.v (.int .i64 64), .v x.val] [] = some (.tup [.int .u64 (r64.1 : Int), .bool r64.2], [])) :
    P0 f_ieee_Shortest [.v x.val] [] = some (if r16.2 then .tup [.int .i64 16, .int .u64 (r16.1 : Int), .bool true] else if r32.2 then .tup [.int .i64 32, .int .u64 (r32.1 : Int), .bool true] else if r64.2 then .tup [.int .i64 64, .int .u64 (r64.1 : Int), .bool true]
      else .tup [.int .i64 0, .int .u64 0, .bool false], []) := by
  rw [eq_ieee_Shortest]; unfold F_ieee_Shortest
  have i0 : idxV (.int .i64 0) 3 = some 0 := by kernel_rfl
  have i1 : idxV (.int .i64 1) 3 = some 1 := by kernel_rfl
  have i2 : idxV (.int .i64 2) 3 = some 2 := by kernel_rfl
  have hz : szOk 1 [V.int .i64 16, .int .i64 32, .int .i64 64] = true := by kernel_rfl
  obtain ⟨d16, b16⟩ := r16
  obtain ⟨d32, b32⟩ := r32
  obtain ⟨d64, b64⟩ := r64
  simp only [okN_nm, tst_t]
  cases b16 with
  | true =>
    have s0 : loopL (L_ieee_Shortest_1 x.val) (vec [.int .i64 0]) = some (1, vec [.int .i64 16, .int .u64 (d16 : Int), .bool true]) := by
      apply loopL_inr; unfold L_ieee_Shortest_1
      apply yes; simp [hz, i0, h16]
    simp only [s0, some_bind]; simp
  | false =>
    have s0 : loopL (L_ieee_Shortest_1 x.val) (vec [.int .i64 0]) = loopL (L_ieee_Shortest_1 x.val) (vec [.int .i64 1]) := by
      apply loopL_inl; unfold L_ieee_Shortest_1
      apply yes; simp [hz, i0, h16, w64 (a := 1) (by decide)]
    rw [s0]
    cases b32 with
    | true =>
      have s1 : loopL (L_ieee_Shortest_1 x.val) (vec [.int .i64 1]) = some (1, vec [.int .i64 32, .int .u64 (d32 : Int), .bool true]) := by
        apply loopL_inr; unfold L_ieee_Shortest_1
        apply yes; simp [hz, i1, h32]
      simp only [s1, some_bind]; simp
    | false =>
      have s1 : loopL (L_ieee_Shortest_1 x.val) (vec [.int .i64 1]) = loopL (L_ieee_Shortest_1 x.val) (vec [.int .i64 2]) := by
        apply loopL_inl; unfold L_ieee_Shortest_1
        apply yes; simp [hz, i1, h32, w64 (a := 2) (by decide)]
      rw [s1]
      cases b64 with
      | true =>
        have s2 : loopL (L_ieee_Shortest_1 x.val) (vec [.int .i64 2]) = some (1, vec [.int .i64 64, .int .u64 (d64 : Int), .bool true]) := by
          apply loopL_inr; unfold L_ieee_Shortest_1
          apply yes; simp [hz, i2, h64]
        simp only [s2, some_bind]; simp
      | false =>
        have s2 : loopL (L_ieee_Shortest_1 x.val) (vec [.int .i64 2]) = loopL (L_ieee_Shortest_1 x.val) (vec [.int .i64 3]) := by
          apply loopL_inl; unfold L_ieee_Shortest_1
          apply yes; simp [hz, i2, h64, w64 (a := 3) (by decide)]
        have s3 : loopL (L_ieee_Shortest_1 x.val) (vec [.int .i64 3]) = some (0, vec []) := by
          apply loopL_inr; unfold L_ieee_Shortest_1
          apply yes; simp
        rw [s2, s3]
        simp only [some_bind]; simp
/-- the shortest, of what some width has -/
theorem shortest_num {w : Int} {ex fr : Nat} (h : Fm w ex fr) {neg : Bool} {q : Nat} {two : Int} {L : List Nat} {E : Int} (hq : q % 2 = 1) (hn : numV neg q two = (⟨neg, L, E⟩, true)) (hok : (toQ ex fr neg q two).2 = true) :
    ∃ (v : Int) (ex' fr' : Nat), Fm v ex' fr' ∧ v ≤ w ∧ (toQ ex' fr' neg q two).2 = true ∧ P0 f_ieee_Shortest [.v (Nm.mk neg L E).val] [] = some (.tup [.int .i64 v, .int .u64 ((toQ ex' fr' neg q two).1 : Int), .bool true], []) := by
  have hs := shortest_ok _ _ _ _ (to_num .w16 hq hn) (to_num .w32 hq hn) (to_num .w64 hq hn)
  have m16_32 : (toQ 5 10 neg q two).2 = true → (toQ 8 23 neg q two).2 = true := fun h => toQ_more h (by decide) (by decide) (by decide)
  have m16_64 : (toQ 5 10 neg q two).2 = true → (toQ 11 52 neg q two).2 = true := fun h => toQ_more h (by decide) (by decide) (by decide)
  by_cases c16 : (toQ 5 10 neg q two).2 = true
  · rw [c16] at hs
    exact ⟨16, 5, 10, .w16, by cases h <;> decide, c16, hs⟩
  · have c16' : (toQ 5 10 neg q two).2 = false := by simpa using c16
    rw [c16'] at hs
    by_cases c32 : (toQ 8 23 neg q two).2 = true
    · rw [c32] at hs
      exact ⟨32, 8, 23, .w32, by cases h with | w16 => exact (c16 hok).elim | w32 => decide | w64 => decide, c32, hs⟩
    · have c32' : (toQ 8 23 neg q two).2 = false := by simpa using c32
      rw [c32'] at hs
      cases h with
      | w16 => exact (c16 hok).elim
      | w32 => exact (c32 hok).elim
      | w64 =>
        rw [hok] at hs
        exact ⟨64, 11, 52, .w64, by decide, hok, hs⟩
theorem cut_join {ex fr b : Nat} (hb : b < 2 ^ (ex + fr + 1)) : cutM fr b + cutE ex fr b * 2 ^ fr + (if cutN ex fr b then 2 ^ (ex + fr) else 0) = b := by
  unfold cutM cutE cutN
  have h1 := Nat.mod_add_div b (2 ^ fr)
  have h2 := Nat.mod_add_div (b / 2 ^ fr) (2 ^ ex)
  have h3 : b / 2 ^ fr / 2 ^ ex = b / 2 ^ (ex + fr) := by rw [Nat.div_div_eq_div_mul, ← Nat.pow_add, Nat.add_comm]
  have h4 : b / 2 ^ (ex + fr) < 2 := by
    rw [Nat.div_lt_iff_lt_mul (Nat.pow_pos (by decide)), Nat.mul_comm, ← Nat.pow_succ]; exact hb
  rw [h3] at h2
  have e1 : 2 ^ (ex + fr) = 2 ^ fr * 2 ^ ex := by rw [Nat.add_comm, Nat.pow_add]
  generalize b / 2 ^ (ex + fr) = s at *
  have h5 : s = 0 ∨ s = 1 := by omega
  rcases h5 with rfl | rfl
  · simp only [Nat.mul_zero, Nat.add_zero] at h2
    rw [h2]
    simp
    rw [Nat.mul_comm]; exact h1
  · simp only [Nat.mul_one] at h2
    simp
    rw [e1]
    have h6 : b / 2 ^ fr * 2 ^ fr = b / 2 ^ fr % 2 ^ ex * 2 ^ fr + 2 ^ ex * 2 ^ fr := by rw [← Nat.add_mul, h2]
    rw [Nat.mul_comm (2 ^ fr) (2 ^ ex)]
    rw [Nat.mul_comm (2 ^ fr)] at h1
    omega
end Go.Ev
