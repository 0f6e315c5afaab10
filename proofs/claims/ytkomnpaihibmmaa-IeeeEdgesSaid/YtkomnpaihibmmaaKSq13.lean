/- Floats: the bits of a number. -/
import Derived.Test.YtkomnpaihibmmaaKSq12
import Derived.Test.YtkomnpaihibmmaaKSq9
import Derived.Test.YtkomnpaihibmmaaKSp
set_option linter.all false
namespace Go.Ev
attribute [local irreducible] P0

theorem exact_q {w : Int} {ex fr : Nat} (h : Fm w ex fr) (e m : Nat) (he : e < 2 ^ ex - 1) (hm : m < 2 ^ fr) (h0 : ¬ (e = 0 ∧ m = 0)) (hM : bitsM fr e m ≠ 0) (neg : Bool) :
    (∃ L E, numV neg (odd2 (bitsM fr e m)).1 (bitsT ex fr e + (odd2 (bitsM fr e m)).2) = (⟨neg, L, E⟩, true)) ∧
    ∀ b : Nat, b < 18446744073709551616 → cutE ex fr b = e → cutM fr b = m → cutN ex fr b = neg →
      P0 f_ieee_Exact [.v (.int .i64 w), .v (.int .u64 (b : Int))] [] = some (.tup [(numV neg (odd2 (bitsM fr e m)).1 (bitsT ex fr e + (odd2 (bitsM fr e m)).2)).1.val, .bool (numV neg (odd2 (bitsM fr e m)).1 (bitsT ex fr e + (odd2 (bitsM fr e m)).2)).2], []) := by
  obtain ⟨m', j, g1, g2, g3, g4, g5⟩ := exact_fin h e m he hm h0
  have hfin := mk_fin h e m he hm m' j g1 g2 g3 g4 neg
  have key : numV neg (odd2 (bitsM fr e m)).1 (bitsT ex fr e + (odd2 (bitsM fr e m)).2) = mk neg (m' * 5 ^ j) (-(j : Int)) := by
    by_cases ht : 0 ≤ bitsT ex fr e
    · obtain ⟨rfl, hmm⟩ := g3 ht
      obtain ⟨t, htt⟩ := Int.eq_ofNat_of_zero_le ht
      obtain ⟨_, h2⟩ := odd2_spec hM
      rw [htt, Int.toNat_natCast] at hmm
      unfold numV
      rw [if_pos (by omega), htt, show ((t : Int) + ((odd2 (bitsM fr e m)).2 : Int)).toNat = (odd2 (bitsM fr e m)).2 + t by omega, Nat.pow_add, ← Nat.mul_assoc, ← h2, ← hmm]
      simp
    · obtain ⟨hj, hmm⟩ := g4 (by omega)
      obtain ⟨T, hT⟩ : ∃ T : Nat, bitsT ex fr e = -(T : Int) := ⟨(-bitsT ex fr e).toNat, by omega⟩
      rw [hT] at hj hmm ⊢
      rw [show (-(-(T : Int))).toNat = T by omega] at hmm
      by_cases hj0 : j = 0
      · subst hj0
        rw [Nat.sub_zero] at hmm
        obtain ⟨_, h2⟩ := odd2_spec (show m' ≠ 0 by omega)
        rw [hmm, odd2_mul (by omega)]
        unfold numV
        rw [if_pos (by simp only; omega)]
        simp only
        rw [show (-(T : Int) + (((odd2 m').2 + T : Nat) : Int)).toNat = (odd2 m').2 by omega, ← h2]
        simp
      · have hodd : m' % 2 = 1 := g2.resolve_left hj0
        rw [hmm, odd2_eq hodd rfl]
        unfold numV
        rw [if_neg (by simp only; omega)]
        simp only
        rw [show (-(-(T : Int) + ((T - j : Nat) : Int))).toNat = j by omega, show (-(T : Int) + ((T - j : Nat) : Int)) = -(j : Int) by omega]
  rw [key]
  refine ⟨⟨_, _, hfin⟩, fun b hb hbe hbm hbn => ?_⟩
  have := g5 b hb hbe hbm
  rw [hbn] at this
  exact this
theorem toL_cons (n : Nat) (h : n ≠ 0) : toL n = n % B32 :: toL (n / B32) := toL_step n h
theorem odd1_loop (f : Nat) : ∀ (n c : Nat), n ≠ 0 → n < B32 ^ f → c + 32 * f ≤ 1000000 →
    ∃ M k : Nat, n = M * B32 ^ k ∧ M % B32 ≠ 0 ∧ k ≤ f ∧ loopL L_ieee_odd_1 (vec [.sl (limbs (toL n)), .int .i64 (c : Int)]) = some (0, vec [.sl (limbs (toL M)), .int .i64 ((c + 32 * k : Nat) : Int)]) := by
  induction f with
  | zero => intro n c h h2 _; simp at h2; omega
  | succ f ih =>
    intro n c h h2 hc
    have i0 : ∀ l : List Nat, idxV (.int .i64 0) (l.length + 1) = some 0 := fun l => idx_0 _ _ (by omega)
    by_cases hz : n % B32 = 0
    · have hn0 : n / B32 ≠ 0 := by
        intro h3
        have := Nat.div_add_mod n B32
        rw [h3, hz] at this; simp at this; exact h this.symm
      obtain ⟨M, k, a1, a2, a3, a4⟩ := ih (n / B32) (c + 32) hn0 (by rw [Nat.div_lt_iff_lt_mul (by decide)]; rw [Nat.pow_succ] at h2; exact h2) (by omega)
      refine ⟨M, k + 1, ?_, a2, by omega, ?_⟩
      · rw [Nat.pow_succ, ← Nat.mul_assoc, ← a1]
        have := Nat.div_add_mod n B32
        rw [hz, Nat.add_zero, Nat.mul_comm] at this; exact this.symm
      · rw [show c + 32 * (k + 1) = c + 32 + 32 * k by omega, ← a4]
        apply loopL_inl
        unfold L_ieee_odd_1
        have w := w64 (a := (c : Int) + 32) (by omega)
        have hbd := bnd_from .i64 1 ((toL (n / B32)).length + 1) (by omega)
        have e1 : ((c + 32 : Nat) : Int) = (c : Int) + 32 := by omega
        rw [toL_cons n h, hz]
        simp only [vec_0, vec_s, asSl_limbs, some_bind, limbs_len, List.length_cons, i0, limbs_get, List.getElem?_cons_zero, Option.map_some, fld_int, eql_i, show ((0 : Nat) : Int) = 0 from rfl, decide_true, asBool_b, if_true, hbd, add_i, w, limbs_drop, limbs_take, e1]
        simp
    · refine ⟨n, 0, by simp, hz, by omega, ?_⟩
      apply loopL_inr
      unfold L_ieee_odd_1
      have hz' : ¬ (((n % B32 : Nat) : Int) = 0) := by omega
      rw [toL_cons n h]
      simp only [vec_0, vec_s, asSl_limbs, some_bind, limbs_len, List.length_cons, i0, limbs_get, List.getElem?_cons_zero, Option.map_some, fld_int, eql_i, hz', decide_false, asBool_b, Bool.false_eq_true, if_false]
      rfl
theorem odd2_loop (f : Nat) : ∀ (n c : Nat), n ≠ 0 → n < 2 ^ f → (toL n).length ≤ 10000 → c + f ≤ 1000000 →
    loopL L_ieee_odd_2 (vec [.sl (limbs (toL n)), .int .i64 (c : Int)]) = some (0, vec [.sl (limbs (toL (odd2 n).1)), .int .i64 ((c + (odd2 n).2 : Nat) : Int)]) := by
  induction f with
  | zero => intro n c h h2 _ _; simp at h2; omega
  | succ f ih =>
    intro n c h h2 hl hc
    have i0 : ∀ l : List Nat, idxV (.int .i64 0) (l.length + 1) = some 0 := fun l => idx_0 _ _ (by omega)
    have hand := and1_u32 (n % B32) (Nat.mod_lt _ (by decide))
    have hmm : n % B32 % 2 = n % 2 := Nat.mod_mod_of_dvd _ (by decide)
    rw [hmm] at hand
    rcases Nat.mod_two_eq_zero_or_one n with hz | hz
    · have hn0 : n / 2 ≠ 0 := by omega
      have hdiv := ndiv_ok (toL n) [2] (toL_u32 n) (by intro x hx; simp at hx; rw [hx]; decide) hl (by decide) (by decide)
      rw [nval_toL, show nval [2] = 2 from rfl] at hdiv
      have hl' : (toL (n / 2)).length ≤ (toL n).length := by
        apply toL_len
        have := nval_lt' _ (toL_u32 n)
        rw [nval_toL] at this
        omega
      have := ih (n / 2) (c + 1) hn0 (by rw [Nat.div_lt_iff_lt_mul (by decide)]; rw [Nat.pow_succ] at h2; exact h2) (by omega) (by omega)
      obtain ⟨a1, a2⟩ := odd2_spec hn0
      have e2 : odd2 n = ((odd2 (n / 2)).1, (odd2 (n / 2)).2 + 1) := odd2_eq a1 (by rw [Nat.pow_succ, ← Nat.mul_assoc, ← a2]; omega)
      rw [e2, show c + ((odd2 (n / 2)).2 + 1) = c + 1 + (odd2 (n / 2)).2 by omega, ← this]
      apply loopL_inl
      unfold L_ieee_odd_2
      have w := w64 (a := (c : Int) + 1) (by omega)
      have e1 : ((c + 1 : Nat) : Int) = (c : Int) + 1 := by omega
      have e3 : [V.int .u32 2] = limbs [2] := rfl
      rw [hz] at hand
      rw [toL_cons n h] at hdiv ⊢
      simp only [vec_0, vec_s, asSl_limbs, some_bind, limbs_len, List.length_cons, i0, limbs_get, List.getElem?_cons_zero, Option.map_some, fld_int, hand, eql_i, show ((0 : Nat) : Int) = 0 from rfl, decide_true, asBool_b, if_true, e3, hdiv, ext_tup, List.getElem?_cons_succ, add_i, w, e1]
    · rw [odd2_odd hz]
      apply loopL_inr
      unfold L_ieee_odd_2
      rw [hz] at hand
      rw [toL_cons n h]
      simp only [vec_0, vec_s, asSl_limbs, some_bind, limbs_len, List.length_cons, i0, limbs_get, List.getElem?_cons_zero, Option.map_some, fld_int, hand, eql_i, show (((1 : Nat) : Int) = 0) = False by decide, decide_false, asBool_b, Bool.false_eq_true, if_false]
      rw [← toL_cons n h]; rfl
theorem odd_ok (n : Nat) (h : n ≠ 0) (hl : (toL n).length ≤ 1000) : P0 f_ieee_odd [.v (.sl (limbs (toL n)))] [] = some (.tup [.sl (limbs (toL (odd2 n).1)), .int .i64 ((odd2 n).2 : Int)], []) := by
  rw [eq_ieee_odd]; unfold F_ieee_odd
  have hlt := nval_lt' _ (toL_u32 n)
  rw [nval_toL] at hlt
  obtain ⟨M, k, a1, a2, a3, a4⟩ := odd1_loop (toL n).length n 0 h hlt (by omega)
  have hM : M ≠ 0 := by intro h0; rw [h0] at a2; exact a2 (Nat.zero_mod _)
  have hMn : M ≤ n := by rw [a1]; exact Nat.le_mul_of_pos_right _ (Nat.pow_pos (by decide))
  have hlM : (toL M).length ≤ (toL n).length := toL_len (Nat.lt_of_le_of_lt hMn hlt)
  have h2 := odd2_loop (32 * (toL n).length) M (0 + 32 * k) hM (by rw [← B32_pow]; exact Nat.lt_of_le_of_lt hMn hlt) (by omega) (by omega)
  have e : odd2 n = ((odd2 M).1, (odd2 M).2 + 32 * k) := by rw [a1, B32_pow]; exact odd2_mul hM
  rw [show ((0 : Nat) : Int) = 0 from rfl] at a4
  simp only [a4, some_bind, vec_0, vec_s, h2, e]
  rw [show 0 + 32 * k + (odd2 M).2 = (odd2 M).2 + 32 * k by omega]
theorem npow_neg (b : Nat) (e : Int) (hb : b < B32) (he : e < 0 ∧ -9223372036854775808 ≤ e) : P0 f_nat_Pow [.v (.int .u32 (b : Int)), .v (.int .i64 e)] [] = some (.sl (limbs (toL 1)), []) := by
  rw [eq_nat_Pow]; unfold F_nat_Pow
  have hnm := nnorm_ok [b] (by simp) (fun x hx => by simp at hx; rw [hx]; exact hb)
  have hmin : minV (.int .i64 e) [.int .i64 1300] = some (.int .i64 e) := by
    simp only [minV, if_pos]; congr 2; rw [if_neg (by omega)]
  have hmax : maxV (.int .i64 0) [.int .i64 e] = some (.int .i64 0) := by
    simp only [maxV, if_pos]; congr 2; rw [if_neg (by omega)]
  have hb1 : nval [b] = b := by simp [nval]
  have hl := npow_loop 1 0 1 b 1 1 (by decide) (by decide) (by decide) (by simpa using hb) (by decide)
  rw [hb1] at hnm
  simp only [okN_int, tst_t, fld_int, some_bind, limbs_one, hnm, hmin, hmax]
  rw [show ([V.int .u32 1] : List V) = limbs (toL 1) from rfl]
  rw [show ((0 : Nat) : Int) = 0 from rfl] at hl
  rw [hl]; simp
/-- what may be: of a natural's limbs and tens -/
def NumOk (m : Nat) (e : Int) : Prop := m ≠ 0 ∧ m % 10 ≠ 0 ∧ (toL m).length ≤ 90 ∧ -1200 ≤ e ∧ e ≤ 1200
theorem ncheck_ok (neg : Bool) (m : Nat) (e : Int) (h : NumOk m e) : P0 f_num_Check [.v (Nm.mk neg (toL m) e).val] [] = some (.bool true, []) := by
  obtain ⟨h0, h1, h2, h3, h4⟩ := h
  rw [eq_num_Check]; unfold F_num_Check
  have hne : toL m ≠ [] := fun h => h0 (toL_nil.1 h)
  have hpos : 0 < (toL m).length := List.length_pos_iff.2 hne
  have ht := ntrim_ok (toL m) (toL_u32 m) (by omega)
  rw [nval_toL, trim_stop (.inr h1)] at ht
  have e1 : ¬ ((90 : Int) < ((toL m).length : Int)) ∧ ((toL m).length : Int) ≤ 90 := by omega
  have e2 := w64 (a := ((toL m).length : Int) - 1) (by omega)
  have e3 := idx_i .i64 (((toL m).length : Int) - 1) (toL m).length (by omega)
  have e4 : (((toL m).length : Int) - 1).toNat = (toL m).length - 1 := by omega
  have e5 : (toL m)[(toL m).length - 1] ≠ 0 := by
    intro h; apply toL_nrm m; rw [List.getElem?_eq_getElem (by omega), h]
  have e6 : ¬ (e < -1200) ∧ -1200 ≤ e := by omega
  have e7 : ¬ (1200 < e) ∧ e ≤ 1200 := by omega
  have e8 : (toL m).length - 1 < (toL m).length := by omega
  apply yes; simp [hne, e1, e2, e3, e4, e5, e6, e7, e8, ht]
end Go.Ev
