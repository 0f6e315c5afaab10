/- The reference's floats: odd parts, bits. -/
import Derived.Test.YtkomnpaihibmmaaKSr5
set_option linter.all false
namespace Go.Ev
attribute [local irreducible] P0

theorem rhalves_loop (f : Nat) : ∀ (n c : Nat), n ≠ 0 → n < 2 ^ f → (toL n).length ≤ 10000 → c + f ≤ 1000000 →
    loopL L_ref03_halves_1 (vec [.sl (limbs (toL n)), .int .i64 (c : Int)]) = some (0, vec [.sl (limbs (toL (odd2 n).1)), .int .i64 ((c + (odd2 n).2 : Nat) : Int)]) := by
  induction f with
  | zero => intro n c h h2 _ _; simp at h2; omega
  | succ f ih =>
    intro n c h h2 hl hc
    have i0 : ∀ l : List Nat, idxV (.int .i64 0) (l.length + 1) = some 0 := fun l => idx_0 _ _ (by omega)
    have hand := and1_u32 (n % B32) (Nat.mod_lt _ (by decide))
    have hmm : n % B32 % 2 = n % 2 := Nat.mod_mod_of_dvd _ (by decide)
    rw [hmm] at hand
    have cpos : ∀ l : List Nat, (decide ((((l.length + 1 : Nat) : Nat) : Int) > 0)) = true := fun l => by simp
    rcases Nat.mod_two_eq_zero_or_one n with hz | hz
    · have hn0 : n / 2 ≠ 0 := by omega
      have hs : P0 f_ref01_Small [.v (.sl (limbs (toL n))), .v (.int .u32 2)] [] = _ := rsmall_ok (toL n) 2 (by decide) (by decide) (by omega) (toL_u32 n)
      rw [nval_toL] at hs
      have hl' := toL_mono (Nat.div_le_self n 2)
      have := ih (n / 2) (c + 1) hn0 (by rw [Nat.div_lt_iff_lt_mul (by decide)]; rw [Nat.pow_succ] at h2; exact h2) (by omega) (by omega)
      obtain ⟨a1, a2⟩ := odd2_spec hn0
      have e2 : odd2 n = ((odd2 (n / 2)).1, (odd2 (n / 2)).2 + 1) := odd2_eq a1 (by rw [Nat.pow_succ, ← Nat.mul_assoc, ← a2]; omega)
      rw [e2, show c + ((odd2 (n / 2)).2 + 1) = c + 1 + (odd2 (n / 2)).2 by omega, ← this]
      apply loopL_inl
      unfold L_ref03_halves_1
      have w : IntKind.i64.wrap ((c : Int) + 1) = ((c + 1 : Nat) : Int) := w64 (a := (c : Int) + 1) (by omega)
      rw [hz] at hand
      rw [toL_cons n h] at hs ⊢
      simp only [tick_eq, vec_0, vec_s, lenV_sl, asSl_limbs, some_bind, limbs_len, List.length_cons, cpos, if_true, i0, limbs_get, List.getElem?_cons_zero, Option.map_some, fld_int, hand, eql_i, show ((0 : Nat) : Int) = 0 from rfl, decide_true, asBool_b, hs, ext_tup, List.getElem?_cons_succ, add_i, w]
    · rw [odd2_odd hz]
      apply loopL_inr
      unfold L_ref03_halves_1
      rw [hz] at hand
      rw [toL_cons n h]
      simp only [tick_eq, vec_0, vec_s, lenV_sl, asSl_limbs, some_bind, limbs_len, List.length_cons, cpos, if_true, i0, limbs_get, List.getElem?_cons_zero, Option.map_some, fld_int, hand, eql_i, show (((1 : Nat) : Int) = 0) = False by decide, decide_false, asBool_b, Bool.false_eq_true, if_false, Nat.add_zero]
theorem rhalves_ok (n : Nat) (h : n ≠ 0) (hl : (toL n).length ≤ 1000) : P0 f_ref03_halves [.v (.sl (limbs (toL n)))] [] = some (.tup [.sl (limbs (toL (odd2 n).1)), .int .i64 ((odd2 n).2 : Int)], []) := by
  rw [eq_ref03_halves]; unfold F_ref03_halves
  have hlt := nval_lt' _ (toL_u32 n)
  rw [nval_toL, B32_pow] at hlt
  have h2 := rhalves_loop (32 * (toL n).length) n 0 h hlt (by omega) (by omega)
  rw [show ((0 : Nat) : Int) = 0 from rfl, Nat.zero_add] at h2
  simp only [tick_eq, h2, some_bind, vec_0, vec_s]
theorem mulfive_loop (n : Nm) (m k : Nat) (he : n.e = (k : Int)) (hk : k ≤ 1200) (hl : (toL m).length ≤ 90) (j : Nat) : ∀ i, i + j = k → loopL (L_ref03_odd_1 n.val) (vec [.sl (limbs (toL (m * 5 ^ i))), .int .i64 (i : Int)]) = some (0, vec [.sl (limbs (toL (m * 5 ^ k)))]) := by
  induction j with
  | zero =>
    intro i hi
    have e : i = k := by omega
    subst e
    apply loopL_inr
    unfold L_ref03_odd_1
    have c1 : ¬ ((i : Int) < (i : Int)) := by omega
    simp only [tick_eq, fld_nm2, he, some_bind, vec_0, vec_s, lss_i, c1, decide_false, asBool_b, Bool.false_eq_true, if_false]
  | succ j ih =>
    intro i hi
    rw [← ih (i + 1) (by omega)]
    apply loopL_inl
    unfold L_ref03_odd_1
    have c1 : (i : Int) < (k : Int) := by omega
    have h5 := five_len i (by omega)
    have h6 := mul_len m (5 ^ i)
    have hm := rmul_ok (toL (m * 5 ^ i)) [5] (toL_u32 _) (fun x hx => by simp at hx; rw [hx]; decide) (by simp; omega)
    rw [nval_toL, show nval [5] = 5 from rfl, Nat.mul_assoc, ← Nat.pow_succ] at hm
    have w2 : IntKind.i64.wrap ((i : Int) + 1) = ((i + 1 : Nat) : Int) := w64 (a := (i : Int) + 1) (by omega)
    have e1 : [V.int .u32 5] = limbs [5] := rfl
    simp only [tick_eq, fld_nm2, he, some_bind, vec_0, vec_s, lss_i, c1, decide_true, asBool_b, if_true, e1, hm, add_i, w2]
theorem divfive_loop (n : Nm) (m k : Nat) (he : n.e = -(k : Int)) (hk : k ≤ 1200) (hl : (toL m).length ≤ 90) (j : Nat) : ∀ i, i + j = k → m % 5 ^ i = 0 →
    loopL (L_ref03_odd_2 n.val) (vec [.sl (limbs (toL (m / 5 ^ i))), .int .i64 (i : Int)]) = some (if m % 5 ^ k = 0 then (0, vec [.sl (limbs (toL (m / 5 ^ k)))]) else (1, vec [.int .u64 0, .int .i64 0, .bool false])) := by
  have wn : IntKind.i64.wrap (0 - -(k : Int)) = (k : Int) := by rw [show 0 - -(k : Int) = (k : Int) by omega]; exact w64 (by omega)
  induction j with
  | zero =>
    intro i hi hd
    have e : i = k := by omega
    subst e
    rw [if_pos hd]
    apply loopL_inr
    unfold L_ref03_odd_2
    have c1 : ¬ ((i : Int) < (i : Int)) := by omega
    simp only [tick_eq, fld_nm2, he, some_bind, neg_i, wn, vec_0, vec_s, lss_i, c1, decide_false, asBool_b, Bool.false_eq_true, if_false]
  | succ j ih =>
    intro i hi hd
    have c1 : (i : Int) < (k : Int) := by omega
    have hl' := toL_mono (Nat.div_le_self m (5 ^ i))
    have hs : P0 f_ref01_Small [.v (.sl (limbs (toL (m / 5 ^ i)))), .v (.int .u32 5)] [] = _ := rsmall_ok (toL (m / 5 ^ i)) 5 (by decide) (by decide) (by omega) (toL_u32 _)
    rw [nval_toL, Nat.div_div_eq_div_mul, ← Nat.pow_succ] at hs
    have hmm : m % 5 ^ (i + 1) = 0 ↔ m / 5 ^ i % 5 = 0 := by
      rw [Nat.pow_succ, Nat.mod_mul, hd, Nat.zero_add, Nat.mul_eq_zero]
      constructor
      · intro h; exact h.resolve_left (Nat.ne_of_gt (Nat.pow_pos (by decide)))
      · intro h; exact .inr h
    by_cases hr : m / 5 ^ i % 5 = 0
    · rw [← ih (i + 1) (by omega) (hmm.2 hr)]
      apply loopL_inl
      unfold L_ref03_odd_2
      have w2 : IntKind.i64.wrap ((i : Int) + 1) = ((i + 1 : Nat) : Int) := w64 (a := (i : Int) + 1) (by omega)
      rw [hr] at hs
      simp only [tick_eq, fld_nm2, he, some_bind, neg_i, wn, vec_0, vec_s, lss_i, c1, decide_true, asBool_b, if_true, hs, ext_tup, List.getElem?_cons_zero, List.getElem?_cons_succ, neq_i, show ((0 : Nat) : Int) = 0 from rfl, Bool.not_true, Bool.false_eq_true, if_false, add_i, w2]
    · have hk0 : ¬ m % 5 ^ k = 0 := by
        intro h0
        have hd1 : 5 ^ (i + 1) ∣ 5 ^ k := Nat.pow_dvd_pow 5 (by omega)
        have : 5 ^ (i + 1) ∣ m := Nat.dvd_trans hd1 (Nat.dvd_of_mod_eq_zero h0)
        exact hr (hmm.1 (Nat.mod_eq_zero_of_dvd this))
      rw [if_neg hk0]
      apply loopL_inr
      unfold L_ref03_odd_2
      have hr' : ¬ (((m / 5 ^ i % 5 : Nat) : Int) = 0) := by omega
      simp only [tick_eq, fld_nm2, he, some_bind, neg_i, wn, vec_0, vec_s, lss_i, c1, decide_true, asBool_b, if_true, hs, ext_tup, List.getElem?_cons_zero, List.getElem?_cons_succ, neq_i, hr', decide_false, Bool.not_false]
theorem no_loop1 (n : Nm) (x : V) (he : n.e ≤ 0) : loopL (L_ref03_odd_1 n.val) (vec [x, .int .i64 0]) = some (0, vec [x]) := by
  apply loopL_inr
  unfold L_ref03_odd_1
  have c1 : ¬ (0 < n.e) := by omega
  simp only [tick_eq, fld_nm2, some_bind, vec_0, vec_s, lss_i, c1, decide_false, asBool_b, Bool.false_eq_true, if_false]
theorem no_loop2 (n : Nm) (x : V) (he : 0 ≤ n.e ∧ n.e ≤ 1200) : loopL (L_ref03_odd_2 n.val) (vec [x, .int .i64 0]) = some (0, vec [x]) := by
  apply loopL_inr
  unfold L_ref03_odd_2
  have w : IntKind.i64.wrap (0 - n.e) = -n.e := by rw [Int.zero_sub]; exact w64 (by omega)
  have c1 : ¬ (0 < -n.e) := by omega
  simp only [tick_eq, fld_nm2, some_bind, neg_i, w, vec_0, vec_s, lss_i, c1, decide_false, asBool_b, Bool.false_eq_true, if_false]
/-- behind the fives: the odd part, as a word -/
theorem rodd_tail (M : Nat) (e : Int) (h0 : M ≠ 0) (hl : (toL M).length ≤ 300) (he : -1200 ≤ e ∧ e ≤ 1200) :
    Yes (α := V × List V) ((P0 f_ref03_halves [.v (.sl (limbs (toL M)))] []).bind fun r22 =>
      (extV r22.1 0).bind fun x23 =>
      (extV r22.1 1).bind fun x24 =>
      (lenV x23).bind fun n25 =>
      if (decide ((((n25 : Nat) : Int) : Int) > 2)) = true then
      some ((V.tup [(.int .u64 0), (.int .i64 0), (.bool false)]), [])
      else
      (asSl 1 x23).bind fun l26 =>
      (idxV (.int .i64 0) (l26.length)).bind fun i27 =>
      (l26[i27]?).bind fun e28 =>
      (fldV e28 0).bind fun c29 =>
      (cviV .u64 c29).bind fun x30 =>
      (((lenV x23).bind fun n31 =>
      if (decide ((((n31 : Nat) : Int) : Int) > 1)) = true then
      (asSl 1 x23).bind fun l32 =>
      (idxV (.int .i64 1) (l32.length)).bind fun i33 =>
      (l32[i33]?).bind fun e34 =>
      (fldV e34 0).bind fun c35 =>
      (cviV .u64 c35).bind fun x36 =>
      (binV .shl x36 (.int .u64 32)).bind fun x37 =>
      (binV .add x30 x37).bind fun x38 =>
      some (0, (vec [x38]))
      else
      some (0, (vec [x30])) : Option (Nat × (Nat → V)))).bind fun o39 =>
      (binV .add (.int .i64 e) x24).bind fun x40 =>
      some ((V.tup [(o39.2 0), x40, (.bool true)]), []))
      (if 18446744073709551616 ≤ (odd2 M).1 then V.tup [.int .u64 0, .int .i64 0, .bool false] else V.tup [.int .u64 ((odd2 M).1 : Int), .int .i64 (e + ((odd2 M).2 : Int)), .bool true], []) := by
  have hh := rhalves_ok M h0 (by omega)
  obtain ⟨o1, o2, o3⟩ := odd_part h0
  have hb := toL_bl M
  have w1 : IntKind.i64.wrap (e + ((odd2 M).2 : Int)) = e + ((odd2 M).2 : Int) := w64 (by omega)
  generalize (odd2 M).1 = q at *
  generalize (odd2 M).2 = t at *
  simp only [tick_eq, hh, some_bind, ext_tup, List.getElem?_cons_zero, List.getElem?_cons_succ, lenV_sl, limbs_len]
  by_cases hq : 18446744073709551616 ≤ q
  · rw [if_pos hq]
    have hlen : (decide (((toL q).length : Int) > 2)) = true := by
      have : 2 < (toL q).length := by
        rcases Nat.lt_or_ge 2 (toL q).length with h | h
        · exact h
        · exfalso
          have h1 := nval_lt' _ (toL_u32 q)
          rw [nval_toL] at h1
          have h2 : B32 ^ (toL q).length ≤ B32 ^ 2 := Nat.pow_le_pow_right (by decide) h
          have h3 : B32 ^ 2 = 18446744073709551616 := by decide
          omega
      simp; omega
    simp only [tick_eq, hlen, if_true]
    rw [Yes_some]
  · rw [if_neg hq]
    have hq64 : q < 18446744073709551616 := by omega
    obtain ⟨f1, f2, f3, f4, f5, f6⟩ := limb_facts q hq64
    by_cases h1 : q / B32 = 0
    · have e1 : toL q = [q] := by
        rw [toL_step q o1, h1, toL_zero]
        have : q % B32 = q := Nat.mod_eq_of_lt (f5 h1).1
        rw [this]
      have i0 : idxV (.int .i64 0) 1 = some 0 := by kernel_rfl
      have g : (limbs [q])[0]? = some (.int .u32 (q : Int)) := rfl
      have c2 : (decide (((1 : Nat) : Int) > 2)) = false := by decide
      have c3 : (decide (((1 : Nat) : Int) > 1)) = false := by decide
      rw [e1]
      simp only [tick_eq, asSl_limbs, some_bind, limbs_len, List.length_cons, List.length_nil, Nat.zero_add, c2, c3, Bool.false_eq_true, if_false, i0, g, fld_int, cvi_i, wu64 (a := (q : Int)) (by omega), lenV_sl, vec_0, add_i, w1]
      rw [Yes_some]
    · have e1 : toL q = [q % B32, q / B32] := by
        rw [toL_step q o1, toL_step _ h1]
        have h3 : q / B32 % B32 = q / B32 := Nat.mod_eq_of_lt f6
        rw [f3, h3, toL_zero]
      have i0 : idxV (.int .i64 0) 2 = some 0 := by kernel_rfl
      have i1 : idxV (.int .i64 1) 2 = some 1 := by kernel_rfl
      have g : (limbs [q % B32, q / B32])[0]? = some (.int .u32 ((q % B32 : Nat) : Int)) := rfl
      have g1 : (limbs [q % B32, q / B32])[1]? = some (.int .u32 ((q / B32 : Nat) : Int)) := rfl
      have v1 := wu64 (a := ((q % B32 : Nat) : Int)) ⟨Int.natCast_nonneg _, Int.ofNat_le.2 (show q % B32 ≤ 18446744073709551615 from Nat.le_trans f1 (by decide))⟩
      have v2 := wu64 (a := ((q / B32 : Nat) : Int)) ⟨Int.natCast_nonneg _, Int.ofNat_le.2 (show q / B32 ≤ 18446744073709551615 from Nat.le_trans f2 (by decide))⟩
      have p32 : (2 : Nat) ^ 32 = B32 := by decide
      have hs := shl_u64 (q / B32) .u64 32 (by decide) (by rw [p32]; exact f4)
      rw [p32, show ((32 : Nat) : Int) = 32 by decide] at hs
      have hq2 : q % B32 + q / B32 * B32 = q := by have := Nat.mod_add_div q B32; rw [Nat.mul_comm] at this; exact this
      have ha : ((q % B32 : Nat) : Int) + ((q / B32 * B32 : Nat) : Int) = (q : Int) := by rw [← Int.natCast_add, hq2]
      have c2 : (decide (((2 : Nat) : Int) > 2)) = false := by decide
      have c3 : (decide (((2 : Nat) : Int) > 1)) = true := by decide
      rw [e1]
      simp only [tick_eq, asSl_limbs, some_bind, limbs_len, List.length_cons, List.length_nil, Nat.zero_add, c2, c3, Bool.false_eq_true, if_false, if_true, i0, i1, g, g1, fld_int, cvi_i, v1, v2, hs, add_i, ha, wu64 (a := (q : Int)) (by omega), lenV_sl, vec_0, w1]
      rw [Yes_some]
def roddR (m : Nat) (e : Int) : V := match tenQ m e with
  | none => .tup [.int .u64 0, .int .i64 0, .bool false]
  | some (q, two) => if 18446744073709551616 ≤ q then .tup [.int .u64 0, .int .i64 0, .bool false] else .tup [.int .u64 (q : Int), .int .i64 two, .bool true]
theorem rodd_ok (neg : Bool) (m : Nat) (e : Int) (hn : NumOk m e) : P0 f_ref03_odd [.v (Nm.mk neg (toL m) e).val] [] = some (roddR m e, []) := by
  obtain ⟨h0, h1, h2, h3, h4⟩ := hn
  rw [eq_ref03_odd]; unfold F_ref03_odd
  apply yes
  generalize hR : roddR m e = R
  simp only [tick_eq, okN_nm, tst_t, fld_nm1, fld_nm2, some_bind]
  by_cases he : 0 ≤ e
  · obtain ⟨k, rfl⟩ := Int.eq_ofNat_of_zero_le he
    have hR2 : R = if 18446744073709551616 ≤ (odd2 (m * 5 ^ k)).1 then .tup [.int .u64 0, .int .i64 0, .bool false] else .tup [.int .u64 ((odd2 (m * 5 ^ k)).1 : Int), .int .i64 ((k : Int) + ((odd2 (m * 5 ^ k)).2 : Int)), .bool true] := by
      rw [← hR]; unfold roddR tenQ; rw [if_pos he, Int.toNat_natCast]
    rw [hR2]
    have hl1 := mulfive_loop (Nm.mk neg (toL m) (k : Int)) m k rfl (by omega) h2 k 0 (by omega)
    rw [Nat.pow_zero, Nat.mul_one, show ((0 : Nat) : Int) = 0 from rfl] at hl1
    have hl2 := no_loop2 (Nm.mk neg (toL m) (k : Int)) (.sl (limbs (toL (m * 5 ^ k)))) ⟨he, h4⟩
    have h5 := five_len k (by omega)
    have h6 := mul_len m (5 ^ k)
    have hM : m * 5 ^ k ≠ 0 := Nat.ne_of_gt (Nat.mul_pos (by omega) (Nat.pow_pos (by decide)))
    simp only [tick_eq, hl1, some_bind, vec_0, hl2, if_true]
    exact rodd_tail (m * 5 ^ k) k hM (by omega) ⟨h3, h4⟩
  · obtain ⟨k, hk⟩ : ∃ k : Nat, e = -(k : Int) := ⟨(-e).toNat, by omega⟩
    have hk' : (-e).toNat = k := by omega
    have hl1 := no_loop1 (Nm.mk neg (toL m) e) (.sl (limbs (toL m))) (by simp only; omega)
    have hl2 := divfive_loop (Nm.mk neg (toL m) e) m k hk (by omega) h2 k 0 (by omega) (by rw [Nat.pow_zero]; exact Nat.mod_one m)
    rw [Nat.pow_zero, Nat.div_one, show ((0 : Nat) : Int) = 0 from rfl] at hl2
    simp only [tick_eq, hl1, some_bind, vec_0, hl2]
    by_cases hr : m % 5 ^ k = 0
    · have hR2 : R = if 18446744073709551616 ≤ (odd2 (m / 5 ^ k)).1 then .tup [.int .u64 0, .int .i64 0, .bool false] else .tup [.int .u64 ((odd2 (m / 5 ^ k)).1 : Int), .int .i64 (e + ((odd2 (m / 5 ^ k)).2 : Int)), .bool true] := by
        rw [← hR]; unfold roddR tenQ; rw [if_neg he, hk', if_neg (by omega)]
      have hM : m / 5 ^ k ≠ 0 := by
        intro h6
        have := Nat.div_add_mod m (5 ^ k)
        rw [h6, hr] at this; simp at this; exact h0 this.symm
      have hl := toL_mono (Nat.div_le_self m (5 ^ k))
      rw [hR2, if_pos hr]
      simp only [tick_eq, if_true, vec_0]
      exact rodd_tail (m / 5 ^ k) e hM (by omega) ⟨h3, h4⟩
    · have hR2 : R = .tup [.int .u64 0, .int .i64 0, .bool false] := by
        rw [← hR]; unfold roddR tenQ; rw [if_neg he, hk', if_pos hr]
      rw [hR2, if_neg hr]
      simp only [tick_eq, show (1 = 0) = False by decide, if_false, vec_0, vec_s]
      rw [Yes_some]
end Go.Ev
