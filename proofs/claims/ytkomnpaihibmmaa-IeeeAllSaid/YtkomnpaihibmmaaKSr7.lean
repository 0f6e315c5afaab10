/- The reference's floats: the bits of a number, whole; the shortest. -/
import Derived.Test.YtkomnpaihibmmaaKSr6
set_option linter.all false
namespace Go.Ev
attribute [local irreducible] P0

theorem up_loop {w : Int} {ex fr : Nat} (h : Fm w ex fr) (k : Nat) : ∀ (v : Nat) (two : Int), v ≠ 0 → v < 18446744073709551616 → -100000 ≤ two → two ≤ 100000 → upBy ex fr v two = k →
    loopL (L_ref03_To_1 (.int .i64 (fr : Int)) (.int .i64 (leastI ex fr))) (vec [.int .u64 (v : Int), .int .i64 two]) = some (0, vec [.int .u64 ((v * 2 ^ k : Nat) : Int), .int .i64 (two - (k : Int))]) := by
  obtain ⟨f1, f2, f3, f4, f5, f6, f7, f8, f9, f10⟩ := fm_facts h
  obtain ⟨m1, m2, m3, m4, m5, m6, m7⟩ := mask_facts h
  have hl : leastI ex fr = 1 - ((2 : Int) ^ (ex - 1) - 1) - fr := by unfold leastI; omega
  have hpf : 2 ^ fr ≤ 2 ^ 52 := Nat.pow_le_pow_right (by decide) f1
  have hp52 : (2 : Nat) ^ 52 = 4503599627370496 := by decide
  induction k with
  | zero =>
    intro v two hv hv2 ht1 ht2 hk
    unfold upBy at hk
    rw [Nat.pow_zero, Nat.mul_one, show two - ((0 : Nat) : Int) = two by omega]
    apply loopL_inr
    unfold L_ref03_To_1
    have hc : 2 ^ fr ≤ v ∨ two ≤ leastI ex fr := by
      rcases Nat.eq_zero_or_pos (fr + 1 - bl v) with h1 | h1
      · left
        calc 2 ^ fr ≤ 2 ^ (bl v - 1) := Nat.pow_le_pow_right (by decide) (by omega)
          _ ≤ v := bl_le hv
      · right
        rcases Nat.eq_zero_or_pos (two - leastI ex fr).toNat with h2 | h2
        · omega
        · exfalso
          have := Nat.lt_min.2 ⟨h1, h2⟩
          omega
    by_cases c1 : (v : Int) < ((2 ^ fr : Nat) : Int)
    · have c2 : ¬ (leastI ex fr < two) := by
        rcases hc with h1 | h1
        · exfalso; omega
        · omega
      simp only [tick_eq, cvi_i, m2, some_bind, m6, vec_0, vec_s, lss_i, c1, decide_true, asBool_b, if_true, gtr_i, c2, decide_false, Bool.false_eq_true, if_false]
    · simp only [tick_eq, cvi_i, m2, some_bind, m6, vec_0, vec_s, lss_i, c1, decide_false, asBool_b, Bool.false_eq_true, if_false]
  | succ k ih =>
    intro v two hv hv2 ht1 ht2 hk
    unfold upBy at hk
    have hb1 : k + 1 ≤ fr + 1 - bl v := by rw [← hk]; exact Nat.min_le_left _ _
    have hb2 : k + 1 ≤ (two - leastI ex fr).toNat := by rw [← hk]; exact Nat.min_le_right _ _
    have hvl : v < 2 ^ fr := by
      calc v < 2 ^ bl v := bl_lt v
        _ ≤ 2 ^ fr := Nat.pow_le_pow_right (by decide) (by omega)
    have hbl : bl (v * 2) = bl v + 1 := by
      have := bl_mul (s := 1) hv
      rw [Nat.pow_one] at this; exact this
    have hk2 : upBy ex fr (v * 2) (two - 1) = k := by
      unfold upBy
      rw [hbl, show (two - 1 - leastI ex fr).toNat = (two - leastI ex fr).toNat - 1 by omega, show fr + 1 - (bl v + 1) = fr + 1 - bl v - 1 by omega]
      generalize fr + 1 - bl v = A at *
      generalize (two - leastI ex fr).toNat = B at *
      omega
    have := ih (v * 2) (two - 1) (by omega) (by omega) (by omega) (by omega) hk2
    rw [show v * 2 ^ (k + 1) = v * 2 * 2 ^ k by rw [Nat.pow_succ]; ac_rfl, show two - ((k + 1 : Nat) : Int) = two - 1 - (k : Int) by omega, ← this]
    apply loopL_inl
    unfold L_ref03_To_1
    have c1 : (v : Int) < ((2 ^ fr : Nat) : Int) := by omega
    have c2 : leastI ex fr < two := by omega
    have hsh := shl_u64 v .u64 1 (by decide) (by omega)
    rw [Nat.pow_one, show ((1 : Nat) : Int) = 1 from rfl] at hsh
    have w := w64 (a := two - 1) (by omega)
    simp only [tick_eq, cvi_i, m2, some_bind, m6, vec_0, vec_s, lss_i, c1, decide_true, asBool_b, if_true, gtr_i, c2, hsh, sub_i, w]
/-- behind the shift -/
theorem rto_tail {w : Int} {ex fr : Nat} (h : Fm w ex fr) (neg : Bool) (r4 : Nm) (hr : r4.neg = neg) (v : Nat) (two : Int) (hv : v < 18446744073709551616) (ht : -200000 ≤ two ∧ two ≤ 200000) (x22 : Int) (hx : x22 = leastI ex fr) :
    Yes (α := V × List V) ((binV .add (.int .i64 (fr : Int)) (.int .i64 1)).bind fun x34 =>
      (cviV .u64 x34).bind fun x35 =>
      (binV .shl (.int .u64 1) x35).bind fun x36 =>
      (binV .geq (.int .u64 (v : Int)) x36).bind fun x37 =>
      (asBool x37).bind fun b38 =>
      ((if b38 = false then
      (binV .lss (.int .i64 two) (.int .i64 x22)).bind fun x39 =>
      some x39
      else some (.bool true) : Option V)).bind fun x40 =>
      (asBool x40).bind fun b41 =>
      if b41 = true then
      some ((V.tup [(.int .u64 0), (.bool false)]), [])
      else
      (((cviV .u64 (.int .i64 (fr : Int))).bind fun x42 =>
      (binV .shl (.int .u64 1) x42).bind fun x43 =>
      (binV .geq (.int .u64 (v : Int)) x43).bind fun x44 =>
      (asBool x44).bind fun b45 =>
      if b45 = true then
      (binV .sub (.int .i64 two) (.int .i64 x22)).bind fun x46 =>
      (binV .add x46 (.int .i64 1)).bind fun x47 =>
      (cviV .u64 (.int .i64 (ex : Int))).bind fun x48 =>
      (binV .shl (.int .i64 1) x48).bind fun x49 =>
      (binV .sub x49 (.int .i64 1)).bind fun x50 =>
      (binV .geq x47 x50).bind fun x51 =>
      (asBool x51).bind fun b52 =>
      if b52 = true then
      some (1, (vec [(.int .u64 0), (.bool false)]))
      else
      (binV .sub (.int .i64 two) (.int .i64 x22)).bind fun x53 =>
      (binV .add x53 (.int .i64 1)).bind fun x54 =>
      (cviV .u64 x54).bind fun x55 =>
      some (0, (vec [x55]))
      else
      some (0, (vec [(.int .u64 0)])) : Option (Nat × (Nat → V)))).bind fun o56 =>
      if o56.1 = 0 then
      (cviV .u64 (.int .i64 (fr : Int))).bind fun x57 =>
      (binV .shl (o56.2 0) x57).bind fun x58 =>
      (cviV .u64 (.int .i64 (fr : Int))).bind fun x59 =>
      (binV .shl (.int .u64 1) x59).bind fun x60 =>
      (binV .sub x60 (.int .u64 1)).bind fun x61 =>
      (binV .and (.int .u64 (v : Int)) x61).bind fun x62 =>
      (binV .or x58 x62).bind fun x63 =>
      (((fldV r4.val 0).bind fun c64 =>
      (asBool c64).bind fun b65 =>
      if b65 = true then
      (binV .add (.int .i64 (ex : Int)) (.int .i64 (fr : Int))).bind fun x66 =>
      (cviV .u64 x66).bind fun x67 =>
      (binV .shl (.int .u64 1) x67).bind fun x68 =>
      (binV .or x63 x68).bind fun x69 =>
      some (0, (vec [x69]))
      else
      some (0, (vec [x63])) : Option (Nat × (Nat → V)))).bind fun o70 =>
      some ((V.tup [(o70.2 0), (.bool true)]), [])
      else
      some ((V.tup [(o56.2 0), (o56.2 1)]), []))
      (V.tup [.int .u64 ((refQ ex fr neg v two).1 : Int), .bool (refQ ex fr neg v two).2], []) := by
  subst hx
  obtain ⟨f1, f2, f3, f4, f5, f6, f7, f8, f9, f10⟩ := fm_facts h
  obtain ⟨m1, m2, m3, m4, m5, m6, m7⟩ := mask_facts h
  have hl : leastI ex fr = 1 - ((2 : Int) ^ (ex - 1) - 1) - fr := by unfold leastI; omega
  have hpf : 2 ^ fr ≤ 2 ^ 52 := Nat.pow_le_pow_right (by decide) f1
  have hp52 : (2 : Nat) ^ 52 = 4503599627370496 := by decide
  have hpp := Nat.pow_pos (n := fr) (show 0 < 2 by decide)
  have hfr1 : ∃ S : Int, IntKind.i64.wrap ((fr : Int) + 1) = S ∧ IntKind.u64.wrap S = S ∧ binV .shl (.int .u64 1) (.int .u64 S) = some (.int .u64 ((2 ^ (fr + 1) : Nat) : Int)) := by
    cases h
    · exact ⟨11, by decide, by decide, by kernel_rfl⟩
    · exact ⟨24, by decide, by decide, by kernel_rfl⟩
    · exact ⟨53, by decide, by decide, by kernel_rfl⟩
  obtain ⟨S, g1, g2, g3⟩ := hfr1
  have hex1 : ∃ Q : Int, binV .shl (.int .i64 1) (.int .u64 (ex : Int)) = some (.int .i64 Q) ∧ IntKind.i64.wrap (Q - 1) = (2 : Int) ^ ex - 1 ∧ (2 : Int) ^ ex ≤ 2048 := by
    cases h
    · exact ⟨32, by kernel_rfl, by decide, by decide⟩
    · exact ⟨256, by kernel_rfl, by decide, by decide⟩
    · exact ⟨2048, by kernel_rfl, by decide, by decide⟩
  obtain ⟨Q, g4, g5, g6⟩ := hex1
  have w1 : IntKind.i64.wrap (two - leastI ex fr) = two - leastI ex fr := w64 (by omega)
  have w2 : IntKind.i64.wrap (two - leastI ex fr + 1) = two - leastI ex fr + 1 := w64 (by omega)
  have hmask := and_mask v (2 ^ fr - 1) fr (by omega) hv (by omega)
  have hmlt := Nat.mod_lt v hpp
  -- the sign
  have sign : ∀ y : Nat, y < 2 ^ (ex + fr) → Yes (α := V × List V) ((((if neg = true then
      (binV .add (.int .i64 (ex : Int)) (.int .i64 (fr : Int))).bind fun x66 =>
      (cviV .u64 x66).bind fun x67 =>
      (binV .shl (.int .u64 1) x67).bind fun x68 =>
      (binV .or (.int .u64 (y : Int)) x68).bind fun x69 =>
      some (0, (vec [x69]))
      else
      some (0, (vec [.int .u64 (y : Int)]))) : Option (Nat × (Nat → V)))).bind fun o70 =>
      some ((V.tup [(o70.2 0), (.bool true)]), [])) (V.tup [.int .u64 ((y + (if neg then 2 ^ (ex + fr) else 0) : Nat) : Int), .bool true], []) := fun y hy => by
    cases neg with
    | false => simp only [tick_eq, Bool.false_eq_true, if_false, some_bind, vec_0, Nat.add_zero]; rw [Yes_some]
    | true =>
      have hp : 2 ^ (ex + fr) ≤ 2 ^ 63 := Nat.pow_le_pow_right (by decide) f5
      have hp2 : (2 : Nat) ^ 63 = 9223372036854775808 := by decide
      have ho := or_u64 y (2 ^ (ex + fr)) (by omega) (by omega)
      have h1 := or_hi y 1 (ex + fr) hy
      rw [Nat.one_mul] at h1
      rw [h1] at ho
      have hsh : binV .shl (.int .u64 1) (.int .u64 ((ex + fr : Nat) : Int)) = some (.int .u64 ((2 ^ (ex + fr) : Nat) : Int)) := by
        have := shl_u64 1 .u64 (ex + fr) (by omega) (by omega)
        rw [Nat.one_mul] at this; exact this
      simp only [tick_eq, if_true, add_i, f9, some_bind, cvi_i, m3, hsh, ho, vec_0]
      rw [Yes_some]
  have hpfr : 2 ^ fr * 2 ^ ex = 2 ^ (ex + fr) := by rw [← Nat.pow_add, Nat.add_comm]
  have hpe := Nat.pow_pos (n := ex) (show 0 < 2 by decide)
  have hexI : ((2 ^ ex : Nat) : Int) = (2 : Int) ^ ex := by simp
  generalize hR : refQ ex fr neg v two = R
  unfold refQ at hR
  by_cases c1 : 2 ^ (fr + 1) ≤ v
  · have c1' : ((2 ^ (fr + 1) : Nat) : Int) ≤ (v : Int) := by omega
    rw [if_pos (.inl c1)] at hR
    rw [← hR]
    simp only [tick_eq, add_i, g1, some_bind, cvi_i, g2, g3, geq_i, c1', decide_true, asBool_b, show (true = false) = False by decide, if_false, if_true]
    rw [Yes_some]; rfl
  have c1' : ¬ (((2 ^ (fr + 1) : Nat) : Int) ≤ (v : Int)) := by omega
  by_cases c2 : two < leastI ex fr
  · rw [if_pos (.inr (.inl c2))] at hR
    rw [← hR]
    simp only [tick_eq, add_i, g1, some_bind, cvi_i, g2, g3, geq_i, c1', decide_false, asBool_b, if_true, lss_i, c2, decide_true]
    rw [Yes_some]; rfl
  simp only [tick_eq, add_i, g1, some_bind, cvi_i, g2, g3, geq_i, c1', decide_false, asBool_b, if_true, lss_i, c2, Bool.false_eq_true, if_false, m2, m6]
  by_cases c3 : 2 ^ fr ≤ v
  · have c3' : ((2 ^ fr : Nat) : Int) ≤ (v : Int) := by omega
    simp only [tick_eq, c3', decide_true, if_true, sub_i, w1, some_bind, add_i, w2, m1, cvi_i, g4, g5, geq_i, asBool_b]
    by_cases c4 : (2 : Int) ^ ex - 1 ≤ two - leastI ex fr + 1
    · rw [if_pos (.inr (.inr ⟨c3, c4⟩))] at hR
      rw [← hR]
      simp only [tick_eq, c4, decide_true, if_true, some_bind, show (1 = 0) = False by decide, if_false, vec_0, vec_s]
      rw [Yes_some]; rfl
    · have hc : ¬ (2 ^ (fr + 1) ≤ v ∨ two < leastI ex fr ∨ (2 ^ fr ≤ v ∧ (2 : Int) ^ ex - 1 ≤ two - leastI ex fr + 1)) := by
        rintro (h | h | h)
        · exact c1 h
        · exact c2 h
        · exact c4 h.2
      obtain ⟨E, hE⟩ : ∃ E : Nat, two - leastI ex fr + 1 = (E : Int) := ⟨(two - leastI ex fr + 1).toNat, by omega⟩
      rw [if_neg hc, if_pos c3, hE, Int.toNat_natCast] at hR
      rw [← hR, hE]
      rw [hE] at c4
      have hE2 : E < 2 ^ ex - 1 := by omega
      have hE3 : E ≤ 2046 := by omega
      have hEf : E * 2 ^ fr < 18446744073709551616 := by
        calc E * 2 ^ fr ≤ 2046 * 2 ^ 52 := Nat.mul_le_mul hE3 hpf
          _ < 18446744073709551616 := by decide
      have w6 : IntKind.u64.wrap (E : Int) = (E : Int) := wu64 (by omega)
      have w7 : IntKind.i64.wrap (E : Int) = (E : Int) := w64 (by omega)
      have hsh2 := shl_u64 E .u64 fr (by omega) hEf
      have ho := or_u64 (E * 2 ^ fr) (v % 2 ^ fr) hEf (by omega)
      rw [Nat.or_comm, or_hi _ _ _ hmlt] at ho
      simp only [tick_eq, c4, decide_false, Bool.false_eq_true, if_false, some_bind, sub_i, w1, add_i, hE, w7, cvi_i, m2, m6, w6, if_true, vec_0, hsh2, m7, hmask, ho, fld_nm0, hr, asBool_b]
      refine sign _ ?_
      calc v % 2 ^ fr + E * 2 ^ fr < (E + 1) * 2 ^ fr := by rw [Nat.add_mul, Nat.one_mul]; omega
        _ ≤ 2 ^ ex * 2 ^ fr := Nat.mul_le_mul_right _ (by omega)
        _ = 2 ^ (ex + fr) := by rw [Nat.mul_comm]; exact hpfr
  · have c3' : ¬ (((2 ^ fr : Nat) : Int) ≤ (v : Int)) := by omega
    have hc : ¬ (2 ^ (fr + 1) ≤ v ∨ two < leastI ex fr ∨ (2 ^ fr ≤ v ∧ (2 : Int) ^ ex - 1 ≤ two - leastI ex fr + 1)) := by
      rintro (h | h | h)
      · exact c1 h
      · exact c2 h
      · exact c3 h.1
    have hsh0 := shl_u64 0 .u64 fr (by omega) (by omega)
    rw [Nat.zero_mul, show ((0 : Nat) : Int) = 0 from rfl] at hsh0
    have ho := or_u64 0 (v % 2 ^ fr) (by decide) (by omega)
    rw [Nat.zero_or, show ((0 : Nat) : Int) = 0 from rfl] at ho
    rw [if_neg hc, if_neg c3, Nat.zero_mul, Nat.add_zero] at hR
    rw [← hR]
    simp only [tick_eq, c3', decide_false, Bool.false_eq_true, if_false, some_bind, if_true, vec_0, cvi_i, m2, hsh0, m6, m7, hmask, ho, fld_nm0, hr, asBool_b]
    refine sign _ ?_
    calc v % 2 ^ fr < 2 ^ fr := hmlt
      _ ≤ 2 ^ (ex + fr) := Nat.pow_le_pow_right (by decide) (by omega)
theorem rto_ok {w : Int} {ex fr : Nat} (h : Fm w ex fr) (n : Nm) (hu : U32 n.m) (hl : n.m.length ≤ 1000) :
    P0 f_ref03_To [.v (.int .i64 w), .v n.val] [] = some (.tup [.int .u64 ((if okB n = true ∧ n.m ≠ [] then toR ex fr n.neg (nval n.m) n.e else (0, true)).1 : Int), .bool (if okB n = true ∧ n.m ≠ [] then toR ex fr n.neg (nval n.m) n.e else (0, true)).2], []) := by
  obtain ⟨f1, f2, f3, f4, f5, f6, _⟩ := fm_facts h
  have hpw := parts_w h
  have his := ris_gen n hu hl
  have hex0 : ¬ ((ex : Int) = 0) ∧ (0 : Int) < (ex : Int) := by omega
  rw [eq_ref03_To]; unfold F_ref03_To
  apply yes
  by_cases hc : okB n = true ∧ n.m ≠ []
  · rw [if_pos hc]
    rw [hc.1, if_pos rfl] at his
    obtain ⟨h1, h2⟩ := okB_num hu hc.1 hc.2
    have hodd := rodd_ok n.neg (nval n.m) n.e h2
    rw [← h1] at hodd
    have hlen : ((((n.m.length : Nat) : Int)) == 0) = false := by simp [hc.2]
    have hleast : ∃ S Q : Int, IntKind.i64.wrap ((ex : Int) - 1) = S ∧ IntKind.u64.wrap S = S ∧ binV .shl (.int .i64 1) (.int .u64 S) = some (.int .i64 Q) ∧ IntKind.i64.wrap (IntKind.i64.wrap (2 - Q) - (fr : Int)) = leastI ex fr := by
      cases h
      · exact ⟨4, 16, by decide, by decide, by kernel_rfl, by decide⟩
      · exact ⟨7, 128, by decide, by decide, by kernel_rfl, by decide⟩
      · exact ⟨10, 1024, by decide, by decide, by kernel_rfl, by decide⟩
    obtain ⟨S, Q, g1, g2, g3, g4⟩ := hleast
    generalize hR : toR ex fr n.neg (nval n.m) n.e = R
    unfold toR at hR
    unfold roddR at hodd
    simp only [tick_eq, okN_nm, tst_t, hpw, some_bind, ext_tup, List.getElem?_cons_zero, List.getElem?_cons_succ, his, eql_i, hex0.1, decide_false, asBool_b, if_true, fld_nm1, lenV_sl, limbs_len, hlen, Bool.false_eq_true, if_false, hodd]
    cases ht : tenQ (nval n.m) n.e with
    | none =>
      rw [ht] at hR
      rw [← hR]
      simp only [tick_eq, ext_tup, List.getElem?_cons_zero, List.getElem?_cons_succ, some_bind, not_b, Bool.not_false, asBool_b, if_true]
      rw [Yes_some]; rfl
    | some p =>
      obtain ⟨q, two⟩ := p
      rw [ht] at hR
      -- what tenQ gives is odd and near
      have hq : q ≠ 0 ∧ -100000 ≤ two ∧ two ≤ 100000 := by
        obtain ⟨b0, b1, b2, b3, b4⟩ := h2
        unfold tenQ at ht
        split at ht
        · next he =>
          obtain ⟨k, hk⟩ := Int.eq_ofNat_of_zero_le he
          injection ht with ht; injection ht with e1 e2
          rw [hk, Int.toNat_natCast] at e1 e2
          have hM : nval n.m * 5 ^ k ≠ 0 := Nat.ne_of_gt (Nat.mul_pos (by omega) (Nat.pow_pos (by decide)))
          obtain ⟨o1, o2, o3⟩ := odd_part hM
          have hb := toL_bl (nval n.m * 5 ^ k)
          have h5 := five_len k (by omega)
          have h6 := mul_len (nval n.m) (5 ^ k)
          exact ⟨by rw [← e1]; exact o1, by omega, by omega⟩
        · next he =>
          split at ht
          · cases ht
          · next hd =>
            injection ht with ht; injection ht with e1 e2
            have hM : nval n.m / 5 ^ (-n.e).toNat ≠ 0 := by
              intro h6
              have := Nat.div_add_mod (nval n.m) (5 ^ (-n.e).toNat)
              rw [h6] at this
              simp at hd this
              rw [hd] at this; exact b0 this.symm
            obtain ⟨o1, o2, o3⟩ := odd_part hM
            have hb := toL_bl (nval n.m / 5 ^ (-n.e).toNat)
            have hl := toL_mono (Nat.div_le_self (nval n.m) (5 ^ (-n.e).toNat))
            exact ⟨by rw [← e1]; exact o1, by omega, by omega⟩
      simp only at hR
      by_cases hbig : 18446744073709551616 ≤ q
      · have hR2 : R = (0, false) := by
          have h65 : 65 ≤ bl q := by
            rcases Nat.lt_or_ge (bl q) 65 with h7 | h7
            · exfalso
              have h8 := bl_lt q
              have h9 : 2 ^ bl q ≤ 2 ^ 64 := Nat.pow_le_pow_right (by decide) (by omega)
              have h10 : (2 : Nat) ^ 64 = 18446744073709551616 := by decide
              omega
            · exact h7
          have h66 : fr + 1 < bl q := by omega
          rw [← hR]; unfold toQ
          rw [if_pos (.inl h66)]
        rw [hR2]
        simp only [tick_eq, hbig, if_true, ext_tup, List.getElem?_cons_zero, List.getElem?_cons_succ, some_bind, not_b, Bool.not_false, asBool_b]
        rw [Yes_some]; rfl
      · have hq64 : q < 18446744073709551616 := by omega
        have hup := up_loop h _ q two hq.1 hq64 hq.2.1 hq.2.2 rfl
        have heq := refQ_eq (ex := ex) (fr := fr) f6 n.neg two hq.1
        have hul : upBy ex fr q two ≤ fr + 1 := Nat.le_trans (Nat.min_le_left _ _) (by omega)
        have hv : q * 2 ^ upBy ex fr q two < 18446744073709551616 := by
          rcases Nat.eq_zero_or_pos (upBy ex fr q two) with h7 | h7
          · rw [h7, Nat.pow_zero, Nat.mul_one]; exact hq64
          · have h8 : upBy ex fr q two ≤ fr + 1 - bl q := Nat.min_le_left _ _
            calc q * 2 ^ upBy ex fr q two < 2 ^ bl q * 2 ^ upBy ex fr q two := Nat.mul_lt_mul_of_pos_right (bl_lt q) (Nat.pow_pos (by decide))
              _ = 2 ^ (bl q + upBy ex fr q two) := by rw [← Nat.pow_add]
              _ ≤ 2 ^ 64 := Nat.pow_le_pow_right (by decide) (by omega)
              _ = 18446744073709551616 := by decide
        rw [← hR, ← heq]
        simp only [tick_eq, hbig, if_false, ext_tup, List.getElem?_cons_zero, List.getElem?_cons_succ, some_bind, not_b, Bool.not_true, asBool_b, Bool.false_eq_true, sub_i, g1, cvi_i, g2, g3, g4, hup, vec_0, vec_s]
        exact rto_tail h n.neg n rfl _ _ hv (by omega) _ rfl
  · rw [if_neg hc]
    have hm : (if okB n then n else Nm.zero).m = [] := by
      cases hk : okB n with
      | false => rfl
      | true =>
        by_cases h : n.m = []
        · exact h
        · exact absurd ⟨hk, h⟩ hc
    simp only [tick_eq, okN_nm, tst_t, hpw, some_bind, ext_tup, List.getElem?_cons_zero, List.getElem?_cons_succ, his, eql_i, hex0.1, decide_false, asBool_b, if_true, fld_nm1, lenV_sl, limbs_len, hm, List.length_nil, gtr_i, hex0.2, decide_true]
    simp [f6]
end Go.Ev
