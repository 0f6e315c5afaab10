/- Floats: the bits of a number, part 2. -/
import Derived.Test.YtkomnpaihibmmaaKSq13
set_option linter.all false
namespace Go.Ev
attribute [local irreducible] P0

def toR (ex fr : Nat) (neg : Bool) (m : Nat) (e : Int) : Nat × Bool := match tenQ m e with
  | none => (0, false)
  | some (q, two) => toQ ex fr neg q two
theorem fm_facts {w : Int} {ex fr : Nat} (h : Fm w ex fr) : fr ≤ 52 ∧ 10 ≤ fr ∧ 15 ≤ (2 : Int) ^ (ex - 1) - 1 ∧ (2 : Int) ^ (ex - 1) - 1 ≤ 1023 ∧ ex + fr ≤ 63 ∧ 0 < ex ∧ binV .shl (.int .u64 1) (.int .i64 (fr : Int)) = some (.int .u64 ((2 ^ fr : Nat) : Int)) ∧
    binV .sub (.int .u64 ((2 ^ fr : Nat) : Int)) (.int .u64 1) = some (.int .u64 ((2 ^ fr - 1 : Nat) : Int)) ∧ IntKind.i64.wrap ((ex : Int) + (fr : Int)) = ((ex + fr : Nat) : Int) ∧ binV .shl (.int .u64 1) (.int .i64 ((ex + fr : Nat) : Int)) = some (.int .u64 ((2 ^ (ex + fr) : Nat) : Int)) := by
  cases h <;> exact ⟨by decide, by decide, by decide, by decide, by decide, by decide, by kernel_rfl, by kernel_rfl, by decide, by kernel_rfl⟩
theorem shl_u64 (v : Nat) (k : IntKind) (s : Nat) (hs : s < 64) (hv : v * 2 ^ s < 18446744073709551616) : binV .shl (.int .u64 (v : Int)) (.int k (s : Int)) = some (.int .u64 ((v * 2 ^ s : Nat) : Int)) := by
  rw [shl_i _ _ _ _ (Int.natCast_nonneg s), Int.toNat_natCast]
  have e : Nat.min s (IntKind.bits .u64) = s := Nat.min_eq_left (by show s ≤ 64; omega)
  have e2 : (v : Int) * (2 : Int) ^ s = ((v * 2 ^ s : Nat) : Int) := by simp
  rw [e, e2, wu64 ⟨Int.natCast_nonneg _, Int.ofNat_le.2 (show v * 2 ^ s ≤ 18446744073709551615 by omega)⟩]
theorem or_u64 (x y : Nat) (hx : x < 18446744073709551616) (hy : y < 18446744073709551616) : binV .or (.int .u64 (x : Int)) (.int .u64 (y : Int)) = some (.int .u64 ((x ||| y : Nat) : Int)) := by
  have h := u64_or_nat x y hx hy
  simp only [binV, intV, isShift, decide_true, Bool.or_true, if_pos, h]
theorem or_hi (x c k : Nat) (hx : x < 2 ^ k) : x ||| c * 2 ^ k = x + c * 2 ^ k := by
  have h := Nat.two_pow_add_eq_or_of_lt (i := k) (b := x) hx c
  rw [Nat.or_comm, Nat.mul_comm, ← h, Nat.add_comm]
theorem limb_facts (q : Nat) (h : q < 18446744073709551616) : q % B32 ≤ 4294967295 ∧ q / B32 ≤ 4294967295 ∧ q / B32 / B32 = 0 ∧ q / B32 * B32 < 18446744073709551616 ∧ (q / B32 = 0 → q < B32 ∧ q ≤ 4294967295) ∧ q / B32 < B32 := by
  unfold B32; omega
/-- the 64 bits out of limbs -/
theorem two_limbs (q : Nat) (h0 : q ≠ 0) (hq : q < 18446744073709551616) (K : Nat × (Nat → V) → Option (V × List V)) :
    ((asSl 1 (.sl (limbs (toL q)))).bind fun l49 => (idxV (.int .i64 0) (l49.length)).bind fun i50 => (l49[i50]?).bind fun e51 => (fldV e51 0).bind fun c52 => (cviV .u64 c52).bind fun x53 =>
      (((lenV (.sl (limbs (toL q)))).bind fun n54 =>
      if (decide ((((n54 : Nat) : Int) : Int) > 1)) = true then
      (asSl 1 (.sl (limbs (toL q)))).bind fun l55 =>
      (idxV (.int .i64 1) (l55.length)).bind fun i56 =>
      (l55[i56]?).bind fun e57 =>
      (fldV e57 0).bind fun c58 =>
      (cviV .u64 c58).bind fun x59 =>
      (binV .shl x59 (.int .u64 32)).bind fun x60 =>
      (binV .or x53 x60).bind fun x61 =>
      some (0, (vec [x61]))
      else
      some (0, (vec [x53])) : Option (Nat × (Nat → V)))).bind K) = K (0, vec [.int .u64 (q : Int)]) := by
  obtain ⟨f1, f2, f3, f4, f5, f6⟩ := limb_facts q hq
  by_cases h1 : q / B32 = 0
  · have e : toL q = [q] := by
      rw [toL_step q h0, h1, toL_zero]
      have : q % B32 = q := Nat.mod_eq_of_lt (f5 h1).1
      rw [this]
    have i0 : idxV (.int .i64 0) 1 = some 0 := by kernel_rfl
    have g : (limbs [q])[0]? = some (.int .u32 (q : Int)) := rfl
    rw [e]
    simp only [asSl_limbs, some_bind, limbs_len, List.length_cons, List.length_nil, Nat.zero_add, i0, g, fld_int, cvi_i, wu64 (a := (q : Int)) (by omega), lenV_sl]
    rw [if_neg (by decide)]
    rfl
  · have e : toL q = [q % B32, q / B32] := by
      rw [toL_step q h0, toL_step _ h1]
      have h3 : q / B32 % B32 = q / B32 := Nat.mod_eq_of_lt f6
      rw [f3, h3, toL_zero]
    have i0 : idxV (.int .i64 0) 2 = some 0 := by kernel_rfl
    have i1 : idxV (.int .i64 1) 2 = some 1 := by kernel_rfl
    have g : (limbs [q % B32, q / B32])[0]? = some (.int .u32 ((q % B32 : Nat) : Int)) := rfl
    have g1 : (limbs [q % B32, q / B32])[1]? = some (.int .u32 ((q / B32 : Nat) : Int)) := rfl
    have w1 := wu64 (a := ((q % B32 : Nat) : Int)) ⟨Int.natCast_nonneg _, Int.ofNat_le.2 (show q % B32 ≤ 18446744073709551615 from Nat.le_trans f1 (by decide))⟩
    have w2 := wu64 (a := ((q / B32 : Nat) : Int)) ⟨Int.natCast_nonneg _, Int.ofNat_le.2 (show q / B32 ≤ 18446744073709551615 from Nat.le_trans f2 (by decide))⟩
    have p32 : (2 : Nat) ^ 32 = B32 := by decide
    have hs : binV .shl (.int .u64 ((q / B32 : Nat) : Int)) (.int .u64 32) = _ := shl_u64 (q / B32) .u64 32 (by decide) (by rw [p32]; exact f4)
    have ho := or_u64 (q % B32) (q / B32 * 2 ^ 32) (Nat.lt_of_le_of_lt f1 (by decide)) (by rw [p32]; exact f4)
    rw [or_hi _ _ _ (by rw [p32]; exact Nat.mod_lt _ (by decide)), p32] at ho
    have hq2 : q % B32 + q / B32 * B32 = q := by have := Nat.mod_add_div q B32; rw [Nat.mul_comm] at this; exact this
    rw [hq2] at ho
    rw [p32] at hs
    rw [e]
    simp only [asSl_limbs, some_bind, limbs_len, List.length_cons, List.length_nil, Nat.zero_add, i0, g, fld_int, cvi_i, w1, lenV_sl]
    rw [if_pos (by decide)]
    simp only [i1, g1, some_bind, fld_int, cvi_i, w2, hs, ho]
theorem to_tail {w : Int} {ex fr : Nat} (h : Fm w ex fr) (neg : Bool) (q : Nat) (two : Int) (h0 : q ≠ 0) (hl : (toL q).length ≤ 1000) (ht : -100000 ≤ two ∧ two ≤ 100000) :
    Yes (α := V × List V) ( (P0 f_nat_Bits [.v (.sl (limbs (toL q)))] []).bind fun r34 =>
 (fldV (fmV ex fr) 1).bind fun c35 =>
 (binV .add c35 (.int .i64 1)).bind fun x36 =>
 (binV .gtr r34.1 x36).bind fun x37 =>
 (asBool x37).bind fun b38 =>
 ((if b38 = false then
 (P0 f_ieee_form_least [.v (fmV ex fr)] []).bind fun r39 =>
 (binV .lss (.int .i64 two) r39.1).bind fun x40 =>
 some x40
 else some (.bool true) : Option V)).bind fun x41 =>
 (asBool x41).bind fun b42 =>
 ((if b42 = false then
 (binV .add (.int .i64 two) r34.1).bind fun x43 =>
 (binV .sub x43 (.int .i64 1)).bind fun x44 =>
 (P0 f_ieee_form_bias [.v (fmV ex fr)] []).bind fun r45 =>
 (binV .gtr x44 r45.1).bind fun x46 =>
 some x46
 else some (.bool true) : Option V)).bind fun x47 =>
 (asBool x47).bind fun b48 =>
 if b48 = true then
 some ((V.tup [(.int .u64 0), (.bool false)]), [])
 else
 (asSl 1 (.sl (limbs (toL q)))).bind fun l49 =>
 (idxV (.int .i64 0) (l49.length)).bind fun i50 =>
 (l49[i50]?).bind fun e51 =>
 (fldV e51 0).bind fun c52 =>
 (cviV .u64 c52).bind fun x53 =>
 (((lenV (.sl (limbs (toL q)))).bind fun n54 =>
 if (decide ((((n54 : Nat) : Int) : Int) > 1)) = true then
 (asSl 1 (.sl (limbs (toL q)))).bind fun l55 =>
 (idxV (.int .i64 1) (l55.length)).bind fun i56 =>
 (l55[i56]?).bind fun e57 =>
 (fldV e57 0).bind fun c58 =>
 (cviV .u64 c58).bind fun x59 =>
 (binV .shl x59 (.int .u64 32)).bind fun x60 =>
 (binV .or x53 x60).bind fun x61 =>
 some (0, (vec [x61]))
 else
 some (0, (vec [x53])) : Option (Nat × (Nat → V)))).bind fun o62 =>
 (binV .add (.int .i64 two) r34.1).bind fun x63 =>
 (binV .sub x63 (.int .i64 1)).bind fun x64 =>
 (P0 f_ieee_form_bias [.v (fmV ex fr)] []).bind fun r65 =>
 (binV .add x64 r65.1).bind fun x66 =>
 (((binV .geq x66 (.int .i64 1)).bind fun x67 =>
 (asBool x67).bind fun b68 =>
 if b68 = true then
 (fldV (fmV ex fr) 1).bind fun c69 =>
 (binV .add c69 (.int .i64 1)).bind fun x70 =>
 (binV .sub x70 r34.1).bind fun x71 =>
 (binV .shl (o62.2 0) x71).bind fun x72 =>
 (fldV (fmV ex fr) 1).bind fun c73 =>
 (binV .shl (.int .u64 1) c73).bind fun x74 =>
 (binV .sub x74 (.int .u64 1)).bind fun x75 =>
 (binV .and x72 x75).bind fun x76 =>
 (cviV .u64 x66).bind fun x77 =>
 (fldV (fmV ex fr) 1).bind fun c78 =>
 (binV .shl x77 c78).bind fun x79 =>
 (binV .or x76 x79).bind fun x80 =>
 some (0, (vec [x80]))
 else
 (P0 f_ieee_form_least [.v (fmV ex fr)] []).bind fun r81 =>
 (binV .sub (.int .i64 two) r81.1).bind fun x82 =>
 (binV .shl (o62.2 0) x82).bind fun x83 =>
 some (0, (vec [x83])) : Option (Nat × (Nat → V)))).bind fun o84 =>
 (((asBool (.bool neg)).bind fun b85 =>
 if b85 = true then
 (fldV (fmV ex fr) 0).bind fun c86 =>
 (fldV (fmV ex fr) 1).bind fun c87 =>
 (binV .add c86 c87).bind fun x88 =>
 (binV .shl (.int .u64 1) x88).bind fun x89 =>
 (binV .or (o84.2 0) x89).bind fun x90 =>
 some (0, (vec [x90]))
 else
 some (0, (vec [(o84.2 0)])) : Option (Nat × (Nat → V)))).bind fun o91 =>
 some ((V.tup [(o91.2 0), (.bool true)]), []))
      (V.tup [.int .u64 ((toQ ex fr neg q two).1 : Int), .bool (toQ ex fr neg q two).2], []) := by
  obtain ⟨f1, f2, f3, f4, f5, f6, f7, f8, f9, f10⟩ := fm_facts h
  have hbits := nbits_ok (toL q) (toL_u32 q) (by omega)
  rw [nval_toL] at hbits
  have hblt : bl q ≤ 32 * (toL q).length := bl_mono_lt (by rw [← B32_pow]; have := nval_lt' _ (toL_u32 q); rwa [nval_toL] at this)
  have hbp := bl_pos h0
  have hls := least_ok h
  have hbi := bias_ok h
  have w1 : IntKind.i64.wrap ((fr : Int) + 1) = (fr : Int) + 1 := w64 (by omega)
  have w2 : IntKind.i64.wrap (two + (bl q : Int)) = two + (bl q : Int) := w64 (by omega)
  have w3 : IntKind.i64.wrap (two + (bl q : Int) - 1) = two + (bl q : Int) - 1 := w64 (by omega)
  have hlf : leastI ex fr = 1 - ((2 : Int) ^ (ex - 1) - 1) - fr := by unfold leastI; omega
  have e1 : ¬ (((fr : Int) + 1 < (bl q : Int)) ↔ ¬ (fr + 1 < bl q)) := by omega
  unfold toQ
  by_cases c1 : fr + 1 < bl q
  · have c1' : (fr : Int) + 1 < (bl q : Int) := by omega
    rw [if_pos (.inl c1)]
    simp [hbits, fm1, w1, c1']
  have c1' : ¬ (fr : Int) + 1 < (bl q : Int) ∧ (bl q : Int) ≤ (fr : Int) + 1 := by omega
  have hl2 : (2 - (2 : Int) ^ (ex - 1) - fr) = leastI ex fr := rfl
  rw [hl2]
  by_cases c2 : two < leastI ex fr
  · rw [if_pos (.inr (.inl c2))]
    simp [hbits, fm1, w1, c1', hls, c2]
  have c2' : ¬ two < leastI ex fr ∧ leastI ex fr ≤ two := by omega
  generalize hbb : (2 : Int) ^ (ex - 1) - 1 = bi at *
  by_cases c3 : bi < two + (bl q : Int) - 1
  · rw [if_pos (.inr (.inr c3))]
    simp [hbits, fm1, w1, w2, w3, c1', hls, c2', hbi, c3]
  have c3' : ¬ bi < two + (bl q : Int) - 1 ∧ two + (bl q : Int) - 1 ≤ bi := by omega
  rw [if_neg (by omega)]
  have hq64 : q < 18446744073709551616 := by
    refine Nat.lt_of_lt_of_le (bl_lt q) ?_
    calc 2 ^ bl q ≤ 2 ^ 53 := Nat.pow_le_pow_right (by decide) (by omega)
      _ ≤ 18446744073709551616 := by decide
  have w4 : IntKind.i64.wrap (two + (bl q : Int) - 1 + bi) = two + (bl q : Int) - 1 + bi := w64 (by omega)
  simp only [hbits, some_bind, fm1, add_i, w1, gtr_i, c1'.1, decide_false, asBool_b, if_true, hls, lss_i, c2'.1, w2, sub_i, w3, hbi, c3'.1, Bool.false_eq_true, if_false, fm0]
  rw [two_limbs q h0 hq64]
  simp only [vec_0, w4, geq_i, some_bind, asBool_b]
  -- the sign
  have sign : ∀ v : Nat, v < 2 ^ (ex + fr) → Yes (α := V × List V) ((((if neg = true then
      (binV .add (.int .i64 (ex : Int)) (.int .i64 (fr : Int))).bind fun x88 =>
      (binV .shl (.int .u64 1) x88).bind fun x89 =>
      (binV .or (.int .u64 (v : Int)) x89).bind fun x90 =>
      some (0, (vec [x90]))
      else
      some (0, (vec [.int .u64 (v : Int)]))) : Option (Nat × (Nat → V)))).bind fun o91 =>
      some ((V.tup [(o91.2 0), (.bool true)]), [])) (V.tup [.int .u64 ((v + (if neg then 2 ^ (ex + fr) else 0) : Nat) : Int), .bool true], []) := fun v hv => by
    cases neg with
    | false => simp
    | true =>
      have hp : 2 ^ (ex + fr) ≤ 2 ^ 63 := Nat.pow_le_pow_right (by decide) f5
      have hp2 : (2 : Nat) ^ 63 = 9223372036854775808 := by decide
      have ho := or_u64 v (2 ^ (ex + fr)) (by omega) (by omega)
      have h1 := or_hi v 1 (ex + fr) hv
      rw [Nat.one_mul] at h1
      rw [h1] at ho
      simp only [if_true, add_i, f9, f10, ho, some_bind, vec_0]
      simp
  have hpfr : 2 ^ fr * 2 ^ ex = 2 ^ (ex + fr) := by rw [← Nat.pow_add, Nat.add_comm]
  by_cases c4 : 1 ≤ two + (bl q : Int) - 1 + bi
  · rw [if_pos c4]
    obtain ⟨s, hs⟩ : ∃ s : Nat, (fr : Int) + 1 - (bl q : Int) = (s : Int) := ⟨fr + 1 - bl q, by omega⟩
    obtain ⟨E, hE⟩ : ∃ E : Nat, two + (bl q : Int) - 1 + bi = (E : Int) := ⟨(two + (bl q : Int) - 1 + bi).toNat, by omega⟩
    have hs2 : fr + 1 - bl q = s := by omega
    have hEx : E < 2 ^ ex := by
      have h1 : ((2 ^ ex : Nat) : Int) = 2 * (bi + 1) := by
        rw [← hbb]
        have : ex = ex - 1 + 1 := by omega
        rw [this, Nat.pow_succ]
        simp; omega
      omega
    have hqs : q * 2 ^ s < 2 ^ 53 := by
      calc q * 2 ^ s < 2 ^ bl q * 2 ^ s := Nat.mul_lt_mul_of_pos_right (bl_lt q) (Nat.pow_pos (by decide))
        _ = 2 ^ (fr + 1) := by rw [← Nat.pow_add]; congr 1; omega
        _ ≤ 2 ^ 53 := Nat.pow_le_pow_right (by decide) (by omega)
    have hp53 : (2 : Nat) ^ 53 = 9007199254740992 := by decide
    have hsh := shl_u64 q .i64 s (by omega) (by omega)
    have hp52 : (2 : Nat) ^ fr ≤ 2 ^ 52 := Nat.pow_le_pow_right (by decide) f1
    have hp52' : (2 : Nat) ^ 52 = 4503599627370496 := by decide
    have hpp := Nat.pow_pos (n := fr) (show 0 < 2 by decide)
    have hmask := and_mask (q * 2 ^ s) (2 ^ fr - 1) fr (by omega) (by omega) (by omega)
    have hE2 : E ≤ 2046 := by omega
    have hEf : E * 2 ^ fr < 18446744073709551616 := by
      calc E * 2 ^ fr ≤ 2046 * 2 ^ 52 := Nat.mul_le_mul hE2 hp52
        _ < 18446744073709551616 := by decide
    have hsh2 := shl_u64 E .i64 fr (by omega) hEf
    have hmlt := Nat.mod_lt (q * 2 ^ s) hpp
    have ho := or_u64 (q * 2 ^ s % 2 ^ fr) (E * 2 ^ fr) (by omega) hEf
    rw [or_hi _ _ _ hmlt] at ho
    have w5 : IntKind.i64.wrap ((fr : Int) + 1 - (bl q : Int)) = (s : Int) := by rw [hs]; exact w64 (by omega)
    have w6 : IntKind.u64.wrap (E : Int) = (E : Int) := wu64 (by omega)
    rw [hE] at c4 ⊢
    rw [hs2, Int.toNat_natCast]
    simp only [c4, decide_true, if_true, some_bind, w5, hsh, f7, f8, hmask, cvi_i, w6, hsh2, ho, vec_0]
    refine sign _ ?_
    calc q * 2 ^ s % 2 ^ fr + E * 2 ^ fr < (E + 1) * 2 ^ fr := by rw [Nat.add_mul, Nat.one_mul]; omega
      _ ≤ 2 ^ ex * 2 ^ fr := Nat.mul_le_mul_right _ hEx
      _ = 2 ^ (ex + fr) := by rw [Nat.mul_comm]; exact hpfr
  · rw [if_neg c4]
    obtain ⟨s, hs⟩ : ∃ s : Nat, two - leastI ex fr = (s : Int) := ⟨(two - leastI ex fr).toNat, by omega⟩
    have hqs : q * 2 ^ s < 2 ^ fr := by
      calc q * 2 ^ s < 2 ^ bl q * 2 ^ s := Nat.mul_lt_mul_of_pos_right (bl_lt q) (Nat.pow_pos (by decide))
        _ = 2 ^ (bl q + s) := by rw [← Nat.pow_add]
        _ ≤ 2 ^ fr := Nat.pow_le_pow_right (by decide) (by omega)
    have hp52 : (2 : Nat) ^ fr ≤ 2 ^ 52 := Nat.pow_le_pow_right (by decide) f1
    have hp52' : (2 : Nat) ^ 52 = 4503599627370496 := by decide
    have hsh := shl_u64 q .i64 s (by omega) (by omega)
    have w5 : IntKind.i64.wrap (s : Int) = (s : Int) := w64 (by omega)
    rw [hs, Int.toNat_natCast]
    simp only [c4, decide_false, Bool.false_eq_true, if_false, some_bind, w5, hsh, vec_0]
    refine sign _ ?_
    calc q * 2 ^ s < 2 ^ fr := hqs
      _ ≤ 2 ^ (ex + fr) := Nat.pow_le_pow_right (by decide) (by omega)
end Go.Ev
