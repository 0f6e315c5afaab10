/- The law: what is put is got. -/
import Derived.Test.YtppkffipolncbaaKSu6
import Derived.Test.YtppkffipolncbaaRows
import Derived.Test.YtppkffipolncbaaKSp
set_option linter.all false
namespace Go.Ev
attribute [local irreducible] P0
/-- any number, as one from 0 to n - 1 -/
theorem placeH (a : Int) (n : Nat) (hn : 0 < n) (hn2 : n ≤ 2000000000) : ∃ r : Nat, P0 f_law00_Place [.v (.int .i64 a), .v (.int .i64 (n : Int))] [] = some (.int .i64 (r : Int), []) ∧ r < n := by
  rw [eq_law00_Place]; unfold F_law00_Place
  have h0 : (n : Int) ≠ 0 := by omega
  have hp : (0 : Int) < (n : Int) := by omega
  by_cases ha : 0 ≤ a
  · have e := Int.tmod_eq_emod_of_nonneg (b := (n : Int)) ha
    have b1 := Int.emod_nonneg a h0
    have b2 := Int.emod_lt_of_pos a hp
    have c : ¬ (a % (n : Int) < 0) := by omega
    refine ⟨(a % (n : Int)).toNat, ?_, by omega⟩
    simp only [tick_eq, rem_i _ _ _ h0, some_bind, lss_i, e, c, decide_false, asBool_b, Bool.false_eq_true, if_false]
    rw [show (((a % (n : Int)).toNat : Nat) : Int) = a % (n : Int) by omega]
  · have e : a.tmod (n : Int) = -((-a) % (n : Int)) := by
      rw [← Int.tmod_eq_emod_of_nonneg (a := -a) (b := (n : Int)) (by omega), Int.neg_tmod]; omega
    have b1 := Int.emod_nonneg (-a) h0
    have b2 := Int.emod_lt_of_pos (-a) hp
    by_cases hz : (-a) % (n : Int) = 0
    · refine ⟨0, ?_, hn⟩
      simp only [tick_eq, rem_i _ _ _ h0, some_bind, lss_i, e, hz, Int.neg_zero, Int.lt_irrefl, decide_false, asBool_b, Bool.false_eq_true, if_false]
      rfl
    · have c : -((-a) % (n : Int)) < 0 := by omega
      refine ⟨((n : Int) - (-a) % (n : Int)).toNat, ?_, by omega⟩
      simp only [tick_eq, rem_i _ _ _ h0, some_bind, lss_i, e, c, decide_true, asBool_b, if_true, add_i, w64 (a := -((-a) % (n : Int)) + (n : Int)) (by omega)]
      rw [show ((((n : Int) - (-a) % (n : Int)).toNat : Nat) : Int) = -((-a) % (n : Int)) + (n : Int) by omega]
/-- what comes after: kind K and number x are put and got -/
noncomputable def tailB (a1 : V) (K x : V) : Option (V × List V) :=
  (P0 f_mhead_Put [.v (.sl [(.int .u8 7), (.int .u8 7)]), .v K, .v x] []).bind fun r35 =>
(lenV r35.1).bind fun n36 =>
((if (decide ((((n36 : Nat) : Int) : Int) < 3)) = false then
(lenV r35.1).bind fun n37 =>
 some (.bool (decide ((((n37 : Nat) : Int) : Int) > 11)))
else some (.bool true) : Option V)).bind fun x38 =>
(asBool x38).bind fun b39 =>
 if b39 = true then
 some ((.bool false), [])
else
(P0 f_mhead_Get [.v r35.1, .v (.int .i64 2)] []).bind fun r40 =>
(extV r40.1 0).bind fun x41 =>
(extV r40.1 1).bind fun x42 =>
(extV r40.1 2).bind fun x43 =>
(extV r40.1 3).bind fun x44 =>
(lenV r35.1).bind fun n45 =>
(asSl 1 r35.1).bind fun l46 =>
(bnd2 none (some (.int .i64 (IntKind.wrap .i64 (((n45 : Nat) : Int) - 1)))) (l46.length)).bind fun q47 =>
(P0 f_mhead_Get [.v (.sl ((l46.drop q47.1).take (q47.2 - q47.1))), .v (.int .i64 2)] []).bind fun r48 =>
(extV r48.1 0).bind fun x49 =>
(extV r48.1 1).bind fun x50 =>
(extV r48.1 2).bind fun x51 =>
(extV r48.1 3).bind fun x52 =>
(binV .eql x41 K).bind fun x53 =>
(asBool x53).bind fun b54 =>
((if b54 = true then
(binV .eql x42 x).bind fun x55 =>
 some x55
else some (.bool false) : Option V)).bind fun x56 =>
(asBool x56).bind fun b57 =>
((if b57 = true then
(lenV r35.1).bind fun n58 =>
(binV .eql x43 (.int .i64 ((n58 : Nat) : Int))).bind fun x59 =>
 some x59
else some (.bool false) : Option V)).bind fun x60 =>
(asBool x60).bind fun b61 =>
((if b61 = true then
(binV .eql x44 (.int .i64 0)).bind fun x62 =>
 some x62
else some (.bool false) : Option V)).bind fun x63 =>
(asBool x63).bind fun b64 =>
((if b64 = true then
(binV .eql x52 (.int .i64 2)).bind fun x65 =>
 some x65
else some (.bool false) : Option V)).bind fun x66 =>
(asBool x66).bind fun b67 =>
((if b67 = true then
(P0 f_mhead_Put [.v (.sl []), .v (.int .i64 11), .v a1] []).bind fun r68 =>
(lenV r68.1).bind fun n69 =>
 some (.bool ((((n69 : Nat) : Int) : Int) == 0))
else some (.bool false) : Option V)).bind fun x70 =>
(asBool x70).bind fun b71 =>
((if b71 = true then
(P0 f_law11_awake [] []).bind fun r72 =>
 some r72.1
else some (.bool false) : Option V)).bind fun x73 =>
 some (x73, [])
theorem tailB_ok (n K x : Nat) (hn : n < 18446744073709551616) (h : Puts K x) : tailB (.int .u64 (n : Int)) (.int .i64 (K : Int)) (.int .u64 (x : Int)) = some (.bool true, []) := by
  obtain ⟨c, l, hP, hc, hne, hu, hmo, hl, hkc, hv⟩ := head_all h
  obtain ⟨z1, z2, z3, z4, z5⟩ := hz_le c hc
  have hput : P0 f_mhead_Put [.v (.sl [(.int .u8 7), (.int .u8 7)]), .v (.int .i64 (K : Int)), .v (.int .u64 (x : Int))] [] = some (.sl (bys (7 :: 7 :: c :: l)), []) := by
    have := hput_ok [7, 7] (K : Int) x h.1 (by decide)
    rw [hP] at this; exact this
  have hp2 : P0 f_mhead_Put [.v (.sl []), .v (.int .i64 11), .v (.int .u64 (n : Int))] [] = some (.sl [], []) := hput_ok [] 11 n hn (by decide)
  have hlen : (7 :: 7 :: c :: l).length = 3 + hz c := by simp only [List.length_cons, hl]; omega
  have hu2 : U8 (7 :: 7 :: c :: l) := by
    intro y hy
    simp only [List.mem_cons] at hy
    rcases hy with rfl | rfl | rfl | hy
    · decide
    · decide
    · exact hc
    · exact hu y hy
  have g1 : P0 f_mhead_Get [.v (.sl (bys (7 :: 7 :: c :: l))), .v (.int .i64 2)] [] = _ := mget_ok (7 :: 7 :: c :: l) hu2 (by omega) 2 (by omega)
  unfold getV at g1
  rw [show (7 :: 7 :: c :: l)[2]? = some c from rfl, Option.getD_some, if_neg hne, if_neg (by omega), hmo, Nat.add_zero, show (7 :: 7 :: c :: l).drop (2 + 1) = l from rfl, List.take_of_length_le (by omega), hv, hkc] at g1
  have hw : IntKind.i64.wrap (((3 + hz c : Nat) : Int) - 1) = ((2 + hz c : Nat) : Int) := by rw [w64 (a := ((3 + hz c : Nat) : Int) - 1) (by omega)]; omega
  have hb : bnd2 none (some (.int .i64 ((2 + hz c : Nat) : Int))) (3 + hz c) = some (0, 2 + hz c) := by
    rw [bnd_to _ _ _ (by omega), Int.toNat_natCast]
  have ht : ((bys (7 :: 7 :: c :: l)).drop (0, 2 + hz c).1).take ((0, 2 + hz c).2 - (0, 2 + hz c).1) = bys ((7 :: 7 :: c :: l).take (2 + hz c)) := by
    show ((bys (7 :: 7 :: c :: l)).drop 0).take (2 + hz c - 0) = _
    rw [List.drop_zero, Nat.sub_zero, bys_take]
  have g2 : ∃ u v w, P0 f_mhead_Get [.v (.sl (bys ((7 :: 7 :: c :: l).take (2 + hz c)))), .v (.int .i64 2)] [] = some (.tup [u, v, w, .int .i64 2], []) := by
    by_cases h0 : hz c = 0
    · have e : ((7 : Nat) :: 7 :: c :: l).take (2 + hz c) = [7, 7] := by rw [h0]; rfl
      rw [e]
      exact ⟨_, _, _, get_end [7, 7] (by decide)⟩
    · have hl2 : ((7 : Nat) :: 7 :: c :: l).take (2 + hz c) = 7 :: 7 :: c :: l.take (hz c - 1) := by
        rw [show 2 + hz c = hz c - 1 + 1 + 1 + 1 by omega]; rfl
      have hll : (7 :: 7 :: c :: l.take (hz c - 1)).length = 2 + hz c := by simp only [List.length_cons, List.length_take]; omega
      have hu3 : U8 (7 :: 7 :: c :: l.take (hz c - 1)) := fun y hy => hu2 y (by
        rw [← hl2] at hy; exact List.mem_of_mem_take hy)
      have := mget_ok (7 :: 7 :: c :: l.take (hz c - 1)) hu3 (by omega) 2 (by omega)
      unfold getV at this
      rw [show (7 :: 7 :: c :: l.take (hz c - 1))[2]? = some c from rfl, Option.getD_some, if_neg hne, if_pos (by omega)] at this
      rw [hl2]
      exact ⟨_, _, _, this⟩
  obtain ⟨u, v, w, g2⟩ := g2
  have d1 : decide (((3 + hz c : Nat) : Int) < 3) = false := decide_eq_false (by omega)
  have d2 : decide (((3 + hz c : Nat) : Int) > 11) = false := decide_eq_false (by omega)
  have d3 : decide (((2 + 1 + (hz c + 0) : Nat) : Int) = ((3 + hz c : Nat) : Int)) = true := decide_eq_true (by omega)
  have d4 : ((((List.length (α := V) []) : Nat) : Int) == 0) = true := rfl
  unfold tailB
  simp only [tick_eq, hput, some_bind, lenV_sl, bys_len, hlen, d1, if_true, d2, asBool_b, Bool.false_eq_true, if_false, g1, ext_tup, List.getElem?_cons_zero, List.getElem?_cons_succ, asSl_bys, hw, hb, ht, g2, eql_i, decide_true, d3, hp2, d4, awake11]
theorem xor_u64 (y : Nat) (hy : y < 18446744073709551616) : unV .xor (.int .u64 (y : Int)) = some (.int .u64 ((18446744073709551615 - y : Nat) : Int)) := by
  have e1 : (BitVec.ofInt 64 ((18446744073709551615 : Nat) : Int)) = BitVec.allOnes 64 := by decide
  have e2 : (BitVec.ofInt 64 (y : Int)).toNat = y := by rw [BitVec.toNat_ofInt]; omega
  have h : bits .xor .u64 ((18446744073709551615 : Nat) : Int) (y : Int) = ((18446744073709551615 - y : Nat) : Int) := by
    show IntKind.u64.wrap ((BitVec.ofInt 64 ((18446744073709551615 : Nat) : Int) ^^^ BitVec.ofInt 64 (y : Int)).toNat : Nat) = _
    rw [e1, BitVec.allOnes_xor, BitVec.toNat_not, e2]
    exact wu64n _ (by omega)
  show some (V.int .u64 (bits .xor .u64 ((18446744073709551615 : Nat) : Int) (y : Int))) = _
  rw [h]
theorem back_ok (kind bits' : Int) (n : Nat) (hn : n < 18446744073709551616) : P0 f_law11_MheadBack [.v (.int .i64 kind), .v (.int .u64 (n : Int)), .v (.int .i64 bits')] [] = some (.bool true, []) := by
  rw [eq_law11_MheadBack]; unfold F_law11_MheadBack
  obtain ⟨r, hr, hr2⟩ := placeH kind 11 (by decide) (by decide)
  have hr : P0 f_law00_Place [.v (.int .i64 kind), .v (.int .i64 11)] [] = some (.int .i64 (r : Int), []) := hr
  obtain ⟨w, hw, hw2⟩ := placeH bits' 65 (by decide) (by decide)
  have hw : P0 f_law00_Place [.v (.int .i64 bits'), .v (.int .i64 65)] [] = some (.int .i64 (w : Int), []) := hw
  have hcut : ∃ y : Nat, y < 18446744073709551616 ∧ (((binV .lss (.int .i64 (w : Int)) (.int .i64 64)).bind fun x4 => (asBool x4).bind fun b5 => if b5 = true then (cviV .u64 (.int .i64 (w : Int))).bind fun x6 => (binV .shl (.int .u64 1) x6).bind fun x7 => (binV .sub x7 (.int .u64 1)).bind fun x8 => (binV .and (.int .u64 (n : Int)) x8).bind fun x9 => some (0, (vec [x9])) else some (0, (vec [.int .u64 (n : Int)])) : Option (Nat × (Nat → V)))) = some (0, vec [.int .u64 (y : Int)]) := by
    by_cases h : w < 64
    · have hp : 1 ≤ 2 ^ w := Nat.pow_pos (by decide)
      have hp2 : 2 ^ w ≤ 2 ^ 63 := Nat.pow_le_pow_right (by decide) (by omega)
      have hp2 : 2 ^ w ≤ 9223372036854775808 := by simpa using hp2
      have hs : binV .shl (.int .u64 1) (.int .u64 (w : Int)) = some (.int .u64 ((2 ^ w : Nat) : Int)) := by
        rw [shl_i _ _ _ _ (Int.natCast_nonneg w), Int.toNat_natCast]
        have e : Nat.min w (IntKind.bits .u64) = w := Nat.min_eq_left (by show w ≤ 64; omega)
        have e2 : (1 : Int) * (2 : Int) ^ w = ((2 ^ w : Nat) : Int) := by simp
        rw [e, e2, wu64n _ (by omega)]
      have hm : IntKind.u64.wrap (((2 ^ w : Nat) : Int) - 1) = ((2 ^ w - 1 : Nat) : Int) := by
        rw [show ((2 ^ w : Nat) : Int) - 1 = ((2 ^ w - 1 : Nat) : Int) by omega, wu64n _ (by omega)]
      have ha := and_mask n (2 ^ w - 1) w (by omega) hn (by omega)
      refine ⟨n % 2 ^ w, Nat.lt_of_le_of_lt (Nat.mod_le _ _) hn, ?_⟩
      have d : decide ((w : Int) < 64) = true := decide_eq_true (by omega)
      simp only [tick_eq, lss_i, d, some_bind, asBool_b, if_true, cvi_i, wu64n w (by omega), hs, sub_i, hm, ha]
    · have d : decide ((w : Int) < 64) = false := decide_eq_false (by omega)
      exact ⟨n, hn, by simp only [tick_eq, lss_i, d, some_bind, asBool_b, Bool.false_eq_true, if_false]⟩
  obtain ⟨y, hy, hcut⟩ := hcut
  have a32 : binV .and (.int .u64 (y : Int)) (.int .u64 4294967295) = some (.int .u64 ((y % 4294967296 : Nat) : Int)) := and_mask y 4294967295 32 (by decide) hy (by decide)
  have a63 : binV .and (.int .u64 (y : Int)) (.int .u64 9223372036854775807) = some (.int .u64 ((y % 9223372036854775808 : Nat) : Int)) := and_mask y 9223372036854775807 63 (by decide) hy (by decide)
  have hx := xor_u64 (y % 9223372036854775808) (by omega)
  have l32 : y % 4294967296 < 4294967296 := Nat.mod_lt _ (by decide)
  rw [hr, some_bind]
  generalize hT : ixaV false 11 1 (.agg [(.int .i64 1), (.int .i64 2), (.int .i64 3), (.int .i64 4), (.int .i64 5), (.int .i64 6), (.int .i64 7), (.int .i64 8), (.int .i64 9), (.int .i64 10), (.int .i64 12)]) (.int .i64 (r : Int)) = T
  rcases (by omega : r = 0 ∨ r = 1 ∨ r = 2 ∨ r = 3 ∨ r = 4 ∨ r = 5 ∨ r = 6 ∨ r = 7 ∨ r = 8 ∨ r = 9 ∨ r = 10) with rfl | rfl | rfl | rfl | rfl | rfl | rfl | rfl | rfl | rfl | rfl
  · obtain rfl : some (V.int .i64 1) = T := hT
    simp only [tick_eq, some_bind, hw, hcut, eql_i, Int.reduceEq, decide_true, decide_false, asBool_b, if_true, Bool.false_eq_true, if_false, vec_0, a32, a63, hx]
    exact tailB_ok n 1 0 hn ⟨by decide, .inl ⟨rfl, rfl⟩⟩
  · obtain rfl : some (V.int .i64 2) = T := hT
    simp only [tick_eq, some_bind, hw, hcut, eql_i, Int.reduceEq, decide_true, decide_false, asBool_b, if_true, Bool.false_eq_true, if_false, vec_0, a32, a63, hx]
    exact tailB_ok n 2 0 hn ⟨by decide, .inr (.inl ⟨rfl, rfl⟩)⟩
  · obtain rfl : some (V.int .i64 3) = T := hT
    simp only [tick_eq, some_bind, hw, hcut, eql_i, Int.reduceEq, decide_true, decide_false, asBool_b, if_true, Bool.false_eq_true, if_false, vec_0, a32, a63, hx]
    exact tailB_ok n 3 0 hn ⟨by decide, .inr (.inr (.inl ⟨rfl, rfl⟩))⟩
  · obtain rfl : some (V.int .i64 4) = T := hT
    simp only [tick_eq, some_bind, hw, hcut, eql_i, Int.reduceEq, decide_true, decide_false, asBool_b, if_true, Bool.false_eq_true, if_false, vec_0, a32, a63, hx]
    exact tailB_ok n 4 y hn ⟨by omega, by omega⟩
  · obtain rfl : some (V.int .i64 5) = T := hT
    simp only [tick_eq, some_bind, hw, hcut, eql_i, Int.reduceEq, decide_true, decide_false, asBool_b, if_true, Bool.false_eq_true, if_false, vec_0, a32, a63, hx]
    exact tailB_ok n 5 (18446744073709551615 - y % 9223372036854775808) hn ⟨by omega, by omega⟩
  · obtain rfl : some (V.int .i64 6) = T := hT
    simp only [tick_eq, some_bind, hw, hcut, eql_i, Int.reduceEq, decide_true, decide_false, asBool_b, if_true, Bool.false_eq_true, if_false, vec_0, a32, a63, hx]
    exact tailB_ok n 6 y hn ⟨by omega, by omega⟩
  · obtain rfl : some (V.int .i64 7) = T := hT
    simp only [tick_eq, some_bind, hw, hcut, eql_i, Int.reduceEq, decide_true, decide_false, asBool_b, if_true, Bool.false_eq_true, if_false, vec_0, a32, a63, hx]
    exact tailB_ok n 7 (y % 4294967296) hn ⟨by omega, by omega⟩
  · obtain rfl : some (V.int .i64 8) = T := hT
    simp only [tick_eq, some_bind, hw, hcut, eql_i, Int.reduceEq, decide_true, decide_false, asBool_b, if_true, Bool.false_eq_true, if_false, vec_0, a32, a63, hx]
    exact tailB_ok n 8 (y % 4294967296) hn ⟨by omega, by omega⟩
  · obtain rfl : some (V.int .i64 9) = T := hT
    simp only [tick_eq, some_bind, hw, hcut, eql_i, Int.reduceEq, decide_true, decide_false, asBool_b, if_true, Bool.false_eq_true, if_false, vec_0, a32, a63, hx]
    exact tailB_ok n 9 (y % 4294967296) hn ⟨by omega, by omega⟩
  · obtain rfl : some (V.int .i64 10) = T := hT
    simp only [tick_eq, some_bind, hw, hcut, eql_i, Int.reduceEq, decide_true, decide_false, asBool_b, if_true, Bool.false_eq_true, if_false, vec_0, a32, a63, hx]
    exact tailB_ok n 10 (y % 4294967296) hn ⟨by omega, by omega⟩
  · obtain rfl : some (V.int .i64 12) = T := hT
    simp only [tick_eq, some_bind, hw, hcut, eql_i, Int.reduceEq, decide_true, decide_false, asBool_b, if_true, Bool.false_eq_true, if_false, vec_0, a32, a63, hx]
    exact tailB_ok n 12 (y % 4294967296) hn ⟨by omega, by omega⟩
theorem pure_MheadBack {n0 n1 n2 : Nat} {xs ys zs : List V} (hx : Ty Go.Proofs.Try.prog n0 3 xs) (hy : Ty Go.Proofs.Try.prog n1 23 ys) (hz : Ty Go.Proofs.Try.prog n2 3 zs) :
    P0 f_law11_MheadBack ([mkV Go.Proofs.Try.prog 3 xs, mkV Go.Proofs.Try.prog 23 ys, mkV Go.Proofs.Try.prog 3 zs].map .v) [] = some (.bool true, []) := by
  obtain ⟨z, _, ez⟩ := ty_int Go.Proofs.Try.underlying3 hx
  obtain ⟨w, hw, ew⟩ := ty_int Go.Proofs.Try.underlying23 hy
  obtain ⟨u, _, eu⟩ := ty_int Go.Proofs.Try.underlying3 hz
  obtain ⟨n, rfl, hn⟩ := wf_u64 hw
  rw [ez, ew, eu]
  exact back_ok z u n hn
end Go.Ev
