/- Heads: what Put puts. -/
import Derived.Test.YtppkffipolncbaaKSu1
set_option linter.all false
namespace Go.Ev
attribute [local irreducible] P0
def numB (n : Nat) : List Nat :=
  if n < 128 ∨ 18446744073709551584 ≤ n then [n % 256]
  else if n < 9223372036854775808 then sizedB n 204 [1, 2, 4, 8]
  else if 18446744073709551488 ≤ n then 208 :: lowB n 1
  else if 18446744073709518848 ≤ n then 209 :: lowB n 2
  else if 18446744071562067968 ≤ n then 210 :: lowB n 4
  else 211 :: lowB n 8
theorem ss_1248 : V.sl [.int .i64 1, .int .i64 2, .int .i64 4, .int .i64 8] = .sl (ints ([1, 2, 4, 8].map Int.ofNat)) := rfl
theorem bys_lit (b : List Nat) (x : Nat) : bys b ++ [V.int .u8 (x : Int)] = bys (b ++ [x]) := bys_1 b x
theorem bytes_f (b : List Nat) (f n k : Nat) (hk : k ≤ 8) (hb : b.length ≤ 10000) : P0 f_mhead_bytes [.o 1 (bys b ++ [V.int .u8 (f : Int)]), .v (.int .u64 (n : Int)), .v (.int .i64 (k : Int))] [] = some (.sl (bys (b ++ f :: lowB n k)), []) := by
  rw [bys_1, bytes_ok _ n k hk (by simp; omega), List.append_assoc]; rfl
theorem or_tab : (∀ m, m < 32 → 160 ||| m = 160 + m) ∧ (∀ m, m < 16 → 144 ||| m = 144 + m) ∧ (∀ m, m < 16 → 128 ||| m = 128 + m) := by decide
theorem or_u8 (x y : Nat) (hx : x < 256) (hy : y < 256) : binV .or (.int .u8 (x : Int)) (.int .u8 (y : Int)) = some (.int .u8 ((x ||| y : Nat) : Int)) := by
  have e1 : (BitVec.ofInt 8 (x : Int)).toNat = x := by rw [BitVec.toNat_ofInt]; omega
  have e2 : (BitVec.ofInt 8 (y : Int)).toNat = y := by rw [BitVec.toNat_ofInt]; omega
  have h : bits .or .u8 (x : Int) (y : Int) = ((x ||| y : Nat) : Int) := by
    show IntKind.u8.wrap ((BitVec.ofInt 8 (x : Int) ||| BitVec.ofInt 8 (y : Int)).toNat : Nat) = ((x ||| y : Nat) : Int)
    rw [BitVec.toNat_or, e1, e2, wu8]
    have : x ||| y < 2 ^ 8 := Nat.or_lt_two_pow hx hy
    rw [Nat.mod_eq_of_lt this]
  simp only [binV, intV, isShift, decide_true, Bool.or_true, if_pos, h]
theorem hnumber_ok (b : List Nat) (n : Nat) (hn : n < 18446744073709551616) (hb : b.length ≤ 900) : P0 f_mhead_number [.o 1 (bys b), .v (.int .u64 (n : Int))] [] = some (.sl (bys (b ++ numB n)), []) := by
  rw [eq_mhead_number]; unfold F_mhead_number numB
  have ap := app_ok 1 b.length 1 (by omega) (by omega)
  have hx : IntKind.i64.wrap (n : Int) = if n < 9223372036854775808 then (n : Int) else (n : Int) - 18446744073709551616 := by
    rw [IntKind.wrap_i64]; split <;> omega
  generalize hX : IntKind.i64.wrap (n : Int) = x at hx
  have h8 : IntKind.u8.wrap x = ((n % 256 : Nat) : Int) := by
    rw [IntKind.wrap_u8, hx]; split <;> omega
  have hs := sized_ok b n 204 [1, 2, 4, 8] hn (by omega) (by decide) (by decide)
  rw [← ss_1248] at hs
  have hs : P0 f_mhead_sized [.o 1 (bys b), .v (.int .u64 (n : Int)), .v (.int .u8 204), .v (.sl [.int .i64 1, .int .i64 2, .int .i64 4, .int .i64 8])] [] = _ := hs
  have b1 : P0 f_mhead_bytes [.o 1 (bys b ++ [V.int .u8 208]), .v (.int .u64 (n : Int)), .v (.int .i64 1)] [] = _ := bytes_f b 208 n 1 (by decide) (by omega)
  have b2 : P0 f_mhead_bytes [.o 1 (bys b ++ [V.int .u8 209]), .v (.int .u64 (n : Int)), .v (.int .i64 2)] [] = _ := bytes_f b 209 n 2 (by decide) (by omega)
  have b4 : P0 f_mhead_bytes [.o 1 (bys b ++ [V.int .u8 210]), .v (.int .u64 (n : Int)), .v (.int .i64 4)] [] = _ := bytes_f b 210 n 4 (by decide) (by omega)
  have b8 : P0 f_mhead_bytes [.o 1 (bys b ++ [V.int .u8 211]), .v (.int .u64 (n : Int)), .v (.int .i64 8)] [] = _ := bytes_f b 211 n 8 (by decide) (by omega)
  have dT : ∀ {p : Prop} [Decidable p], p → decide p = true := fun h => decide_eq_true h
  have dF : ∀ {p : Prop} [Decidable p], ¬ p → decide p = false := fun h => decide_eq_false h
  by_cases c1 : n < 128
  · rw [if_pos (by omega : n < 9223372036854775808)] at hx
    have d1 : decide ((0 : Int) ≤ x) = true := dT (by omega)
    have d2 : decide (x < 128) = true := dT (by omega)
    rw [if_pos (.inl c1)]
    simp only [tick_eq, cvi_i, hX, some_bind, geq_i, d1, asBool_b, if_true, lss_i, d2, vec_0, vec_s, h8, okN_int, tst_t, fld_int, szOk_by1, elems_sl, bys_len, one_len, ap, bys_1, Nat.one_ne_zero, if_false]
  by_cases c2 : 18446744073709551584 ≤ n
  · rw [if_neg (by omega : ¬ n < 9223372036854775808)] at hx
    have d1 : decide ((0 : Int) ≤ x) = false := dF (by omega)
    have d2 : decide (x < 0) = true := dT (by omega)
    have d3 : decide ((-32 : Int) ≤ x) = true := dT (by omega)
    rw [if_pos (.inr c2)]
    simp only [tick_eq, cvi_i, hX, some_bind, geq_i, d1, asBool_b, Bool.false_eq_true, if_true, lss_i, d2, d3, vec_0, vec_s, h8, okN_int, tst_t, fld_int, szOk_by1, elems_sl, bys_len, one_len, ap, bys_1, Nat.one_ne_zero, if_false]
  rw [if_neg (by omega)]
  by_cases c3 : n < 9223372036854775808
  · rw [if_pos c3] at hx
    have d1 : decide ((0 : Int) ≤ x) = true := dT (by omega)
    have d2 : decide (x < 128) = false := dF (by omega)
    have d3 : decide (x < 0) = false := dF (by omega)
    rw [if_pos c3]
    simp only [tick_eq, cvi_i, hX, some_bind, geq_i, d1, asBool_b, if_true, lss_i, d2, d3, vec_0, vec_s, Bool.false_eq_true, if_false, elems_sl, hs, Nat.one_ne_zero]
  rw [if_neg c3] at hx ⊢
  have d1 : decide ((0 : Int) ≤ x) = false := dF (by omega)
  have d2 : decide (x < 0) = true := dT (by omega)
  have d3 : decide ((-32 : Int) ≤ x) = false := dF (by omega)
  by_cases c4 : 18446744073709551488 ≤ n
  · have d4 : decide ((-128 : Int) ≤ x) = true := dT (by omega)
    rw [if_pos c4]
    simp only [tick_eq, cvi_i, hX, some_bind, geq_i, d1, asBool_b, if_true, lss_i, d2, d3, d4, vec_0, vec_s, Bool.false_eq_true, if_false, elems_sl, szOk_by1, tst_t, bys_len, one_len, ap, b1, Nat.one_ne_zero]
  have d4 : decide ((-128 : Int) ≤ x) = false := dF (by omega)
  rw [if_neg c4]
  by_cases c5 : 18446744073709518848 ≤ n
  · have d5 : decide ((-32768 : Int) ≤ x) = true := dT (by omega)
    rw [if_pos c5]
    simp only [tick_eq, cvi_i, hX, some_bind, geq_i, d1, asBool_b, if_true, lss_i, d2, d3, d4, d5, vec_0, vec_s, Bool.false_eq_true, if_false, elems_sl, szOk_by1, tst_t, bys_len, one_len, ap, b2, Nat.one_ne_zero]
  have d5 : decide ((-32768 : Int) ≤ x) = false := dF (by omega)
  rw [if_neg c5]
  by_cases c6 : 18446744071562067968 ≤ n
  · have d6 : decide ((-2147483648 : Int) ≤ x) = true := dT (by omega)
    rw [if_pos c6]
    simp only [tick_eq, cvi_i, hX, some_bind, geq_i, d1, asBool_b, if_true, lss_i, d2, d3, d4, d5, d6, vec_0, vec_s, Bool.false_eq_true, if_false, elems_sl, szOk_by1, tst_t, bys_len, one_len, ap, b4, Nat.one_ne_zero]
  have d6 : decide ((-2147483648 : Int) ≤ x) = false := dF (by omega)
  rw [if_neg c6]
  simp only [tick_eq, cvi_i, hX, some_bind, geq_i, d1, asBool_b, if_true, lss_i, d2, d3, d4, d5, d6, vec_0, vec_s, Bool.false_eq_true, if_false, elems_sl, szOk_by1, tst_t, bys_len, one_len, ap, b8]
/-- what Put puts behind -/
def putC (kind : Int) (n m : Nat) : List Nat :=
  if kind = 1 then [192] else if kind = 2 then [194] else if kind = 3 then [195]
  else if kind = 4 then (if 9223372036854775807 < n then sizedB n 204 [1, 2, 4, 8] else numB n)
  else if kind = 5 then numB n
  else if kind = 6 then 203 :: lowB n 8
  else if kind = 12 then 202 :: lowB m 4
  else if kind = 7 then (if m < 32 then [160 + m] else sizedB m 217 [1, 2, 4])
  else if kind = 8 then sizedB m 196 [1, 2, 4]
  else if kind = 9 then (if m < 16 then [144 + m] else sizedB m 220 [2, 4])
  else if kind = 10 then (if m < 16 then [128 + m] else sizedB m 222 [2, 4])
  else []
def putB (kind : Int) (n : Nat) : List Nat := putC kind n (n % 4294967296)
theorem bnd3_all (k k' : IntKind) (n : Nat) : bnd3 none (some (.int k (n : Int))) (some (.int k' (n : Int))) n = some (0, n) := by simp [bnd3, bndV]
theorem hput_ok (b : List Nat) (kind : Int) (n : Nat) (hn : n < 18446744073709551616) (hb : b.length ≤ 900) : P0 f_mhead_Put [.v (.sl (bys b)), .v (.int .i64 kind), .v (.int .u64 (n : Int))] [] = some (.sl (bys (b ++ putB kind n)), []) := by
  rw [eq_mhead_Put]; unfold F_mhead_Put putB
  have hm : n % 4294967296 < 4294967296 := Nat.mod_lt _ (by decide)
  have hand : binV .and (.int .u64 (n : Int)) (.int .u64 4294967295) = some (.int .u64 ((n % 4294967296 : Nat) : Int)) := and_mask n 4294967295 32 (by decide) hn (by decide)
  generalize n % 4294967296 = m at hm hand ⊢
  unfold putC
  have hLL : ((bys b).drop 0).take (b.length - 0) = bys b := by rw [List.drop_zero, Nat.sub_zero]; exact List.take_of_length_le (by rw [bys_len]; omega)
  have ap := app_ok 1 b.length 1 (by omega) (by omega)
  have hnum := hnumber_ok b n hn hb
  have head : ∀ {ρ : Type} {K : Nat → Nat → List V → (Nat × Nat) → V → Option ρ}, ((lenV (V.sl (bys b))).bind fun n1 => (lenV (V.sl (bys b))).bind fun n2 => (asSl 1 (V.sl (bys b))).bind fun l3 =>
      (bnd3 none (some (.int .i64 ((n1 : Nat) : Int))) (some (.int .i64 ((n2 : Nat) : Int))) (l3.length)).bind fun q4 => (binV .and (.int .u64 (n : Int)) (.int .u64 4294967295)).bind fun x5 => K n1 n2 l3 q4 x5) = K b.length b.length (bys b) (0, b.length) (.int .u64 (m : Int)) := by
    intro ρ K
    simp only [tick_eq, lenV_sl, bys_len, some_bind, asSl_bys, bnd3_all, hand]
  rw [head]
  have dT : ∀ {p : Prop} [Decidable p], p → decide p = true := fun h => decide_eq_true h
  have dF : ∀ {p : Prop} [Decidable p], ¬ p → decide p = false := fun h => decide_eq_false h
  have m64 : m < 18446744073709551616 := by omega
  by_cases h1 : kind = 1
  · subst h1; simp only [tick_eq, eql_i, Int.reduceEq, decide_true, decide_false, some_bind, asBool_b, if_true, Bool.false_eq_true, if_false, szOk_by1, szOk_bys, tst_t, hLL, bys_len, one_len, ap, vec_0, Nat.reduceSub, Nat.reduceEqDiff, Nat.one_ne_zero]; rw [show bys b ++ [V.int .u8 192] = _ from bys_lit b 192]
  by_cases h2 : kind = 2
  · subst h2; simp only [tick_eq, eql_i, Int.reduceEq, decide_true, decide_false, some_bind, asBool_b, if_true, Bool.false_eq_true, if_false, szOk_by1, szOk_bys, tst_t, hLL, bys_len, one_len, ap, vec_0, Nat.reduceSub, Nat.reduceEqDiff, Nat.one_ne_zero]; rw [show bys b ++ [V.int .u8 194] = _ from bys_lit b 194]
  by_cases h3 : kind = 3
  · subst h3; simp only [tick_eq, eql_i, Int.reduceEq, decide_true, decide_false, some_bind, asBool_b, if_true, Bool.false_eq_true, if_false, szOk_by1, szOk_bys, tst_t, hLL, bys_len, one_len, ap, vec_0, Nat.reduceSub, Nat.reduceEqDiff, Nat.one_ne_zero]; rw [show bys b ++ [V.int .u8 195] = _ from bys_lit b 195]
  by_cases h4 : kind = 4
  · subst h4
    have hs : P0 f_mhead_sized [.o 1 (bys b), .v (.int .u64 (n : Int)), .v (.int .u8 204), .v (.sl [.int .i64 1, .int .i64 2, .int .i64 4, .int .i64 8])] [] = _ := sized_ok b n 204 [1, 2, 4, 8] hn (by omega) (by decide) (by decide)
    by_cases hc : 9223372036854775807 < n
    · have d : decide ((9223372036854775807 : Int) < (n : Int)) = true := dT (by omega)
      simp only [tick_eq, eql_i, Int.reduceEq, decide_true, decide_false, some_bind, asBool_b, if_true, Bool.false_eq_true, if_false, szOk_by1, szOk_bys, tst_t, hLL, bys_len, one_len, ap, vec_0, Nat.reduceSub, Nat.reduceEqDiff, Nat.one_ne_zero, gtr_i, d, hc, hs]
    · have d : decide ((9223372036854775807 : Int) < (n : Int)) = false := dF (by omega)
      simp only [tick_eq, eql_i, Int.reduceEq, decide_true, decide_false, some_bind, asBool_b, if_true, Bool.false_eq_true, if_false, szOk_by1, szOk_bys, tst_t, hLL, bys_len, one_len, ap, vec_0, Nat.reduceSub, Nat.reduceEqDiff, Nat.one_ne_zero, gtr_i, d, hc, hnum]
  by_cases h5 : kind = 5
  · subst h5; simp only [tick_eq, eql_i, Int.reduceEq, decide_true, decide_false, some_bind, asBool_b, if_true, Bool.false_eq_true, if_false, szOk_by1, szOk_bys, tst_t, hLL, bys_len, one_len, ap, vec_0, Nat.reduceSub, Nat.reduceEqDiff, Nat.one_ne_zero, hnum]
  by_cases h6 : kind = 6
  · subst h6
    have hs : P0 f_mhead_bytes [.o 1 (bys b ++ [V.int .u8 203]), .v (.int .u64 (n : Int)), .v (.int .i64 8)] [] = _ := bytes_f b 203 n 8 (by decide) (by omega)
    simp only [tick_eq, eql_i, Int.reduceEq, decide_true, decide_false, some_bind, asBool_b, if_true, Bool.false_eq_true, if_false, szOk_by1, szOk_bys, tst_t, hLL, bys_len, one_len, ap, vec_0, Nat.reduceSub, Nat.reduceEqDiff, Nat.one_ne_zero, hs]
  by_cases h12 : kind = 12
  · subst h12
    have hs : P0 f_mhead_bytes [.o 1 (bys b ++ [V.int .u8 202]), .v (.int .u64 (m : Int)), .v (.int .i64 4)] [] = _ := bytes_f b 202 m 4 (by decide) (by omega)
    simp only [tick_eq, eql_i, Int.reduceEq, decide_true, decide_false, some_bind, asBool_b, if_true, Bool.false_eq_true, if_false, szOk_by1, szOk_bys, tst_t, hLL, bys_len, one_len, ap, vec_0, Nat.reduceSub, Nat.reduceEqDiff, Nat.one_ne_zero, hs]
  by_cases h8 : kind = 8
  · subst h8
    have hs : P0 f_mhead_sized [.o 1 (bys b), .v (.int .u64 (m : Int)), .v (.int .u8 196), .v (.sl [.int .i64 1, .int .i64 2, .int .i64 4])] [] = _ := sized_ok b m 196 [1, 2, 4] m64 (by omega) (by decide) (by decide)
    simp only [tick_eq, eql_i, Int.reduceEq, decide_true, decide_false, some_bind, asBool_b, if_true, Bool.false_eq_true, if_false, szOk_by1, szOk_bys, tst_t, hLL, bys_len, one_len, ap, vec_0, Nat.reduceSub, Nat.reduceEqDiff, Nat.one_ne_zero, hs]
  by_cases h7 : kind = 7
  · subst h7
    by_cases hc : m < 32
    · have d : decide ((m : Int) < 32) = true := dT (by omega)
      have ho : binV .or (.int .u8 160) (.int .u8 (m : Int)) = some (.int .u8 ((160 + m : Nat) : Int)) := by rw [show binV .or (.int .u8 160) (.int .u8 (m : Int)) = _ from or_u8 160 m (by decide) (by omega), or_tab.1 m hc]
      have h8 : IntKind.u8.wrap (m : Int) = (m : Int) := by rw [wu8]; omega
      simp only [tick_eq, eql_i, Int.reduceEq, decide_true, decide_false, some_bind, asBool_b, if_true, Bool.false_eq_true, if_false, szOk_by1, szOk_bys, tst_t, hLL, bys_len, one_len, ap, vec_0, Nat.reduceSub, Nat.reduceEqDiff, Nat.one_ne_zero, lss_i, d, hc, cvi_i, h8, ho, okN_int, fld_int, bys_lit]
    · have d : decide ((m : Int) < 32) = false := dF (by omega)
      have hs : P0 f_mhead_sized [.o 1 (bys b), .v (.int .u64 (m : Int)), .v (.int .u8 217), .v (.sl [.int .i64 1, .int .i64 2, .int .i64 4])] [] = _ := sized_ok b m 217 [1, 2, 4] m64 (by omega) (by decide) (by decide)
      simp only [tick_eq, eql_i, Int.reduceEq, decide_true, decide_false, some_bind, asBool_b, if_true, Bool.false_eq_true, if_false, szOk_by1, szOk_bys, tst_t, hLL, bys_len, one_len, ap, vec_0, Nat.reduceSub, Nat.reduceEqDiff, Nat.one_ne_zero, lss_i, d, hc, hs]
  by_cases h9 : kind = 9
  · subst h9
    by_cases hc : m < 16
    · have d : decide ((m : Int) < 16) = true := dT (by omega)
      have ho : binV .or (.int .u8 144) (.int .u8 (m : Int)) = some (.int .u8 ((144 + m : Nat) : Int)) := by rw [show binV .or (.int .u8 144) (.int .u8 (m : Int)) = _ from or_u8 144 m (by decide) (by omega), or_tab.2.1 m hc]
      have h8 : IntKind.u8.wrap (m : Int) = (m : Int) := by rw [wu8]; omega
      simp only [tick_eq, eql_i, Int.reduceEq, decide_true, decide_false, some_bind, asBool_b, if_true, Bool.false_eq_true, if_false, szOk_by1, szOk_bys, tst_t, hLL, bys_len, one_len, ap, vec_0, Nat.reduceSub, Nat.reduceEqDiff, Nat.one_ne_zero, lss_i, d, hc, cvi_i, h8, ho, okN_int, fld_int, bys_lit]
    · have d : decide ((m : Int) < 16) = false := dF (by omega)
      have hs : P0 f_mhead_sized [.o 1 (bys b), .v (.int .u64 (m : Int)), .v (.int .u8 220), .v (.sl [.int .i64 2, .int .i64 4])] [] = _ := sized_ok b m 220 [2, 4] m64 (by omega) (by decide) (by decide)
      simp only [tick_eq, eql_i, Int.reduceEq, decide_true, decide_false, some_bind, asBool_b, if_true, Bool.false_eq_true, if_false, szOk_by1, szOk_bys, tst_t, hLL, bys_len, one_len, ap, vec_0, Nat.reduceSub, Nat.reduceEqDiff, Nat.one_ne_zero, lss_i, d, hc, hs]
  by_cases h10 : kind = 10
  · subst h10
    by_cases hc : m < 16
    · have d : decide ((m : Int) < 16) = true := dT (by omega)
      have ho : binV .or (.int .u8 128) (.int .u8 (m : Int)) = some (.int .u8 ((128 + m : Nat) : Int)) := by rw [show binV .or (.int .u8 128) (.int .u8 (m : Int)) = _ from or_u8 128 m (by decide) (by omega), or_tab.2.2 m hc]
      have h8 : IntKind.u8.wrap (m : Int) = (m : Int) := by rw [wu8]; omega
      simp only [tick_eq, eql_i, Int.reduceEq, decide_true, decide_false, some_bind, asBool_b, if_true, Bool.false_eq_true, if_false, szOk_by1, szOk_bys, tst_t, hLL, bys_len, one_len, ap, vec_0, Nat.reduceSub, Nat.reduceEqDiff, Nat.one_ne_zero, lss_i, d, hc, cvi_i, h8, ho, okN_int, fld_int, bys_lit]
    · have d : decide ((m : Int) < 16) = false := dF (by omega)
      have hs : P0 f_mhead_sized [.o 1 (bys b), .v (.int .u64 (m : Int)), .v (.int .u8 222), .v (.sl [.int .i64 2, .int .i64 4])] [] = _ := sized_ok b m 222 [2, 4] m64 (by omega) (by decide) (by decide)
      simp only [tick_eq, eql_i, Int.reduceEq, decide_true, decide_false, some_bind, asBool_b, if_true, Bool.false_eq_true, if_false, szOk_by1, szOk_bys, tst_t, hLL, bys_len, one_len, ap, vec_0, Nat.reduceSub, Nat.reduceEqDiff, Nat.one_ne_zero, lss_i, d, hc, hs]
  simp only [tick_eq, eql_i, Int.reduceEq, decide_true, decide_false, some_bind, asBool_b, if_true, Bool.false_eq_true, if_false, szOk_by1, szOk_bys, tst_t, hLL, bys_len, one_len, ap, vec_0, Nat.reduceSub, Nat.reduceEqDiff, Nat.one_ne_zero, h1, h2, h3, h4, h5, h6, h7, h8, h9, h10, h12, List.append_nil]
end Go.Ev
