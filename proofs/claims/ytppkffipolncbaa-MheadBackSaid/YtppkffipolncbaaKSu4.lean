/- Heads: Get, the program's and the reference's. -/
import Derived.Test.YtppkffipolncbaaKSu3
set_option linter.all false
namespace Go.Ev
attribute [local irreducible] P0
theorem okN_hd (c : Nat) : okN 4 (hdV c) = true := rfl
theorem hd0 (c : Nat) : fldV (hdV c) 0 = some (.int .i64 (hk c : Int)) := rfl
theorem hd1 (c : Nat) : fldV (hdV c) 1 = some (.int .i64 (hz c : Int)) := rfl
theorem hd2 (c : Nat) : fldV (hdV c) 2 = some (.int .u64 (hn c : Int)) := rfl
theorem hd3 (c : Nat) : fldV (hdV c) 3 = some (.bool (hs c)) := rfl
theorem bnd_both (k k' : IntKind) (i j n : Nat) (h1 : i ≤ j) (h2 : j ≤ n) : bnd2 (some (.int k (i : Int))) (some (.int k' (j : Int))) n = some (i, j) := by simp [bnd2, bndV, h1, h2]
theorem sh_n (a s : Nat) (hs : s ≤ 8) (k : IntKind) : binV .shl (.int .u64 (a : Int)) (.int k ((64 - 8 * s : Nat) : Int)) = some (.int .u64 (IntKind.u64.wrap ((a : Int) * 2 ^ Nat.min (64 - 8 * s) 64))) := by
  rw [shl_i _ _ _ _ (Int.natCast_nonneg _), Int.toNat_natCast]; rfl
theorem sr_n (a : Int) (s : Nat) (hs : s ≤ 8) (k : IntKind) : binV .shr (.int .i64 a) (.int k ((64 - 8 * s : Nat) : Int)) = some (.int .i64 (a.fdiv (2 ^ Nat.min (64 - 8 * s) 64))) := by
  rw [shr_i _ _ _ _ (Int.natCast_nonneg _), Int.toNat_natCast]; rfl
theorem mget_ok (b : List Nat) (hu : U8 b) (hb : b.length ≤ 1000) (i : Nat) (hi : i < b.length) : P0 f_mhead_Get [.v (.sl (bys b)), .v (.int .i64 (i : Int))] [] = some (getV b i, []) := by
  have hx : b[i]? = some b[i] := List.getElem?_eq_getElem hi
  have h8 := hu _ (List.getElem_mem hi)
  unfold getV
  rw [hx, Option.getD_some]
  generalize b[i] = c at hx h8
  obtain ⟨z1, z2, z3, z4, z5⟩ := hz_le c h8
  rw [eq_mhead_Get]; unfold F_mhead_Get
  have c1 : ¬ (i : Int) < 0 := by omega
  have c2 : ¬ (b.length : Int) < (i : Int) := by omega
  have c3 : ¬ (i : Int) = (b.length : Int) := by omega
  by_cases hc : c = 193
  · have hcb : (c == 193) = true := by simp [hc]
    rw [if_pos hc]
    simp only [tick_eq, lss_i, c1, decide_false, some_bind, asBool_b, if_true, lenV_sl, bys_len, gtr_i, c2, Bool.false_eq_true, if_false, eql_i, c3, asSl_bys, idx_nat _ i b.length hi, bys_get, hx, Option.map_some, fld_int, of8_ok c h8, ext_tup, List.getElem?_cons_zero, List.getElem?_cons_succ, okN_hd, tst_t, not_b, hcb, Bool.not_true, Bool.not_false]
  have hcb : (c == 193) = false := by simp [hc]
  rw [if_neg hc]
  have w1 : IntKind.i64.wrap ((i : Int) + 1) = ((i + 1 : Nat) : Int) := w64 (a := (i : Int) + 1) (by omega)
  have hO : (if decide ((hk c : Int) = 11) = true then (binV .add (.int .i64 (hz c : Int)) (.int .i64 1)).bind fun x24 => some (0, (vec [x24])) else some (0, (vec [.int .i64 (hz c : Int)])) : Option (Nat × (Nat → V))) = some (0, vec [.int .i64 ((hz c + mo c : Nat) : Int)]) := by
    unfold mo
    by_cases h11 : hk c = 11
    · have w : IntKind.i64.wrap ((hz c : Int) + 1) = ((hz c + 1 : Nat) : Int) := w64 (a := (hz c : Int) + 1) (by omega)
      rw [decide_eq_true (show (hk c : Int) = 11 by omega), if_pos rfl, if_pos h11, add_i, some_bind, w]
    · rw [decide_eq_false (show ¬ (hk c : Int) = 11 by omega), if_neg (by decide), if_neg h11]; rfl
  have w2 : IntKind.i64.wrap ((b.length : Int) - ((i + 1 : Nat) : Int)) = ((b.length - (i + 1) : Nat) : Int) := by rw [w64 (a := (b.length : Int) - ((i + 1 : Nat) : Int)) (by omega)]; omega
  by_cases hlen : b.length < i + 1 + (hz c + mo c)
  · have c4 : ((b.length - (i + 1) : Nat) : Int) < ((hz c + mo c : Nat) : Int) := by omega
    rw [if_pos hlen]
    simp only [tick_eq, lss_i, c1, decide_false, some_bind, asBool_b, if_true, lenV_sl, bys_len, gtr_i, c2, Bool.false_eq_true, if_false, eql_i, c3, asSl_bys, idx_nat _ i b.length hi, bys_get, hx, Option.map_some, fld_int, of8_ok c h8, ext_tup, List.getElem?_cons_zero, List.getElem?_cons_succ, okN_hd, tst_t, not_b, hcb, Bool.not_true, Bool.not_false, add_i, w1, hd0, hd1, hO, vec_0, sub_i, w2, c4, decide_true]
  have c4 : ¬ ((b.length - (i + 1) : Nat) : Int) < ((hz c + mo c : Nat) : Int) := by omega
  rw [if_neg hlen]
  have w3 : IntKind.i64.wrap (((i + 1 : Nat) : Int) + (hz c : Int)) = ((i + 1 + hz c : Nat) : Int) := w64 (a := ((i + 1 : Nat) : Int) + (hz c : Int)) (by omega)
  have w4 : IntKind.i64.wrap (((i + 1 : Nat) : Int) + ((hz c + mo c : Nat) : Int)) = ((i + 1 + (hz c + mo c) : Nat) : Int) := w64 (a := ((i + 1 : Nat) : Int) + ((hz c + mo c : Nat) : Int)) (by omega)
  have hq : ((bys b).drop (i + 1, i + 1 + hz c).1).take ((i + 1, i + 1 + hz c).2 - (i + 1, i + 1 + hz c).1) = bys ((b.drop (i + 1)).take (hz c)) := by
    rw [show (i + 1, i + 1 + hz c).2 - (i + 1, i + 1 + hz c).1 = hz c by show i + 1 + hz c - (i + 1) = hz c; omega, bys_drop, bys_take]
  have hll : ((b.drop (i + 1)).take (hz c)).length = hz c := by rw [List.length_take, List.length_drop]; omega
  have hloop := get_loop ((b.drop (i + 1)).take (hz c)) (fun x hx => hu x (List.mem_of_mem_drop (List.mem_of_mem_take hx))) (by omega) (bys b) (i + 1, i + 1 + hz c) hq (hz c) 0 (hn c) (by omega)
  rw [List.drop_zero, show ((0 : Nat) : Int) = 0 from rfl] at hloop
  unfold valH
  generalize acc (hn c) ((b.drop (i + 1)).take (hz c)) = A at hloop
  have m8 : IntKind.i64.wrap (8 * (hz c : Int)) = ((8 * hz c : Nat) : Int) := by rw [w64 (a := 8 * (hz c : Int)) (by omega)]; omega
  have s64 : IntKind.i64.wrap (64 - ((8 * hz c : Nat) : Int)) = ((64 - 8 * hz c : Nat) : Int) := by rw [w64 (a := 64 - ((8 * hz c : Nat) : Int)) (by omega)]; omega
  cases hsc : hs c with
  | true =>
    simp only [tick_eq, lss_i, c1, decide_false, some_bind, asBool_b, if_true, lenV_sl, bys_len, gtr_i, c2, Bool.false_eq_true, if_false, eql_i, c3, asSl_bys, idx_nat _ i b.length hi, bys_get, hx, Option.map_some, fld_int, of8_ok c h8, ext_tup, List.getElem?_cons_zero, List.getElem?_cons_succ, okN_hd, tst_t, not_b, hcb, Bool.not_true, Bool.not_false, add_i, w1, hd0, hd1, hd2, hd3, hO, vec_0, sub_i, w2, c4, w3, bnd_both _ _ (i + 1) (i + 1 + hz c) b.length (by omega) (by omega), hloop, mul_i, m8, s64, hsc, sh_n _ _ z1, cvi_i, sr_n _ _ z1, w4]
    rfl
  | false =>
    simp only [tick_eq, lss_i, c1, decide_false, some_bind, asBool_b, if_true, lenV_sl, bys_len, gtr_i, c2, Bool.false_eq_true, if_false, eql_i, c3, asSl_bys, idx_nat _ i b.length hi, bys_get, hx, Option.map_some, fld_int, of8_ok c h8, ext_tup, List.getElem?_cons_zero, List.getElem?_cons_succ, okN_hd, tst_t, not_b, hcb, Bool.not_true, Bool.not_false, add_i, w1, hd0, hd1, hd2, hd3, hO, vec_0, sub_i, w2, c4, w3, bnd_both _ _ (i + 1) (i + 1 + hz c) b.length (by omega) (by omega), hloop, mul_i, m8, s64, hsc, w4]
end Go.Ev
