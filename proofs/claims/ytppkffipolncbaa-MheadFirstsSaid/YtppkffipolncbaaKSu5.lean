/- Heads: the reference's Get. -/
import Derived.Test.YtppkffipolncbaaKSu4
set_option linter.all false
namespace Go.Ev
attribute [local irreducible] P0
theorem rget_loop (b : List Nat) (hu : U8 b) (hb : b.length ≤ 1000) (i s : Nat) (hs : i + 1 + s ≤ b.length) (m : Nat) : ∀ (j a : Nat), j + m = s →
    loopL (L_ref11_Get_1 (.int .i64 (s : Int)) (.int .i64 (i : Int)) (.sl (bys b))) (vec [.int .u64 (a : Int), .int .i64 (j : Int)]) = some (0, vec [.int .u64 (acc a (((b.drop (i + 1)).take s).drop j) : Nat)]) := by
  induction m with
  | zero =>
    intro j a hj
    apply loopL_inr
    unfold L_ref11_Get_1
    have c1 : ¬ (j : Int) < (s : Int) := by omega
    have e : ((b.drop (i + 1)).take s).drop j = [] := List.drop_eq_nil_of_le (by rw [List.length_take]; omega)
    simp only [tick_eq, vec_0, vec_s, lss_i, c1, decide_false, some_bind, asBool_b, Bool.false_eq_true, if_false, e, acc]
  | succ m ih =>
    intro j a hj
    have c1 : (j : Int) < (s : Int) := by omega
    have hlt : i + 1 + j < b.length := by omega
    have hx : b[i + 1 + j]? = some b[i + 1 + j] := List.getElem?_eq_getElem hlt
    have h8 := hu _ (List.getElem_mem hlt)
    have hl : j < ((b.drop (i + 1)).take s).length := by rw [List.length_take, List.length_drop]; omega
    have he : ((b.drop (i + 1)).take s)[j]'hl = b[i + 1 + j] := by simp
    have w1 : IntKind.i64.wrap ((i : Int) + 1) = ((i + 1 : Nat) : Int) := w64 (a := (i : Int) + 1) (by omega)
    have w2 : IntKind.i64.wrap (((i + 1 : Nat) : Int) + (j : Int)) = ((i + 1 + j : Nat) : Int) := w64 (a := ((i + 1 : Nat) : Int) + (j : Int)) (by omega)
    have w3 : IntKind.u64.wrap (((a * 256 % 18446744073709551616 : Nat) : Int) + (b[i + 1 + j] : Int)) = ((a * 256 % 18446744073709551616 + b[i + 1 + j] : Nat) : Int) := wu64n (a * 256 % 18446744073709551616 + b[i + 1 + j]) (by omega)
    rw [List.drop_eq_getElem_cons hl, acc, he, ← ih (j + 1) _ (by omega)]
    apply loopL_inl
    unfold L_ref11_Get_1
    simp only [tick_eq, vec_0, vec_s, lss_i, c1, decide_true, some_bind, asBool_b, if_true, shl8, add_i, w1, w2, asSl_bys, bys_len, idx_nat _ (i + 1 + j) b.length hlt, bys_get, hx, Option.map_some, fld_int, cvi_i, wu64n b[i + 1 + j] (by omega), w3, show IntKind.i64.wrap ((j : Int) + 1) = ((j + 1 : Nat) : Int) from w64 (a := (j : Int) + 1) (by omega)]
theorem row_facts : ∀ c, 192 ≤ c → c < 224 → (hk c = 5 ↔ hs c = true) ∧ (hk c = 11 ∧ hz c = 0 → 212 ≤ c ∧ c ≤ 216 ∧ hn c = 2 ^ (c - 212)) ∧ (¬ (hk c = 11 ∧ hz c = 0) → hn c = 0) := by
  have h : (List.range 32).all (fun c => decide ((hk (c + 192) = 5 ↔ hs (c + 192) = true) ∧ (hk (c + 192) = 11 ∧ hz (c + 192) = 0 → 212 ≤ c + 192 ∧ c + 192 ≤ 216 ∧ hn (c + 192) = 2 ^ (c + 192 - 212)) ∧ (¬ (hk (c + 192) = 11 ∧ hz (c + 192) = 0) → hn (c + 192) = 0))) = true := by kernel_rfl
  intro c h1 h2
  have := of_decide_eq_true (List.all_eq_true.1 h (c - 192) (List.mem_range.2 (by omega)))
  rw [show c - 192 + 192 = c by omega] at this
  exact this
theorem low_facts : ∀ c, c < 256 → (c < 192 ∨ 224 ≤ c) → hz c = 0 ∧ mo c = 0 ∧ hs c = false := by
  have h : (List.range 256).all (fun c => decide ((c < 192 ∨ 224 ≤ c) → hz c = 0 ∧ mo c = 0 ∧ hs c = false)) = true := by kernel_rfl
  intro c hc
  exact of_decide_eq_true (List.all_eq_true.1 h c (List.mem_range.2 hc))
theorem shl1 (k : Nat) (hk : k < 60) : binV .shl (.int .u64 1) (.int .u64 (k : Int)) = some (.int .u64 ((2 ^ k : Nat) : Int)) := by
  rw [shl_i _ _ _ _ (Int.natCast_nonneg k), Int.toNat_natCast]
  have e : Nat.min k (IntKind.bits .u64) = k := Nat.min_eq_left (by show k ≤ 64; omega)
  have hp : 2 ^ k < 18446744073709551616 := Nat.lt_of_lt_of_le (Nat.pow_lt_pow_right (by decide) hk) (by decide)
  have e2 : (1 : Int) * (2 : Int) ^ k = ((2 ^ k : Nat) : Int) := by simp
  rw [e, e2, wu64n _ hp]
theorem rget_ok (b : List Nat) (hu : U8 b) (hb : b.length ≤ 1000) (i : Nat) (hi : i < b.length) : P0 f_ref11_Get [.v (.sl (bys b)), .v (.int .i64 (i : Int))] [] = some (getV b i, []) := by
  have hx : b[i]? = some b[i] := List.getElem?_eq_getElem hi
  have h8 := hu _ (List.getElem_mem hi)
  unfold getV
  rw [hx, Option.getD_some]
  generalize b[i] = c at hx h8
  obtain ⟨z1, z2, z3, z4, z5⟩ := hz_le c h8
  rw [eq_ref11_Get]; unfold F_ref11_Get
  have c1 : ¬ (i : Int) < 0 := by omega
  have c2 : ¬ (b.length : Int) < (i : Int) := by omega
  have c3 : ¬ (i : Int) = (b.length : Int) := by omega
  have wc : IntKind.i64.wrap (c : Int) = (c : Int) := w64 (by omega)
  have w1 : IntKind.i64.wrap ((i : Int) + 1) = ((i + 1 : Nat) : Int) := w64 (a := (i : Int) + 1) (by omega)
  have dT : ∀ {p : Prop} [Decidable p], p → decide p = true := fun h => decide_eq_true h
  have dF : ∀ {p : Prop} [Decidable p], ¬ p → decide p = false := fun h => decide_eq_false h
  by_cases hout : c < 192 ∨ 224 ≤ c
  · obtain ⟨q1, q2, q3⟩ := low_facts c h8 hout
    have hne : ¬ c = 193 := by omega
    rw [if_neg hne, if_neg (by omega)]
    unfold valH
    rw [q3, q1, q2, if_neg (by decide), List.take_zero, acc]
    by_cases g1 : c < 128
    · have d1 : decide ((c : Int) < 128) = true := dT (by omega)
      have e1 : hn c = c := if_pos g1
      have e2 : hk c = 4 := if_pos g1
      simp only [tick_eq, lss_i, c1, decide_false, some_bind, asBool_b, if_true, lenV_sl, bys_len, gtr_i, c2, Bool.false_eq_true, if_false, eql_i, c3, asSl_bys, idx_nat _ i b.length hi, bys_get, hx, Option.map_some, fld_int, cvi_i, wc, d1, wu64n c (by omega), add_i, w1, e1, e2]
      rfl
    have d1 : decide ((c : Int) < 128) = false := dF (by omega)
    by_cases g2 : c < 144
    · have d2 : decide ((c : Int) < 144) = true := dT (by omega)
      have e1 : hn c = c - 128 := by unfold hn; rw [if_neg g1, if_pos g2]
      have e2 : hk c = 10 := by unfold hk; rw [if_neg g1, if_pos g2]
      have ws : IntKind.i64.wrap ((c : Int) - 128) = ((c - 128 : Nat) : Int) := by rw [w64 (a := (c : Int) - 128) (by omega)]; omega
      simp only [tick_eq, lss_i, c1, decide_false, some_bind, asBool_b, if_true, lenV_sl, bys_len, gtr_i, c2, Bool.false_eq_true, if_false, eql_i, c3, asSl_bys, idx_nat _ i b.length hi, bys_get, hx, Option.map_some, fld_int, cvi_i, wc, d1, d2, sub_i, ws, wu64n (c - 128) (by omega), add_i, w1, e1, e2]
      rfl
    have d2 : decide ((c : Int) < 144) = false := dF (by omega)
    by_cases g3 : c < 160
    · have d3 : decide ((c : Int) < 160) = true := dT (by omega)
      have e1 : hn c = c - 144 := by unfold hn; rw [if_neg g1, if_neg g2, if_pos g3]
      have e2 : hk c = 9 := by unfold hk; rw [if_neg g1, if_neg g2, if_pos g3]
      have ws : IntKind.i64.wrap ((c : Int) - 144) = ((c - 144 : Nat) : Int) := by rw [w64 (a := (c : Int) - 144) (by omega)]; omega
      simp only [tick_eq, lss_i, c1, decide_false, some_bind, asBool_b, if_true, lenV_sl, bys_len, gtr_i, c2, Bool.false_eq_true, if_false, eql_i, c3, asSl_bys, idx_nat _ i b.length hi, bys_get, hx, Option.map_some, fld_int, cvi_i, wc, d1, d2, d3, sub_i, ws, wu64n (c - 144) (by omega), add_i, w1, e1, e2]
      rfl
    have d3 : decide ((c : Int) < 160) = false := dF (by omega)
    by_cases g4 : c < 192
    · have d4 : decide ((c : Int) < 192) = true := dT (by omega)
      have e1 : hn c = c - 160 := by unfold hn; rw [if_neg g1, if_neg g2, if_neg g3, if_pos g4]
      have e2 : hk c = 7 := by unfold hk; rw [if_neg g1, if_neg g2, if_neg g3, if_pos g4]
      have ws : IntKind.i64.wrap ((c : Int) - 160) = ((c - 160 : Nat) : Int) := by rw [w64 (a := (c : Int) - 160) (by omega)]; omega
      simp only [tick_eq, lss_i, c1, decide_false, some_bind, asBool_b, if_true, lenV_sl, bys_len, gtr_i, c2, Bool.false_eq_true, if_false, eql_i, c3, asSl_bys, idx_nat _ i b.length hi, bys_get, hx, Option.map_some, fld_int, cvi_i, wc, d1, d2, d3, d4, sub_i, ws, wu64n (c - 160) (by omega), add_i, w1, e1, e2]
      rfl
    have d4 : decide ((c : Int) < 192) = false := dF (by omega)
    have g5 : 224 ≤ c := by omega
    have d5 : decide ((224 : Int) ≤ (c : Int)) = true := dT (by omega)
    have e1 : hn c = 18446744073709551360 + c := by unfold hn; rw [if_neg g1, if_neg g2, if_neg g3, if_neg g4, if_pos g5]
    have e2 : hk c = 5 := by unfold hk; rw [if_neg g1, if_neg g2, if_neg g3, if_neg g4, if_pos g5]
    have ws : IntKind.i64.wrap ((c : Int) - 256) = (c : Int) - 256 := w64 (by omega)
    have wv : IntKind.u64.wrap ((c : Int) - 256) = ((18446744073709551360 + c : Nat) : Int) := by rw [IntKind.wrap_u64]; omega
    simp only [tick_eq, lss_i, c1, decide_false, some_bind, asBool_b, if_true, lenV_sl, bys_len, gtr_i, c2, Bool.false_eq_true, if_false, eql_i, c3, asSl_bys, idx_nat _ i b.length hi, bys_get, hx, Option.map_some, fld_int, cvi_i, wc, d1, d2, d3, d4, geq_i, d5, sub_i, ws, wv, add_i, w1, e1, e2]
    rfl
  have d1 : decide ((c : Int) < 128) = false := dF (by omega)
  have d2 : decide ((c : Int) < 144) = false := dF (by omega)
  have d3 : decide ((c : Int) < 160) = false := dF (by omega)
  have d4 : decide ((c : Int) < 192) = false := dF (by omega)
  have d5 : decide ((224 : Int) ≤ (c : Int)) = false := dF (by omega)
  by_cases hc : c = 193
  · have d6 : decide ((c : Int) = 193) = true := dT (by omega)
    rw [if_pos hc]
    simp only [tick_eq, lss_i, c1, decide_false, some_bind, asBool_b, if_true, lenV_sl, bys_len, gtr_i, c2, Bool.false_eq_true, if_false, eql_i, c3, asSl_bys, idx_nat _ i b.length hi, bys_get, hx, Option.map_some, fld_int, cvi_i, wc, d1, d2, d3, d4, geq_i, d5, d6]
  have d6 : decide ((c : Int) = 193) = false := dF (by omega)
  rw [if_neg hc]
  obtain ⟨f1, f2, f3⟩ := row_facts c (by omega) (by omega)
  have hr := row_ok c (by omega) (by omega)
  have w2 : IntKind.i64.wrap ((b.length : Int) - (i : Int)) = ((b.length - i : Nat) : Int) := by rw [w64 (a := (b.length : Int) - (i : Int)) (by omega)]; omega
  have w3 : IntKind.i64.wrap (((b.length - i : Nat) : Int) - 1) = ((b.length - i - 1 : Nat) : Int) := by rw [w64 (a := ((b.length - i : Nat) : Int) - 1) (by omega)]; omega
  have w4 : IntKind.i64.wrap ((hz c : Int) + (mo c : Int)) = ((hz c + mo c : Nat) : Int) := w64 (a := (hz c : Int) + (mo c : Int)) (by omega)
  by_cases hlen : b.length < i + 1 + (hz c + mo c)
  · have d7 : decide (((b.length - i - 1 : Nat) : Int) < ((hz c + mo c : Nat) : Int)) = true := dT (by omega)
    rw [if_pos hlen]
    simp only [tick_eq, lss_i, c1, decide_false, some_bind, asBool_b, if_true, lenV_sl, bys_len, gtr_i, c2, Bool.false_eq_true, if_false, eql_i, c3, asSl_bys, idx_nat _ i b.length hi, bys_get, hx, Option.map_some, fld_int, cvi_i, wc, d1, d2, d3, d4, geq_i, d5, d6, hr, ext_tup, List.getElem?_cons_zero, List.getElem?_cons_succ, sub_i, w2, w3, add_i, w4, d7]
  have d7 : decide (((b.length - i - 1 : Nat) : Int) < ((hz c + mo c : Nat) : Int)) = false := dF (by omega)
  rw [if_neg hlen]
  have hloop := rget_loop b hu hb i (hz c) (by omega) (hz c) 0 0 (by omega)
  rw [List.drop_zero, show ((0 : Nat) : Int) = 0 from rfl] at hloop
  have w5 : IntKind.i64.wrap (((i + 1 : Nat) : Int) + (hz c : Int)) = ((i + 1 + hz c : Nat) : Int) := w64 (a := ((i + 1 : Nat) : Int) + (hz c : Int)) (by omega)
  have w6 : IntKind.i64.wrap (((i + 1 + hz c : Nat) : Int) + (mo c : Int)) = ((i + 1 + (hz c + mo c) : Nat) : Int) := by rw [w64 (a := ((i + 1 + hz c : Nat) : Int) + (mo c : Int)) (by omega)]; omega
  have m8 : IntKind.i64.wrap (8 * (hz c : Int)) = ((8 * hz c : Nat) : Int) := by rw [w64 (a := 8 * (hz c : Int)) (by omega)]; omega
  have s64 : IntKind.i64.wrap (64 - ((8 * hz c : Nat) : Int)) = ((64 - 8 * hz c : Nat) : Int) := by rw [w64 (a := 64 - ((8 * hz c : Nat) : Int)) (by omega)]; omega
  have u64c : IntKind.u64.wrap ((64 - 8 * hz c : Nat) : Int) = ((64 - 8 * hz c : Nat) : Int) := wu64n _ (by omega)
  unfold valH
  by_cases h5 : hk c = 5
  · have e5 : decide ((hk c : Int) = 5) = true := dT (by omega)
    have e11 : decide ((hk c : Int) = 11) = false := dF (by omega)
    rw [f1.1 h5, if_pos rfl, f3 (by omega)]
    generalize acc 0 ((b.drop (i + 1)).take (hz c)) = A at hloop
    simp only [tick_eq, lss_i, c1, decide_false, some_bind, asBool_b, if_true, lenV_sl, bys_len, gtr_i, c2, Bool.false_eq_true, if_false, eql_i, c3, asSl_bys, idx_nat _ i b.length hi, bys_get, hx, Option.map_some, fld_int, cvi_i, wc, d1, d2, d3, d4, geq_i, d5, d6, hr, ext_tup, List.getElem?_cons_zero, List.getElem?_cons_succ, sub_i, w2, w3, add_i, w4, d7, hloop, e5, mul_i, m8, s64, u64c, vec_0, sh_n _ _ z1, sr_n _ _ z1, e11, w1, w5, w6]
    rfl
  have e5 : decide ((hk c : Int) = 5) = false := dF (by omega)
  have hsf : hs c = false := by
    cases h : hs c with
    | false => rfl
    | true => exact absurd (f1.2 h) h5
  rw [hsf, if_neg (by decide)]
  by_cases h11 : hk c = 11 ∧ hz c = 0
  · obtain ⟨r1, r2, r3⟩ := f2 h11
    have e11 : decide ((hk c : Int) = 11) = true := dT (by omega)
    have ez : decide ((hz c : Int) = 0) = true := dT (by omega)
    have ws : IntKind.i64.wrap ((c : Int) - 212) = ((c - 212 : Nat) : Int) := by rw [w64 (a := (c : Int) - 212) (by omega)]; omega
    have hl0 : acc (hn c) ((b.drop (i + 1)).take (hz c)) = 2 ^ (c - 212) := by rw [h11.2, List.take_zero, acc, r3]
    rw [hl0]
    generalize acc 0 ((b.drop (i + 1)).take (hz c)) = A at hloop
    simp only [tick_eq, lss_i, c1, decide_false, some_bind, asBool_b, if_true, lenV_sl, bys_len, gtr_i, c2, Bool.false_eq_true, if_false, eql_i, c3, asSl_bys, idx_nat _ i b.length hi, bys_get, hx, Option.map_some, fld_int, cvi_i, wc, d1, d2, d3, d4, geq_i, d5, d6, hr, ext_tup, List.getElem?_cons_zero, List.getElem?_cons_succ, sub_i, w2, w3, add_i, w4, d7, hloop, e5, vec_0, e11, ez, ws, wu64n (c - 212) (by omega), shl1 (c - 212) (by omega), w1, w5, w6]
  · rw [f3 h11]
    generalize acc 0 ((b.drop (i + 1)).take (hz c)) = A at hloop
    have e11 : (if decide ((hk c : Int) = 11) = true then some (.bool (decide ((hz c : Int) = 0))) else some (.bool false) : Option V) = some (.bool false) := by
      by_cases q : hk c = 11
      · rw [dT (show (hk c : Int) = 11 by omega), if_pos rfl, dF (show ¬ (hz c : Int) = 0 by omega)]
      · rw [dF (show ¬ (hk c : Int) = 11 by omega), if_neg (by decide)]
    have e11' : (if decide ((hk c : Int) = 11) = true then (binV .eql (.int .i64 (hz c : Int)) (.int .i64 0)).bind fun x80 => some x80 else some (.bool false) : Option V) = some (.bool false) := by
      rw [eql_i, some_bind]; exact e11
    simp only [tick_eq, lss_i, c1, decide_false, some_bind, asBool_b, if_true, lenV_sl, bys_len, gtr_i, c2, Bool.false_eq_true, if_false, eql_i, c3, asSl_bys, idx_nat _ i b.length hi, bys_get, hx, Option.map_some, fld_int, cvi_i, wc, d1, d2, d3, d4, geq_i, d5, d6, hr, ext_tup, List.getElem?_cons_zero, List.getElem?_cons_succ, sub_i, w2, w3, add_i, w4, d7, hloop, e5, vec_0, e11', w1, w5, w6]
end Go.Ev
