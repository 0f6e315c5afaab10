/- Heads: numbers in bytes. -/
import Derived.Test.YtppkffipolncbaaKPv
import Derived.Test.YtppkffipolncbaaKSp
set_option linter.all false
namespace Go.Ev
attribute [local irreducible] P0
def bys (l : List Nat) : List V := l.map fun (x : Nat) => V.int .u8 (x : Int)
theorem bys_len (l : List Nat) : (bys l).length = l.length := by simp [bys]
theorem bys_get (l : List Nat) (i : Nat) : (bys l)[i]? = l[i]?.map (fun (x : Nat) => V.int .u8 (x : Int)) := by simp [bys]
theorem szOk_bys (l : List Nat) : szOk 1 (bys l) = true := by
  induction l with
  | nil => rfl
  | cons x r ih => exact ih
theorem asSl_bys (l : List Nat) : asSl 1 (.sl (bys l)) = some (bys l) := by unfold asSl; simp only [szOk_bys]
theorem bys_app (l r : List Nat) : bys l ++ bys r = bys (l ++ r) := by simp [bys]
theorem bys_1 (l : List Nat) (x : Nat) : bys l ++ [V.int .u8 (x : Int)] = bys (l ++ [x]) := bys_app l [x]
theorem bys_drop (l : List Nat) (i : Nat) : (bys l).drop i = bys (l.drop i) := by simp [bys, List.map_drop]
theorem bys_take (l : List Nat) (i : Nat) : (bys l).take i = bys (l.take i) := by simp [bys, List.map_take]
theorem szOk_by1 (k : IntKind) (x : Int) : szOk 1 [V.int k x] = true := rfl
theorem one_len (x : V) : (List.length (α := V) [x]) = 1 := rfl
theorem wu8 (n : Nat) : IntKind.u8.wrap (n : Int) = ((n % 256 : Nat) : Int) := by rw [IntKind.wrap_u8]; omega
/-- the k lowest bytes, the highest first -/
def lowB (n : Nat) : Nat → List Nat
  | 0 => []
  | k + 1 => n / 2 ^ (8 * k) % 256 :: lowB n k
theorem lowB_len (n k : Nat) : (lowB n k).length = k := by induction k <;> simp_all [lowB]
theorem bytes_loop (n : Nat) (k : Nat) (hk : k ≤ 8) : ∀ b : List Nat, b.length + k ≤ 1000000 →
    loopL (L_mhead_bytes_1 (.int .u64 (n : Int))) (vec [.sl (bys b), .int .i64 ((k : Int) - 1)]) = some (0, vec [.sl (bys (b ++ lowB n k))]) := by
  induction k with
  | zero =>
    intro b hb
    apply loopL_inr
    unfold L_mhead_bytes_1
    simp only [tick_eq, vec_0, vec_s, geq_i, show (0 : Int) ≤ ((0 : Nat) : Int) - 1 ↔ False by decide, decide_false, some_bind, asBool_b, Bool.false_eq_true, if_false, elems_sl, lowB, List.append_nil]
  | succ k ih =>
    intro b hb
    have e : ((k + 1 : Nat) : Int) - 1 = (k : Int) := by omega
    have c0 : (0 : Int) ≤ (k : Int) := by omega
    have m8 : IntKind.i64.wrap (8 * (k : Int)) = ((8 * k : Nat) : Int) := by rw [w64 (a := 8 * (k : Int)) (by omega)]; omega
    have hs := shr_u64 n .i64 (8 * k) (by omega)
    have w1 : IntKind.i64.wrap ((k : Int) - 1) = (k : Int) - 1 := w64 (by omega)
    have := ih (by omega) (b ++ [n / 2 ^ (8 * k) % 256]) (by simp; omega)
    rw [List.append_assoc] at this
    rw [e, lowB, ← show [n / 2 ^ (8 * k) % 256] ++ lowB n k = n / 2 ^ (8 * k) % 256 :: lowB n k from rfl, ← this]
    apply loopL_inl
    unfold L_mhead_bytes_1
    simp only [tick_eq, vec_0, vec_s, geq_i, c0, decide_true, some_bind, asBool_b, if_true, mul_i, m8, hs, cvi_i, wu8, okN_int, tst_t, fld_int, szOk_by1, elems_sl, bys_len, one_len, app_ok 1 b.length 1 (by omega) (by omega), sub_i, w1, bys_1]
theorem bytes_ok (b : List Nat) (n k : Nat) (hk : k ≤ 8) (hb : b.length ≤ 100000) : P0 f_mhead_bytes [.o 1 (bys b), .v (.int .u64 (n : Int)), .v (.int .i64 (k : Int))] [] = some (.sl (bys (b ++ lowB n k)), []) := by
  rw [eq_mhead_bytes]; unfold F_mhead_bytes
  have w1 : IntKind.i64.wrap ((k : Int) - 1) = (k : Int) - 1 := w64 (by omega)
  simp only [tick_eq, sub_i, w1, some_bind, bytes_loop n k hk b (by omega), vec_0, elems_sl]
/-- a first byte by the size, and the number in that size -/
def sizedB (n : Nat) : Nat → List Nat → List Nat
  | _, [] => []
  | f, k :: r => if k = 8 ∨ n / 2 ^ (8 * k) = 0 then f :: lowB n k else sizedB n (f + 1) r
theorem sized_loop (n f : Nat) (hn : n < 18446744073709551616) (b ss : List Nat) (hb : b.length ≤ 1000) (hs : ∀ k, k ∈ ss → k ≤ 8) (hl : f + ss.length ≤ 255) (m : Nat) : ∀ i, i + m = ss.length →
    ∃ j v, loopL (L_mhead_sized_1 ss.length (.sl (ints (ss.map Int.ofNat))) (.int .u64 (n : Int)) (.int .u8 (f : Int))) (vec [.sl (bys b), .int .i64 (i : Int)]) = some (j, vec [v]) ∧ (j = 0 ∨ j = 1) ∧ v = .sl (bys (b ++ sizedB n (f + i) (ss.drop i))) := by
  induction m with
  | zero =>
    intro i hi
    refine ⟨0, _, loopL_inr ?_, .inl rfl, by rw [List.drop_eq_nil_of_le (by omega), sizedB, List.append_nil]⟩
    unfold L_mhead_sized_1
    have c1 : ¬ (i : Int) < (ss.length : Int) := by omega
    simp only [tick_eq, vec_0, vec_s, lss_i, c1, decide_false, some_bind, asBool_b, Bool.false_eq_true, if_false, elems_sl]
  | succ m ih =>
    intro i hi
    have hlt : i < ss.length := by omega
    have c1 : (i : Int) < (ss.length : Int) := by omega
    have hx : ss[i]? = some ss[i] := List.getElem?_eq_getElem hlt
    have hk := hs ss[i] (List.getElem_mem _)
    have hml : (ss.map Int.ofNat).length = ss.length := by simp
    have hmx : (ss.map Int.ofNat)[i]? = some (ss[i] : Int) := by rw [List.getElem?_map, hx]; rfl
    have m8 : IntKind.i64.wrap (8 * (ss[i] : Int)) = ((8 * ss[i] : Nat) : Int) := by rw [w64 (a := 8 * (ss[i] : Int)) (by omega)]; omega
    rw [List.drop_eq_getElem_cons hlt, sizedB]
    have hw : IntKind.u8.wrap ((f : Int) + ((i % 256 : Nat) : Int)) = ((f + i : Nat) : Int) := by rw [IntKind.wrap_u8]; omega
    have hby := bytes_ok (b ++ [f + i]) n ss[i] hk (by simp; omega)
    rw [List.append_assoc] at hby
    have go : (ss[i] = 8 ∨ n / 2 ^ (8 * ss[i]) = 0) → ((if decide ((ss[i] : Int) = 8) = false then (binV .mul (.int .i64 8) (.int .i64 (ss[i] : Int))).bind fun x11 => (binV .shr (.int .u64 (n : Int)) x11).bind fun x12 => (binV .eql x12 (.int .u64 0)).bind fun x13 => some x13 else some (.bool true) : Option V)) = some (.bool true) := by
      intro h
      by_cases h8 : ss[i] = 8
      · have : (ss[i] : Int) = 8 := by omega
        simp only [tick_eq, this, decide_true, Bool.true_eq_false, if_false]
      · have h8' : ¬ (ss[i] : Int) = 8 := by omega
        have hz := h.resolve_left h8
        have hs := shr_u64 n .i64 (8 * ss[i]) (by omega)
        rw [hz] at hs
        simp only [tick_eq, h8', decide_false, if_true, mul_i, m8, some_bind, hs, eql_i, Int.natCast_zero, decide_true]
    have no : ¬ (ss[i] = 8 ∨ n / 2 ^ (8 * ss[i]) = 0) → ((if decide ((ss[i] : Int) = 8) = false then (binV .mul (.int .i64 8) (.int .i64 (ss[i] : Int))).bind fun x11 => (binV .shr (.int .u64 (n : Int)) x11).bind fun x12 => (binV .eql x12 (.int .u64 0)).bind fun x13 => some x13 else some (.bool true) : Option V)) = some (.bool false) := by
      intro h
      have h8' : ¬ (ss[i] : Int) = 8 := by omega
      have hs := shr_u64 n .i64 (8 * ss[i]) (by omega)
      have hz : ¬ ((n / 2 ^ (8 * ss[i]) : Nat) : Int) = 0 := by omega
      simp only [tick_eq, h8', decide_false, if_true, mul_i, m8, some_bind, hs, eql_i, hz]
    by_cases h : ss[i] = 8 ∨ n / 2 ^ (8 * ss[i]) = 0
    · rw [if_pos h]
      refine ⟨1, _, loopL_inr ?_, .inr rfl, rfl⟩
      unfold L_mhead_sized_1
      simp only [tick_eq, vec_0, vec_s, lss_i, c1, decide_true, some_bind, asBool_b, if_true, asSl_ints, ints_len, hml, idx_nat _ i ss.length hlt, ints_get, hmx, Option.map_some, fld_int, eql_i, go h, cvi_i, wu8, add_i, hw, okN_int, tst_t, szOk_by1, elems_sl, bys_len, one_len, app_ok 1 b.length 1 (by omega) (by omega), bys_1, hby, List.cons_append, List.nil_append]
    · rw [if_neg h]
      obtain ⟨j, v, h1, h2, h3⟩ := ih (i + 1) (by omega)
      refine ⟨j, v, ?_, h2, h3⟩
      rw [← h1]
      apply loopL_inl
      unfold L_mhead_sized_1
      simp only [tick_eq, vec_0, vec_s, lss_i, c1, decide_true, some_bind, asBool_b, if_true, asSl_ints, ints_len, hml, idx_nat _ i ss.length hlt, ints_get, hmx, Option.map_some, fld_int, eql_i, no h, Bool.false_eq_true, if_false, add_i, show IntKind.i64.wrap ((i : Int) + 1) = ((i + 1 : Nat) : Int) from w64 (a := (i : Int) + 1) (by omega), elems_sl]
theorem sized_ok (b : List Nat) (n f : Nat) (ss : List Nat) (hn : n < 18446744073709551616) (hb : b.length ≤ 1000) (hs : ∀ k, k ∈ ss → k ≤ 8) (hl : f + ss.length ≤ 255) : P0 f_mhead_sized [.o 1 (bys b), .v (.int .u64 (n : Int)), .v (.int .u8 (f : Int)), .v (.sl (ints (ss.map Int.ofNat)))] [] = some (.sl (bys (b ++ sizedB n f ss)), []) := by
  obtain ⟨j, v, h1, h2, h3⟩ := sized_loop n f hn b ss hb hs hl ss.length 0 (by omega)
  rw [Nat.add_zero, List.drop_zero] at h3
  rw [show ((0 : Nat) : Int) = 0 from rfl] at h1
  have hml : (ss.map Int.ofNat).length = ss.length := by simp
  rw [eq_mhead_sized]; unfold F_mhead_sized
  subst h3
  rcases h2 with rfl | rfl
  · simp only [tick_eq, lenV_sl, ints_len, hml, some_bind, h1, if_true, vec_0, elems_sl]
  · simp only [tick_eq, lenV_sl, ints_len, hml, some_bind, h1, Nat.one_ne_zero, if_false, vec_0]
end Go.Ev
