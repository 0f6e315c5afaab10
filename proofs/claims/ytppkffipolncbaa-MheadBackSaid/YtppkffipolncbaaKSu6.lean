/- Heads: what is put is got. -/
import Derived.Test.YtppkffipolncbaaKSu5
set_option linter.all false
namespace Go.Ev
attribute [local irreducible] P0
theorem acc_low (n : Nat) (k : Nat) : ∀ a, a < 18446744073709551616 → acc a (lowB n k) = (a * 2 ^ (8 * k) + n % 2 ^ (8 * k)) % 18446744073709551616 := by
  induction k with
  | zero => intro a ha; simp [lowB, acc, Nat.mod_one, Nat.mod_eq_of_lt ha]
  | succ k ih =>
    intro a ha
    have hd : n / 2 ^ (8 * k) % 256 < 256 := Nat.mod_lt _ (by decide)
    rw [lowB, acc, ih _ (by omega)]
    have hm : n % 2 ^ (8 * (k + 1)) = n / 2 ^ (8 * k) % 256 * 2 ^ (8 * k) + n % 2 ^ (8 * k) := by
      rw [show 8 * (k + 1) = 8 * k + 8 by omega, Nat.pow_add, Nat.mod_mul, show 2 ^ 8 = 256 by decide, Nat.add_comm, Nat.mul_comm]
    rw [hm, show 8 * (k + 1) = 8 * k + 8 by omega, Nat.pow_add, show 2 ^ 8 = 256 by decide, Nat.add_mul]
    generalize n / 2 ^ (8 * k) % 256 = d
    generalize n % 2 ^ (8 * k) = r
    generalize 2 ^ (8 * k) = p
    have h1 : a * 256 % 18446744073709551616 * p % 18446744073709551616 = a * 256 * p % 18446744073709551616 := by rw [Nat.mul_mod, Nat.mod_mod, ← Nat.mul_mod]
    rw [show a * (p * 256) = a * 256 * p by rw [Nat.mul_assoc, Nat.mul_comm p 256], Nat.add_assoc, Nat.add_mod, h1, ← Nat.add_mod]
theorem acc_low0 (n k : Nat) (hk : k ≤ 8) : acc 0 (lowB n k) = n % 2 ^ (8 * k) := by
  rw [acc_low n k 0 (by decide), Nat.zero_mul, Nat.zero_add]
  have h1 : n % 2 ^ (8 * k) < 2 ^ (8 * k) := Nat.mod_lt _ (Nat.pow_pos (by decide))
  have h2 : 2 ^ (8 * k) ≤ 2 ^ 64 := Nat.pow_le_pow_right (by decide) (by omega)
  exact Nat.mod_eq_of_lt (Nat.lt_of_lt_of_le h1 (by simpa using h2))
theorem u8_low (n k : Nat) : U8 (lowB n k) := by
  induction k with
  | zero => intro x hx; simp [lowB] at hx
  | succ k ih =>
    intro x hx
    rcases List.mem_cons.1 hx with rfl | hx
    · exact Nat.mod_lt _ (by decide)
    · exact ih x hx
theorem sgn_all (x : Nat) (hx : x < 18446744073709551616) : (18446744073709551488 ≤ x → sgn 1 (x % 2 ^ (8 * 1)) = x) ∧ (18446744073709518848 ≤ x → sgn 2 (x % 2 ^ (8 * 2)) = x) ∧ (18446744071562067968 ≤ x → sgn 4 (x % 2 ^ (8 * 4)) = x) ∧ (sgn 8 (x % 2 ^ (8 * 8)) = x) := by
  unfold sgn
  simp only [show (2 : Int) ^ Nat.min (64 - 8 * 1) 64 = 72057594037927936 by decide, show (2 : Int) ^ Nat.min (64 - 8 * 2) 64 = 281474976710656 by decide, show (2 : Int) ^ Nat.min (64 - 8 * 4) 64 = 4294967296 by decide, show (2 : Int) ^ Nat.min (64 - 8 * 8) 64 = 1 by decide,
    show 2 ^ (8 * 1) = 256 by decide, show 2 ^ (8 * 2) = 65536 by decide, show 2 ^ (8 * 4) = 4294967296 by decide, show 2 ^ (8 * 8) = 18446744073709551616 by decide]
  refine ⟨fun h => ?_, fun h => ?_, fun h => ?_, ?_⟩ <;> rw [Int.fdiv_eq_ediv_of_nonneg _ (by decide), IntKind.wrap_u64, IntKind.wrap_i64, IntKind.wrap_u64] <;> omega
/-- a head of a kind and a number -/
def Head (K : Nat) (x : Nat) (P : List Nat) : Prop := ∃ c l, P = c :: l ∧ c < 256 ∧ c ≠ 193 ∧ U8 l ∧ mo c = 0 ∧ l.length = hz c ∧ hk c = K ∧ valH c l = (x : Int)
theorem head_low {c k K x : Nat} (h1 : c < 256) (h2 : c ≠ 193) (h3 : mo c = 0) (h4 : hz c = k) (h5 : hk c = K) (h6 : hs c = false) (h7 : hn c = 0) (hk8 : k ≤ 8) (h8 : x < 2 ^ (8 * k)) : Head K x (c :: lowB x k) := by
  refine ⟨c, lowB x k, rfl, h1, h2, u8_low x k, h3, by rw [lowB_len, h4], h5, ?_⟩
  unfold valH
  rw [h6, if_neg (by decide), h7, acc_low0 x k hk8, Nat.mod_eq_of_lt h8]
theorem head_one {c K x : Nat} (h1 : c < 256) (h2 : c ≠ 193) (h3 : mo c = 0) (h4 : hz c = 0) (h5 : hk c = K) (h6 : hs c = false) (h7 : hn c = x) : Head K x [c] := by
  refine ⟨c, [], rfl, h1, h2, fun y hy => by simp at hy, h3, by rw [h4]; rfl, h5, ?_⟩
  unfold valH
  rw [h6, if_neg (by decide), h7]; rfl
theorem div0 {x k : Nat} (h : x / 2 ^ k = 0) : x < 2 ^ k := (Nat.div_eq_zero_iff_lt (Nat.pow_pos (by decide))).1 h
theorem head_uint (x : Nat) (hx : x < 18446744073709551616) : Head 4 x (sizedB x 204 [1, 2, 4, 8]) := by
  simp only [sizedB]
  by_cases h1 : x / 2 ^ (8 * 1) = 0
  · rw [if_pos (.inr h1)]; exact head_low (by decide) (by decide) (by decide) rfl rfl rfl rfl (by decide) (div0 h1)
  rw [if_neg (by omega)]
  by_cases h2 : x / 2 ^ (8 * 2) = 0
  · rw [if_pos (.inr h2)]; exact head_low (by decide) (by decide) (by decide) rfl rfl rfl rfl (by decide) (div0 h2)
  rw [if_neg (by omega)]
  by_cases h4 : x / 2 ^ (8 * 4) = 0
  · rw [if_pos (.inr h4)]; exact head_low (by decide) (by decide) (by decide) rfl rfl rfl rfl (by decide) (div0 h4)
  rw [if_neg (by omega), if_pos (.inl trivial)]
  exact head_low (by decide) (by decide) (by decide) rfl rfl rfl rfl (by decide) (by simpa using hx)
theorem head_3 {f K : Nat} (x : Nat) (hx : x < 4294967296) (hf : (f = 217 ∧ K = 7) ∨ (f = 196 ∧ K = 8)) : Head K x (sizedB x f [1, 2, 4]) := by
  simp only [sizedB]
  by_cases h1 : x / 2 ^ (8 * 1) = 0
  · rw [if_pos (.inr h1)]; rcases hf with ⟨rfl, rfl⟩ | ⟨rfl, rfl⟩ <;> exact head_low (by decide) (by decide) (by decide) rfl rfl rfl rfl (by decide) (div0 h1)
  rw [if_neg (by omega)]
  by_cases h2 : x / 2 ^ (8 * 2) = 0
  · rw [if_pos (.inr h2)]; rcases hf with ⟨rfl, rfl⟩ | ⟨rfl, rfl⟩ <;> exact head_low (by decide) (by decide) (by decide) rfl rfl rfl rfl (by decide) (div0 h2)
  rw [if_neg (by omega), if_pos (.inr (Nat.div_eq_of_lt (by simpa using hx)))]
  rcases hf with ⟨rfl, rfl⟩ | ⟨rfl, rfl⟩ <;> exact head_low (by decide) (by decide) (by decide) rfl rfl rfl rfl (by decide) (by simpa using hx)
theorem head_2 {f K : Nat} (x : Nat) (hx : x < 4294967296) (hf : (f = 220 ∧ K = 9) ∨ (f = 222 ∧ K = 10)) : Head K x (sizedB x f [2, 4]) := by
  simp only [sizedB]
  by_cases h2 : x / 2 ^ (8 * 2) = 0
  · rw [if_pos (.inr h2)]; rcases hf with ⟨rfl, rfl⟩ | ⟨rfl, rfl⟩ <;> exact head_low (by decide) (by decide) (by decide) rfl rfl rfl rfl (by decide) (div0 h2)
  rw [if_neg (by omega), if_pos (.inr (Nat.div_eq_of_lt (by simpa using hx)))]
  rcases hf with ⟨rfl, rfl⟩ | ⟨rfl, rfl⟩ <;> exact head_low (by decide) (by decide) (by decide) rfl rfl rfl rfl (by decide) (by simpa using hx)
theorem head_int (x : Nat) (hx : x < 18446744073709551616) (hx2 : 9223372036854775808 ≤ x) : Head 5 x (numB x) := by
  obtain ⟨s1, s2, s4, s8⟩ := sgn_all x hx
  unfold numB
  by_cases h1 : 18446744073709551584 ≤ x
  · rw [if_pos (.inr h1)]
    have g1 : 224 ≤ x % 256 := by omega
    have g2 : x % 256 < 256 := Nat.mod_lt _ (by decide)
    obtain ⟨q1, q2, q3⟩ := low_facts (x % 256) g2 (.inr g1)
    refine head_one g2 (by omega) q2 q1 ?_ q3 ?_
    · unfold hk; rw [if_neg (by omega), if_neg (by omega), if_neg (by omega), if_neg (by omega), if_pos g1]
    · unfold hn; rw [if_neg (by omega), if_neg (by omega), if_neg (by omega), if_neg (by omega), if_pos g1]; omega
  rw [if_neg (by omega), if_neg (by omega)]
  have hd : ∀ {c k : Nat}, c < 256 → c ≠ 193 → mo c = 0 → hz c = k → hk c = 5 → hs c = true → hn c = 0 → k ≤ 8 → sgn k (x % 2 ^ (8 * k)) = x → Head 5 x (c :: lowB x k) := by
    intro c k e1 e2 e3 e4 e5 e6 e7 e8 e9
    refine ⟨c, lowB x k, rfl, e1, e2, u8_low x k, e3, by rw [lowB_len, e4], e5, ?_⟩
    unfold valH
    rw [e6, if_pos rfl, e7, acc_low0 x k e8, e4, e9]
  by_cases h2 : 18446744073709551488 ≤ x
  · rw [if_pos h2]; exact hd (by decide) (by decide) (by decide) rfl rfl rfl rfl (by decide) (s1 h2)
  rw [if_neg h2]
  by_cases h3 : 18446744073709518848 ≤ x
  · rw [if_pos h3]; exact hd (by decide) (by decide) (by decide) rfl rfl rfl rfl (by decide) (s2 h3)
  rw [if_neg h3]
  by_cases h4 : 18446744071562067968 ≤ x
  · rw [if_pos h4]; exact hd (by decide) (by decide) (by decide) rfl rfl rfl rfl (by decide) (s4 h4)
  rw [if_neg h4]; exact hd (by decide) (by decide) (by decide) rfl rfl rfl rfl (by decide) s8
/-- kinds and numbers that are put -/
def Puts (K x : Nat) : Prop := x < 18446744073709551616 ∧ ((K = 1 ∧ x = 0) ∨ (K = 2 ∧ x = 0) ∨ (K = 3 ∧ x = 0) ∨ K = 4 ∨ (K = 5 ∧ 9223372036854775808 ≤ x) ∨ K = 6 ∨ (K = 12 ∧ x < 4294967296) ∨ (K = 7 ∧ x < 4294967296) ∨ (K = 8 ∧ x < 4294967296) ∨ (K = 9 ∧ x < 4294967296) ∨ (K = 10 ∧ x < 4294967296))
theorem head_all {K x : Nat} (h : Puts K x) : Head K x (putB (K : Int) x) := by
  obtain ⟨hx, h⟩ := h
  unfold putB
  rcases h with ⟨rfl, rfl⟩ | ⟨rfl, rfl⟩ | ⟨rfl, rfl⟩ | rfl | ⟨rfl, h⟩ | rfl | ⟨rfl, h⟩ | ⟨rfl, h⟩ | ⟨rfl, h⟩ | ⟨rfl, h⟩ | ⟨rfl, h⟩
  · exact head_one (by decide) (by decide) (by decide) rfl rfl rfl rfl
  · exact head_one (by decide) (by decide) (by decide) rfl rfl rfl rfl
  · exact head_one (by decide) (by decide) (by decide) rfl rfl rfl rfl
  · show Head 4 x (if 9223372036854775807 < x then sizedB x 204 [1, 2, 4, 8] else numB x)
    split
    · exact head_uint x hx
    · unfold numB
      by_cases h1 : x < 128
      · rw [if_pos (.inl h1)]
        have e : x % 256 = x := by omega
        obtain ⟨q1, q2, q3⟩ := low_facts x (by omega) (by omega)
        rw [e]
        exact head_one (by omega) (by omega) q2 q1 (if_pos h1) q3 (if_pos h1)
      · rw [if_neg (by omega), if_pos (by omega)]; exact head_uint x hx
  · exact head_int x hx h
  · show Head 6 x (203 :: lowB x 8)
    exact head_low (by decide) (by decide) (by decide) rfl rfl rfl rfl (by decide) (by simpa using hx)
  · rw [Nat.mod_eq_of_lt h]
    show Head 12 x (202 :: lowB x 4)
    exact head_low (by decide) (by decide) (by decide) rfl rfl rfl rfl (by decide) (by simpa using h)
  · rw [Nat.mod_eq_of_lt h]
    show Head 7 x (if x < 32 then [160 + x] else sizedB x 217 [1, 2, 4])
    split
    · next hl =>
      obtain ⟨q1, q2, q3⟩ := low_facts (160 + x) (by omega) (by omega)
      refine head_one (by omega) (by omega) q2 q1 ?_ q3 ?_
      · unfold hk; rw [if_neg (by omega), if_neg (by omega), if_neg (by omega), if_pos (by omega)]
      · unfold hn; rw [if_neg (by omega), if_neg (by omega), if_neg (by omega), if_pos (by omega)]; omega
    · exact head_3 x h (.inl ⟨rfl, rfl⟩)
  · rw [Nat.mod_eq_of_lt h]
    show Head 8 x (sizedB x 196 [1, 2, 4])
    exact head_3 x h (.inr ⟨rfl, rfl⟩)
  · rw [Nat.mod_eq_of_lt h]
    show Head 9 x (if x < 16 then [144 + x] else sizedB x 220 [2, 4])
    split
    · next hl =>
      obtain ⟨q1, q2, q3⟩ := low_facts (144 + x) (by omega) (by omega)
      refine head_one (by omega) (by omega) q2 q1 ?_ q3 ?_
      · unfold hk; rw [if_neg (by omega), if_neg (by omega), if_pos (by omega)]
      · unfold hn; rw [if_neg (by omega), if_neg (by omega), if_pos (by omega)]; omega
    · exact head_2 x h (.inl ⟨rfl, rfl⟩)
  · rw [Nat.mod_eq_of_lt h]
    show Head 10 x (if x < 16 then [128 + x] else sizedB x 222 [2, 4])
    split
    · next hl =>
      obtain ⟨q1, q2, q3⟩ := low_facts (128 + x) (by omega) (by omega)
      refine head_one (by omega) (by omega) q2 q1 ?_ q3 ?_
      · unfold hk; rw [if_neg (by omega), if_pos (by omega)]
      · unfold hn; rw [if_neg (by omega), if_pos (by omega)]; omega
    · exact head_2 x h (.inr ⟨rfl, rfl⟩)
theorem get_end (b : List Nat) (hb : b.length ≤ 1000) : P0 f_mhead_Get [.v (.sl (bys b)), .v (.int .i64 (b.length : Int))] [] = some (.tup [.int .i64 0, .int .u64 0, .int .i64 0, .int .i64 2], []) := by
  rw [eq_mhead_Get]; unfold F_mhead_Get
  have c1 : ¬ (b.length : Int) < 0 := by omega
  simp only [tick_eq, lss_i, c1, decide_false, some_bind, asBool_b, if_true, lenV_sl, bys_len, gtr_i, Int.lt_irrefl, Bool.false_eq_true, if_false, eql_i, decide_true]
theorem awake11 : P0 f_law11_awake [] [] = some (.bool true, []) := by
  rw [eq_law11_awake]; unfold F_law11_awake
  have h : P0 f_mhead_Put [.v (.sl []), .v (.int .i64 7), .v (.int .u64 40)] [] = some (.sl (bys [217, 40]), []) := hput_ok [] 7 40 (by decide) (by decide)
  have h2 : asBytesV (bys [217, 40]) = some [217, 40] := by decide
  simp only [tick_eq, h, some_bind, asSl_bys, h2, eql_s, beq_self_eq_true, asBool_b, if_true]
end Go.Ev
