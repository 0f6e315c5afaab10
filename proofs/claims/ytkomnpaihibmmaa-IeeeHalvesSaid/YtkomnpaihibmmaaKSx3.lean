/- A product of two words. -/
import Derived.Test.YtkomnpaihibmmaaKSx2
set_option linter.all false
namespace Go.Ev
attribute [local irreducible] P0

theorem pair_get (k : IntKind) (l : List Nat) (hl : l.length = 2) (i : Nat) (hi : i < 2) : fldV (.agg [.int k (lat l 0 : Int), .int k (lat l 1 : Int)]) (0 + i * 1) = some (.int k (lat l i : Int)) := by
  have : i = 0 ∨ i = 1 := by omega
  rcases this with rfl | rfl <;> rfl
theorem mul_in (xs ys : List Nat) (i : Nat) (st : Nat → V) (q : Nat × Nat) (out0 : List Nat) (hst : st 0 = .int .i64 (i : Int)) (hq : q.1 = out0.length) (hx : U32 xs) (hxl : xs.length = 2) (hi2 : i < 2) (hb : U32 ys) (hyl : ys.length = 2) (hi : i + 2 < out0.length) (hl : out0.length ≤ 1000000) (k : Nat) :
    ∀ (j v : Nat) (o : List Nat), j + k = 2 → v < B32 → U32 o → o.length = out0.length → (∀ t, i + j ≤ t → lat o t = lat out0 t) →
      nval o + B32 ^ (i + j) * v = nval out0 + B32 ^ i * (lat xs i * nval (ys.take j)) →
    ∃ (v' : Nat) (o' : List Nat), loopL (L_law03_mul_1 st q (.int .u64 (lat xs 0 : Int)) (.int .u64 (lat xs 1 : Int)) (.int .u64 (lat ys 0 : Int)) (.int .u64 (lat ys 1 : Int))) (vec [.int .u64 (v : Int), .int .i64 (j : Int), .sl (limbs o)]) = some (0, vec [.int .u64 (v' : Int), .sl (limbs o')])
      ∧ v' < B32 ∧ U32 o' ∧ o'.length = out0.length ∧ (∀ t, i + 2 ≤ t → lat o' t = lat out0 t) ∧ nval o' + B32 ^ (i + 2) * v' = nval out0 + B32 ^ i * (lat xs i * nval ys) := by
  induction k with
  | zero =>
    intro j v o hj hv hu ho ht hn
    have e : j = 2 := by omega
    subst e
    refine ⟨v, o, ?_, hv, hu, ho, ht, by rw [List.take_of_length_le (by omega)] at hn; exact hn⟩
    apply loopL_inr
    unfold L_law03_mul_1
    apply yes; simp
  | succ k ih =>
    intro j v o hj hv hu ho ht hn
    have hB : B32 = 4294967296 := rfl
    have hjl : j < 2 := by omega
    have hxx : lat xs i < B32 := lat_lt hx i
    have hy : lat ys j < B32 := lat_lt hb j
    have hz : lat o (i + j) < B32 := lat_lt hu _
    have hij : i + j < o.length := by omega
    have ez : o[i + j]? = some (lat o (i + j)) := by unfold lat; rw [List.getElem?_eq_getElem hij]; rfl
    have hp := prod_lt hxx hy
    have hBB : B32 * B32 = 18446744073709551616 := by decide
    have px := pair_get .u64 xs hxl i hi2
    have py := pair_get .u64 ys hyl j hjl
    have htk := nval_take_succ ys j
    generalize hxe : lat xs i = x at *
    generalize hyy : lat ys j = y at *
    generalize hzz : lat o (i + j) = z at *
    have hm : (v + x * y + z) % B32 < B32 := Nat.mod_lt _ (by decide)
    have hd : (v + x * y + z) / B32 < B32 := by rw [Nat.div_lt_iff_lt_mul (by decide)]; omega
    obtain ⟨v', o', h1, h2⟩ := ih (j + 1) ((v + x * y + z) / B32) (o.set (i + j) ((v + x * y + z) % B32)) (by omega) hd (u32_set hu hm _) (by simp [ho])
      (fun t htt => by rw [lat_set_ne _ _ _ _ (by omega)]; exact ht t (by omega))
      (by
        have hs := nval_set o (i + j) ((v + x * y + z) % B32) hij
        rw [hzz] at hs
        have := mul_step hn hs
        rw [show i + (j + 1) = i + j + 1 by omega, Nat.pow_succ, this, htk, Nat.mul_add x, Nat.mul_add (B32 ^ i), Nat.pow_add]
        rw [show x * (B32 ^ j * y) = B32 ^ j * (x * y) by ac_rfl, Nat.mul_assoc, ← Nat.add_assoc])
    refine ⟨v', o', ?_, h2⟩
    rw [← h1]
    apply loopL_inl
    unfold L_law03_mul_1
    have c1 : (j : Int) < 2 := by omega
    have c2 : ((i : Int) + (j : Int)) = ((i + j : Nat) : Int) := by omega
    have w3 := wu64 (a := (z : Int)) (by omega)
    have e3 : (x : Int) * (y : Int) = ((x * y : Nat) : Int) := by simp
    have w4 := wu64 (a := ((x * y : Nat) : Int)) (by omega)
    have e4 : (v : Int) + (z : Int) = ((v + z : Nat) : Int) := by simp
    have w5 := wu64 (a := ((v + z : Nat) : Int)) (by omega)
    have e5 : ((v + z : Nat) : Int) + ((x * y : Nat) : Int) = ((v + x * y + z : Nat) : Int) := by omega
    have w6 := wu64 (a := ((v + x * y + z : Nat) : Int)) (by omega)
    have w7 := w64 (a := ((i + j : Nat) : Int)) (by omega)
    have w8 : IntKind.u32.wrap ((v + x * y + z : Nat) : Int) = (((v + x * y + z) % B32 : Nat) : Int) := by rw [IntKind.wrap_u32, hB]; omega
    have w9 : IntKind.i64.wrap ((j : Int) + 1) = ((j + 1 : Nat) : Int) := w64 (a := (j : Int) + 1) (by omega)
    have hp2 : (2 : Int) ^ Nat.min (32 : Int).toNat (IntKind.bits .u64) = 4294967296 := by decide
    have e9 : ((v + x * y + z : Nat) : Int).fdiv 4294967296 = (((v + x * y + z) / B32 : Nat) : Int) := by
      rw [Int.fdiv_eq_ediv_of_nonneg _ (by decide), hB]; omega
    simp only [tick_eq, vec_0, vec_s, lss_i, some_bind, c1, decide_true, asBool_b, if_pos, hst, add_i, c2, w7, hq, idx_nat _ (i + j) out0.length (by omega), elems_sl, Nat.zero_add, limbs_get, ez, Option.map_some, fld_int, cvi_i, w3, e4, w5, idx_nat _ i 2 hi2]
    rw [Nat.zero_add] at px
    simp only [tick_eq, vec_0, vec_s, hst, hq, elems_sl, px, some_bind, idx_nat _ i 2 hi2, idx_nat _ j 2 hjl, py, mul_i, e3, w4, add_i, e5, w6, c2, w7, cvi_i, w8, idx_nat _ (i + j) out0.length (by omega), okN_int, tst_t, fld_int, shr_i _ _ _ _ (show (0 : Int) ≤ 32 by decide), hp2, e9, w9, limbs_set]
    rw [Nat.zero_add]
theorem mul_out (xs ys : List Nat) (hx : U32 xs) (hxl : xs.length = 2) (hb : U32 ys) (hyl : ys.length = 2) (k : Nat) :
    ∀ (i : Nat) (o : List Nat), i + k = 2 → U32 o → o.length = 4 → (∀ t, i + 2 ≤ t → lat o t = 0) → nval o = nval (xs.take i) * nval ys →
    ∃ o' : List Nat, loopL (L_law03_mul_2 (4, 4) (.int .u64 (lat xs 0 : Int)) (.int .u64 (lat xs 1 : Int)) (.int .u64 (lat ys 0 : Int)) (.int .u64 (lat ys 1 : Int))) (vec [.int .i64 (i : Int), .sl (limbs o)]) = some (0, vec [.sl (limbs o')]) ∧ U32 o' ∧ o'.length = 4 ∧ nval o' = nval xs * nval ys := by
  induction k with
  | zero =>
    intro i o hi hu ho hz hn
    have e : i = 2 := by omega
    subst e
    refine ⟨o, ?_, hu, ho, by rw [List.take_of_length_le (by omega)] at hn; exact hn⟩
    apply loopL_inr
    unfold L_law03_mul_2
    apply yes; simp
  | succ k ih =>
    intro i o hi hu ho hz hn
    have hil : i < 2 := by omega
    have c1 : (i : Int) < 2 := by omega
    obtain ⟨v, o1, h1, h2, h3, h4, h5, h6⟩ := mul_in xs ys i (vec [.int .i64 (i : Int), .sl (limbs o)]) (4, 4) o rfl (by omega) hx hxl hil hb hyl (by omega) (by omega) 2 0 0 o (by omega) (by decide) hu rfl (fun t _ => rfl) (by simp [nval])
    have hib : i + 2 < o1.length := by omega
    have hz0 : lat o1 (i + 2) = 0 := by rw [h5 _ (Nat.le_refl _)]; exact hz _ (Nat.le_refl _)
    obtain ⟨o', g1, g2⟩ := ih (i + 1) (o1.set (i + 2) v) (by omega) (u32_set h3 h2 _) (by simp [h4, ho])
      (fun t ht => by rw [lat_set_ne _ _ _ _ (by omega), h5 t (by omega)]; exact hz t (by omega))
      (by
        have := nval_set o1 (i + 2) v hib
        rw [hz0, Nat.mul_zero, Nat.add_zero, h6, hn] at this
        rw [this, nval_take_succ, Nat.add_mul, Nat.mul_assoc])
    refine ⟨o', ?_, g2⟩
    rw [← g1]
    apply loopL_inl
    unfold L_law03_mul_2
    have hB : B32 = 4294967296 := rfl
    have w2 : IntKind.i64.wrap ((i : Int) + 2) = ((i + 2 : Nat) : Int) := w64 (a := (i : Int) + 2) (by omega)
    have w1 : IntKind.i64.wrap ((i : Int) + 1) = ((i + 1 : Nat) : Int) := w64 (a := (i : Int) + 1) (by omega)
    have w3 := wu32 (a := (v : Int)) (by omega)
    rw [show ((0 : Nat) : Int) = 0 from rfl] at h1
    simp only [tick_eq, vec_0, vec_s, lss_i, some_bind, c1, decide_true, asBool_b, if_pos, elems_sl, h1, add_i, w2, cvi_i, w3, idx_nat _ (i + 2) 4 (by omega), okN_int, tst_t, fld_int, w1, Nat.zero_add, limbs_set]
theorem lmul_ok (a b : Nat) (ha : a < 18446744073709551616) (hb : b < 18446744073709551616) :
    ∃ l : List Nat, P0 f_law03_mul [.v (.int .u64 (a : Int)), .v (.int .u64 (b : Int))] [] = some (.sl (limbs l), []) ∧ U32 l ∧ l.length = 4 ∧ nval l = a * b := by
  have split : ∀ a : Nat, a < 18446744073709551616 → U32 [a % B32, a / B32] ∧ nval [a % B32, a / B32] = a ∧ binV .and (.int .u64 (a : Int)) (.int .u64 4294967295) = some (.int .u64 ((a % B32 : Nat) : Int)) ∧ binV .shr (.int .u64 (a : Int)) (.int .u64 32) = some (.int .u64 ((a / B32 : Nat) : Int)) := fun a ha => by
    obtain ⟨_, _, _, _, _, f6⟩ := limb_facts a ha
    have p32 : (2 : Nat) ^ 32 = B32 := by decide
    have m := and_mask a 4294967295 32 (by decide) ha (by decide)
    have r := shr_u64 a .u64 32 (by decide)
    rw [p32] at m r
    rw [show ((4294967295 : Nat) : Int) = 4294967295 by decide] at m
    rw [show ((32 : Nat) : Int) = 32 by decide] at r
    refine ⟨?_, ?_, m, r⟩
    · intro x hx
      simp at hx
      rcases hx with rfl | rfl
      · exact Nat.mod_lt _ (by decide)
      · exact f6
    · simp only [nval, Nat.mul_zero, Nat.add_zero]; exact Nat.mod_add_div a B32
  obtain ⟨a1, a2, a3, a4⟩ := split a ha
  obtain ⟨b1, b2, b3, b4⟩ := split b hb
  obtain ⟨o, h1, h2, h3, h4⟩ := mul_out [a % B32, a / B32] [b % B32, b / B32] a1 rfl b1 rfl 2 0 (List.replicate 4 0) (by omega) (u32_rep _) (by simp) (fun t _ => lat_rep _ _) (by rw [nval_rep]; simp [nval])
  rw [a2, b2] at h4
  refine ⟨o, ?_, h2, h3, h4⟩
  rw [eq_law03_mul]; unfold F_law03_mul
  have hm : mksV 4 (.int .i64 4) (.int .i64 4) = some (4, 4) := mks_n 4 4 (by decide) (by decide)
  have l0 : ∀ x y : Nat, lat [x, y] 0 = x := fun _ _ => rfl
  have l1 : ∀ x y : Nat, lat [x, y] 1 = y := fun _ _ => rfl
  rw [show ((0 : Nat) : Int) = 0 from rfl, l0, l0, l1, l1] at h1
  have ok2 : ∀ x y : Int, okN 2 (.agg [.int .u64 x, .int .u64 y]) = true := fun x y => rfl
  have e3 : (limbs o).take 4 = limbs o := by apply List.take_of_length_le; rw [limbs_len]; omega
  apply yes
  generalize hM : mksV 4 (.int .i64 4) (.int .i64 4) = M
  rw [hm] at hM
  subst hM
  simp only [tick_eq, some_bind, a3, a4, b3, b4, okN_int, tst_t, fld_int, ok2]
  rw [limbs_rep, h1]
  simp only [tick_eq, some_bind, vec_0, elems_sl, List.drop_zero, e3]
  simp
end Go.Ev
