/- The law of the edges of floats. -/
import Derived.Test.YtkomnpaihibmmaaKSx2
import Derived.Test.YtkomnpaihibmmaaRows
import Derived.Test.YtkomnpaihibmmaaKSp
set_option linter.all false
namespace Go.Ev
attribute [local irreducible] P0

theorem limbs_own (l : List Nat) (hl : l.length ≤ 1000000) : P0 f_law00_Limbs [.g, .v (.sl (limbs l))] [] = some (.sl (limbs l), []) := by
  rw [eq_law00_Limbs]; unfold F_law00_Limbs
  have ha : appOk 4 0 l.length = true := app_ok _ _ _ (by omega) (by omega)
  apply yes
  simp only [tick_eq, asEl_limbs, some_bind, List.length_nil, limbs_len, ha, tst_t, List.nil_append]
  rw [Yes_some]
theorem nval_top (l : List Nat) : nval (l ++ [0]) = nval l := by rw [nval_append]; simp [nval]
theorem mk_self {neg : Bool} {m : Nat} {e : Int} (h : NumOk m e) : mk neg m e = (⟨neg, toL m, e⟩, true) := by
  obtain ⟨h1, h2, h3, h4, h5⟩ := h
  have ht : trim m = (m, 0) := trim_stop (.inr h2)
  unfold mk
  rw [if_neg h1, ht]
  simp only [Int.natCast_zero, Int.add_zero]
  rw [if_neg (by omega)]
/-- a float that is finite: its number, its bits again, and with a nought at the top -/
theorem edge_fin {w : Int} {ex fr : Nat} (h : Fm w ex fr) (b : Nat) (hb : b < 2 ^ (ex + fr)) (hk : kindN ex (cutE ex fr b) (cutM fr b) = 1) :
    ∃ L E, P0 f_ieee_Exact [.v (.int .i64 w), .v (.int .u64 (b : Int))] [] = some (.tup [(Nm.mk false L E).val, .bool true], []) ∧
      P0 f_ieee_To [.v (.int .i64 w), .v (Nm.mk false L E).val] [] = some (.tup [.int .u64 (b : Int), .bool true], []) ∧ L.length ≤ 90 ∧
      P0 f_ref02_Make [.v (.bool false), .v (.sl (limbs L ++ [.int .u32 0])), .v (.int .i64 E)] [] = some (.tup [(Nm.mk false L E).val, .bool true], []) := by
  obtain ⟨_, _, _, _, f5, f6, _⟩ := fm_facts h
  have hb1 : b < 2 ^ (ex + fr + 1) := Nat.lt_of_lt_of_le hb (Nat.pow_le_pow_right (by decide) (by omega))
  have hb64 : b < 18446744073709551616 := by
    refine Nat.lt_of_lt_of_le hb1 ?_
    calc 2 ^ (ex + fr + 1) ≤ 2 ^ 64 := Nat.pow_le_pow_right (by decide) (by omega)
      _ = 18446744073709551616 := by decide
  have hN : cutN ex fr b = false := by
    unfold cutN
    rw [Nat.div_eq_of_lt hb]; rfl
  obtain ⟨le, lm⟩ := @cut_lt ex fr b
  obtain ⟨q1, q2⟩ := kind_fin hk le
  have hM : bitsM fr (cutE ex fr b) (cutM fr b) ≠ 0 := by
    have := Nat.pow_pos (n := fr) (show 0 < 2 by decide)
    unfold bitsM; split <;> omega
  obtain ⟨⟨L, E, hn⟩, hx⟩ := exact_q h _ _ q1 lm q2 hM (cutN ex fr b)
  have hx := hx b hb64 rfl rfl rfl
  have hbits := toQ_bits f6 q1 lm q2 (cutN ex fr b)
  rw [cut_join hb1] at hbits
  obtain ⟨hq, _⟩ := odd2_spec hM
  have hto := to_num h hq hn
  rw [hbits] at hto
  rw [hn] at hx
  rw [hN] at hx hto hn
  obtain ⟨m, rfl, h2, _⟩ := num_facts hq hn
  refine ⟨toL m, E, hx, hto, h2.2.2.1, ?_⟩
  have e1 : limbs (toL m) ++ [V.int .u32 0] = limbs (toL m ++ [0]) := by simp [limbs]
  have hu : U32 (toL m ++ [0]) := by
    intro x hx'
    rcases List.mem_append.1 hx' with hx' | hx'
    · exact toL_u32 m x hx'
    · simp at hx'; subst hx'; decide
  have := rmake_ok false (toL m ++ [0]) E hu (by simp; have := h2.2.2.1; omega) ⟨by have := h2.2.2.2.1; omega, by have := h2.2.2.2.2; omega⟩
  rw [e1, this, nval_top, nval_toL, mk_self h2]
theorem edge_step {w : Int} {ex fr : Nat} (h : Fm w ex fr) (i : Nat) (hi : i < 3) (b1 b2 b3 : Nat) (h1 : b1 < 2 ^ (ex + fr)) (h2 : b2 < 2 ^ (ex + fr)) (h3 : b3 < 9218868437227405313)
    (k1 : kindN ex (cutE ex fr b1) (cutM fr b1) = 1) (k2 : kindN ex (cutE ex fr b2) (cutM fr b2) = 1) (k3 : kindN ex (cutE ex fr b3) (cutM fr b3) = 3) (k4 : kindN ex (cutE ex fr (b3 + 1)) (cutM fr (b3 + 1)) = 4)
    (g0 : fldV (.agg [(.int .u64 16), (.int .u64 1), (.int .u64 31743), (.int .u64 31744), (.int .u64 32), (.int .u64 1), (.int .u64 2139095039), (.int .u64 2139095040), (.int .u64 64), (.int .u64 1), (.int .u64 9218868437227405311), (.int .u64 9218868437227405312)]) ((0 + i * 4) + 0 * 1) = some (.int .u64 w))
    (g1 : fldV (.agg [(.int .u64 16), (.int .u64 1), (.int .u64 31743), (.int .u64 31744), (.int .u64 32), (.int .u64 1), (.int .u64 2139095039), (.int .u64 2139095040), (.int .u64 64), (.int .u64 1), (.int .u64 9218868437227405311), (.int .u64 9218868437227405312)]) ((0 + i * 4) + 1 * 1) = some (.int .u64 (b1 : Int)))
    (g2 : fldV (.agg [(.int .u64 16), (.int .u64 1), (.int .u64 31743), (.int .u64 31744), (.int .u64 32), (.int .u64 1), (.int .u64 2139095039), (.int .u64 2139095040), (.int .u64 64), (.int .u64 1), (.int .u64 9218868437227405311), (.int .u64 9218868437227405312)]) ((0 + i * 4) + 2 * 1) = some (.int .u64 (b2 : Int)))
    (g3 : fldV (.agg [(.int .u64 16), (.int .u64 1), (.int .u64 31743), (.int .u64 31744), (.int .u64 32), (.int .u64 1), (.int .u64 2139095039), (.int .u64 2139095040), (.int .u64 64), (.int .u64 1), (.int .u64 9218868437227405311), (.int .u64 9218868437227405312)]) ((0 + i * 4) + 3 * 1) = some (.int .u64 (b3 : Int))) :
    loopL L_law03_IeeeEdges_1 (vec [.int .i64 (i : Int)]) = loopL L_law03_IeeeEdges_1 (vec [.int .i64 ((i + 1 : Nat) : Int)]) := by
  apply loopL_inl; unfold L_law03_IeeeEdges_1
  have c1 : (i : Int) < 3 := by omega
  have i0 : idxV (.int .i64 (i : Int)) 3 = some i := idx_nat _ _ _ hi
  have j0 : idxV (.int .i64 0) 4 = some 0 := by kernel_rfl
  have j1 : idxV (.int .i64 1) 4 = some 1 := by kernel_rfl
  have j2 : idxV (.int .i64 2) 4 = some 2 := by kernel_rfl
  have j3 : idxV (.int .i64 3) 4 = some 3 := by kernel_rfl
  have w1 : IntKind.i64.wrap ((i : Int) + 1) = ((i + 1 : Nat) : Int) := w64 (by omega)
  have cw : cviV .i64 (.int .u64 w) = some (.int .i64 w) := by cases h <;> kernel_rfl
  have wb : IntKind.u64.wrap ((b3 : Int) + 1) = ((b3 + 1 : Nat) : Int) := wu64 (by omega)
  have hex := exact_nf h b3 (by omega) (by rw [k3]; decide)
  have kk3 := kind_ok h b3 (by omega)
  have kk4 := kind_ok h (b3 + 1) (by omega)
  rw [k3] at kk3 hex
  rw [k4] at kk4
  obtain ⟨L1, E1, x1, t1, l1, m1⟩ := edge_fin h b1 h1 k1
  obtain ⟨L2, E2, x2, t2, l2, _⟩ := edge_fin h b2 h2 k2
  have lo := limbs_own L1 (by omega)
  have sz0 : szOk 1 [V.int .u32 0] = true := by kernel_rfl
  have ao : appOk 4 L1.length (List.length (α := V) [(.int .u32 0)]) = true := app_ok _ _ _ (by simp; omega) (by simp; omega)
  have ofm : ∀ n : Nm, extV (.tup [n.val, .bool true]) 0 = some n.val := fun _ => rfl
  generalize hG : (V.agg [(.int .u64 16), (.int .u64 1), (.int .u64 31743), (.int .u64 31744), (.int .u64 32), (.int .u64 1), (.int .u64 2139095039), (.int .u64 2139095040), (.int .u64 64), (.int .u64 1), (.int .u64 9218868437227405311), (.int .u64 9218868437227405312)]) = G at *
  apply yes
  simp only [tick_eq, vec_0, lss_i, c1, decide_true, some_bind, asBool_b, if_true, i0, j0, j1, j2, j3, g0, g1, g2, g3, cw, x1, x2, hex, ext_tup, List.getElem?_cons_zero, List.getElem?_cons_succ, okN_nm, tst_t, t1, t2, not_b, Bool.not_true, Bool.not_false, show ((3 : Int) = 2) = False by decide, decide_false, Bool.false_eq_true, if_false, neq_i, kk3, add_i, wb, kk4, fld_nm1, lo, slV, sz0, limbs_len, ao, fld_nm2, m1, w1]
  rw [Yes_some]
theorem pure_IeeeEdges : P0 f_law03_IeeeEdges (([] : List V).map .v) [] = some (.bool true, []) := by
  have s0 := edge_step .w16 0 (by decide) 1 31743 31744 (by decide) (by decide) (by decide) (by kernel_rfl) (by kernel_rfl) (by kernel_rfl) (by kernel_rfl) rfl rfl rfl rfl
  have s1 := edge_step .w32 1 (by decide) 1 2139095039 2139095040 (by decide) (by decide) (by decide) (by kernel_rfl) (by kernel_rfl) (by kernel_rfl) (by kernel_rfl) rfl rfl rfl rfl
  have s2 := edge_step .w64 2 (by decide) 1 9218868437227405311 9218868437227405312 (by decide) (by decide) (by decide) (by kernel_rfl) (by kernel_rfl) (by kernel_rfl) (by kernel_rfl) rfl rfl rfl rfl
  have s3 : loopL L_law03_IeeeEdges_1 (vec [.int .i64 ((2 + 1 : Nat) : Int)]) = some (0, vec []) := by
    apply loopL_inr; unfold L_law03_IeeeEdges_1
    have c1 : ¬ (((2 + 1 : Nat) : Int) < 3) := by decide
    simp only [tick_eq, vec_0, lss_i, c1, decide_false, some_bind, asBool_b, Bool.false_eq_true, if_false]
  have hloop := s0.trans (s1.trans (s2.trans s3))
  rw [show ((0 : Nat) : Int) = 0 from rfl] at hloop
  rw [List.map_nil, eq_law03_IeeeEdges]; unfold F_law03_IeeeEdges
  simp only [tick_eq, hloop, some_bind, if_true, awake3]
end Go.Ev
