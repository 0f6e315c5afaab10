/- The law: each first byte. -/
import Derived.Test.YtppkffipolncbaaKSu6
import Derived.Test.YtppkffipolncbaaRows
import Derived.Test.YtppkffipolncbaaKSp
set_option linter.all false
namespace Go.Ev
attribute [local irreducible] P0
theorem firsts_loop (n : Nat) (hn : n < 18446744073709551616) (m : Nat) : ∀ (i : Nat) (l : List Nat), i + m = 20 → l.length = i + 1 → U8 l →
    ∃ l', loopL (L_law11_MheadFirsts_1 (.int .u64 (n : Int))) (vec [.sl (bys l), .int .i64 (i : Int)]) = some (0, vec [.sl (bys l')]) ∧ l'.length = 21 ∧ U8 l' ∧ l'[0]? = l[0]? := by
  induction m with
  | zero =>
    intro i l hi hl hu
    refine ⟨l, loopL_inr ?_, by omega, hu, rfl⟩
    unfold L_law11_MheadFirsts_1
    have c1 : ¬ (i : Int) < 20 := by omega
    simp only [tick_eq, vec_0, vec_s, lss_i, c1, decide_false, some_bind, asBool_b, Bool.false_eq_true, if_false, elems_sl]
  | succ m ih =>
    intro i l hi hl hu
    obtain ⟨l', h1, h2, h3, h4⟩ := ih (i + 1) (l ++ [n / 2 ^ (8 * (i % 8)) % 256]) (by omega) (by simp [hl]) (by
      intro x hx
      rcases List.mem_append.1 hx with hx | hx
      · exact hu x hx
      · rw [List.mem_singleton.1 hx]; exact Nat.mod_lt _ (by decide))
    refine ⟨l', ?_, h2, h3, h4.trans (List.getElem?_append_left (by omega))⟩
    rw [← h1]
    apply loopL_inl
    unfold L_law11_MheadFirsts_1
    have c1 : (i : Int) < 20 := by omega
    have hr : binV .rem (.int .i64 (i : Int)) (.int .i64 8) = some (.int .i64 ((i % 8 : Nat) : Int)) := by
      rw [rem_i _ _ _ (by decide), Int.tmod_eq_emod_of_nonneg (Int.natCast_nonneg _)]; congr 2
    have hm : IntKind.i64.wrap (8 * ((i % 8 : Nat) : Int)) = ((8 * (i % 8) : Nat) : Int) := by rw [w64 (a := 8 * ((i % 8 : Nat) : Int)) (by omega)]; omega
    have hs := shr_u64 n .u64 (8 * (i % 8)) (by omega)
    simp only [tick_eq, vec_0, vec_s, lss_i, c1, decide_true, some_bind, asBool_b, if_true, hr, mul_i, hm, cvi_i, wu64n (8 * (i % 8)) (by omega), hs, wu8, okN_int, tst_t, fld_int, szOk_by1, elems_sl, bys_len, one_len, app_ok 1 l.length 1 (by omega) (by omega), add_i, show IntKind.i64.wrap ((i : Int) + 1) = ((i + 1 : Nat) : Int) from w64 (a := (i : Int) + 1) (by omega), bys_1]
theorem firsts_ok (c n : Nat) (hc : c < 256) (hn : n < 18446744073709551616) : P0 f_law11_MheadFirsts [.v (.int .u8 (c : Int)), .v (.int .u64 (n : Int))] [] = some (.bool true, []) := by
  rw [eq_law11_MheadFirsts]; unfold F_law11_MheadFirsts
  obtain ⟨l, h1, h2, h3, h4⟩ := firsts_loop n hn 20 0 [c] (by decide) rfl (by intro x hx; rw [List.mem_singleton.1 hx]; exact hc)
  have h1 : loopL (L_law11_MheadFirsts_1 (.int .u64 (n : Int))) (vec [.sl [.int .u8 (c : Int)], .int .i64 0]) = some (0, vec [.sl (bys l)]) := h1
  have g1 : P0 f_mhead_Get [.v (.sl (bys l)), .v (.int .i64 0)] [] = _ := mget_ok l h3 (by omega) 0 (by omega)
  have g2 : P0 f_ref11_Get [.v (.sl (bys l)), .v (.int .i64 0)] [] = _ := rget_ok l h3 (by omega) 0 (by omega)
  obtain ⟨z1, z2, z3, z4, z5⟩ := hz_le c hc
  have h4 : l[0]? = some c := h4
  unfold getV at g1 g2
  rw [h4, Option.getD_some] at g1 g2
  by_cases h : c = 193
  · rw [if_pos h] at g1 g2
    have e : decide ((c : Int) = 193) = true := decide_eq_true (by omega)
    simp only [tick_eq, okN_int, tst_t, fld_int, some_bind, szOk_by1, h1, vec_0, elems_sl, g1, g2, ext_tup, List.getElem?_cons_zero, List.getElem?_cons_succ, eql_i, e, asBool_b, if_true, decide_true, awake11]
  · rw [if_neg h, if_neg (by omega)] at g1 g2
    have e : decide ((c : Int) = 193) = false := decide_eq_false (by omega)
    have d1 : decide ((1 : Int) ≤ ((0 + 1 + (hz c + mo c) : Nat) : Int)) = true := decide_eq_true (by omega)
    have d2 : decide (((0 + 1 + (hz c + mo c) : Nat) : Int) ≤ 10) = true := decide_eq_true (by omega)
    simp only [tick_eq, okN_int, tst_t, fld_int, some_bind, szOk_by1, h1, vec_0, elems_sl, g1, g2, ext_tup, List.getElem?_cons_zero, List.getElem?_cons_succ, eql_i, e, asBool_b, Bool.false_eq_true, if_false, if_true, decide_true, geq_i, leq_i, d1, d2, awake11]
theorem wf_u8 {z : Int} (h : (Lit.int .u8 z).wf = true) : ∃ b : Nat, z = b ∧ b < 256 := by
  have h : 0 ≤ z ∧ z ≤ 255 := by simpa [Lit.wf, IntKind.min, IntKind.max, IntKind.signed, IntKind.bits] using h
  exact ⟨z.toNat, by omega, by omega⟩
theorem pure_MheadFirsts {n0 n1 : Nat} {xs ys : List V} (hx : Ty Go.Proofs.Try.prog n0 5 xs) (hy : Ty Go.Proofs.Try.prog n1 23 ys) :
    P0 f_law11_MheadFirsts ([mkV Go.Proofs.Try.prog 5 xs, mkV Go.Proofs.Try.prog 23 ys].map .v) [] = some (.bool true, []) := by
  obtain ⟨z, hz, ez⟩ := ty_int Go.Proofs.Try.underlying5 hx
  obtain ⟨w, hw, ew⟩ := ty_int Go.Proofs.Try.underlying23 hy
  obtain ⟨c, rfl, hc⟩ := wf_u8 hz
  obtain ⟨n, rfl, hn⟩ := wf_u64 hw
  rw [ez, ew]
  exact firsts_ok c n hc hn
end Go.Ev
