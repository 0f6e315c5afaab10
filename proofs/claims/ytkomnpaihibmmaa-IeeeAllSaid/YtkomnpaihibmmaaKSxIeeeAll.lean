/- The law of all floats: the program's answers are the reference's. -/
import Derived.Test.YtkomnpaihibmmaaKSr7
import Derived.Test.YtkomnpaihibmmaaRows
import Derived.Test.YtkomnpaihibmmaaKSp
set_option linter.all false
namespace Go.Ev
attribute [local irreducible] P0

theorem rshortest_ok (x : Nm) (r16 r32 r64 : Nat × Bool) (h16 : P0 f_ref03_To [.v (.int .i64 16), .v x.val] [] = some (.tup [.int .u64 (r16.1 : Int), .bool r16.2], []))
    (h32 : P0 f_ref03_To [.v (.int .i64 32), .v x.val] [] = some (.tup [.int .u64 (r32.1 : Int), .bool r32.2], [])) (h64 : P0 f_ref03_To [.v (.int .i64 64), .v x.val] [] = some (.tup [.int .u64 (r64.1 : Int), .bool r64.2], [])) :
    P0 f_ref03_Shortest [.v x.val] [] = some (if r16.2 then .tup [.int .i64 16, .int .u64 (r16.1 : Int), .bool true] else if r32.2 then .tup [.int .i64 32, .int .u64 (r32.1 : Int), .bool true] else if r64.2 then .tup [.int .i64 64, .int .u64 (r64.1 : Int), .bool true]
      else .tup [.int .i64 0, .int .u64 0, .bool false], []) := by
  rw [eq_ref03_Shortest]; unfold F_ref03_Shortest
  have i0 : idxV (.int .i64 0) 3 = some 0 := by kernel_rfl
  have i1 : idxV (.int .i64 1) 3 = some 1 := by kernel_rfl
  have i2 : idxV (.int .i64 2) 3 = some 2 := by kernel_rfl
  have hz : szOk 1 [V.int .i64 16, .int .i64 32, .int .i64 64] = true := by kernel_rfl
  obtain ⟨d16, b16⟩ := r16
  obtain ⟨d32, b32⟩ := r32
  obtain ⟨d64, b64⟩ := r64
  simp only [okN_nm, tst_t]
  cases b16 with
  | true =>
    have s0 : loopL (L_ref03_Shortest_1 x.val) (vec [.int .i64 0]) = some (1, vec [.int .i64 16, .int .u64 (d16 : Int), .bool true]) := by
      apply loopL_inr; unfold L_ref03_Shortest_1
      apply yes; simp [hz, i0, h16]
    simp only [s0, some_bind]; simp
  | false =>
    have s0 : loopL (L_ref03_Shortest_1 x.val) (vec [.int .i64 0]) = loopL (L_ref03_Shortest_1 x.val) (vec [.int .i64 1]) := by
      apply loopL_inl; unfold L_ref03_Shortest_1
      apply yes; simp [hz, i0, h16, w64 (a := 1) (by decide)]
    rw [s0]
    cases b32 with
    | true =>
      have s1 : loopL (L_ref03_Shortest_1 x.val) (vec [.int .i64 1]) = some (1, vec [.int .i64 32, .int .u64 (d32 : Int), .bool true]) := by
        apply loopL_inr; unfold L_ref03_Shortest_1
        apply yes; simp [hz, i1, h32]
      simp only [s1, some_bind]; simp
    | false =>
      have s1 : loopL (L_ref03_Shortest_1 x.val) (vec [.int .i64 1]) = loopL (L_ref03_Shortest_1 x.val) (vec [.int .i64 2]) := by
        apply loopL_inl; unfold L_ref03_Shortest_1
        apply yes; simp [hz, i1, h32, w64 (a := 2) (by decide)]
      rw [s1]
      cases b64 with
      | true =>
        have s2 : loopL (L_ref03_Shortest_1 x.val) (vec [.int .i64 2]) = some (1, vec [.int .i64 64, .int .u64 (d64 : Int), .bool true]) := by
          apply loopL_inr; unfold L_ref03_Shortest_1
          apply yes; simp [hz, i2, h64]
        simp only [s2, some_bind]; simp
      | false =>
        have s2 : loopL (L_ref03_Shortest_1 x.val) (vec [.int .i64 2]) = loopL (L_ref03_Shortest_1 x.val) (vec [.int .i64 3]) := by
          apply loopL_inl; unfold L_ref03_Shortest_1
          apply yes; simp [hz, i2, h64, w64 (a := 3) (by decide)]
        have s3 : loopL (L_ref03_Shortest_1 x.val) (vec [.int .i64 3]) = some (0, vec []) := by
          apply loopL_inr; unfold L_ref03_Shortest_1
          apply yes; simp
        rw [s2, s3]
        simp only [some_bind]; simp
theorem limbs_copy (l : List Nat) (hl : l.length ≤ 1000000) : P0 f_law00_Limbs [.v (.sl (limbs l))] [] = some (.sl (limbs l), []) := by
  rw [eq_law00_Limbs]; unfold F_law00_Limbs
  have ha : appOk 4 0 l.length = true := app_ok _ _ _ (by omega) (by omega)
  apply yes
  simp only [tick_eq, asEl_limbs, some_bind, List.length_nil, limbs_len, ha, tst_t, List.nil_append]
  rw [Yes_some]
theorem num_copy (n : Nm) (hl : n.m.length ≤ 1000000) : P0 f_law00_Num [.v n.val] [] = some (n.val, []) := by
  rw [eq_law00_Num]; unfold F_law00_Num
  apply yes
  simp only [tick_eq, okN_nm, tst_t, fld_nm0, fld_nm1, fld_nm2, some_bind, limbs_copy n.m hl, okN_bool, okN_sl, okN_int, fld_bool, fld_sl, fld_int, okN_num, one_bool, one_sl, one_int, Bool.and_self]
  rw [Yes_some]; rfl
theorem all_ok (w : Int) (b : Nat) (a : Nm) (hb : b < 18446744073709551616) (hu : U32 a.m) :
    P0 f_law03_IeeeAll [.v (.int .i64 w), .v (.int .u64 (b : Int)), .v a.val] [] = some (.bool true, []) := by
  rw [eq_law03_IeeeAll]; unfold F_law03_IeeeAll
  apply yes
  by_cases hl : 95 < a.m.length
  · have c : (decide (((a.m.length : Nat) : Int) > 95)) = true := by simp; omega
    simp only [tick_eq, okN_nm, tst_t, fld_nm1, some_bind, lenV_sl, limbs_len, c, if_true, awake3]
    rw [Yes_some]
  have c : (decide (((a.m.length : Nat) : Int) > 95)) = false := by simp; omega
  have hl2 : a.m.length ≤ 1000 := by omega
  have hcopy := num_copy a (by omega)
  -- bits, at this width
  obtain ⟨kd, X, ok, k1, k2, x1, x2, xl⟩ : ∃ (kd : Int) (X : Nm) (ok : Bool), P0 f_ieee_Kind [.v (.int .i64 w), .v (.int .u64 (b : Int))] [] = some (.int .i64 kd, []) ∧ P0 f_ref03_Kind [.v (.int .i64 w), .v (.int .u64 (b : Int))] [] = some (.int .i64 kd, []) ∧
      P0 f_ieee_Exact [.v (.int .i64 w), .v (.int .u64 (b : Int))] [] = some (.tup [X.val, .bool ok], []) ∧ P0 f_ref03_Exact [.v (.int .i64 w), .v (.int .u64 (b : Int))] [] = some (.tup [X.val, .bool ok], []) ∧ X.m.length ≤ 1000000 := by
    by_cases hw : w ≠ 16 ∧ w ≠ 32 ∧ w ≠ 64
    · exact ⟨0, Nm.zero, false, kind_no hw _, rkind_no hw _, exact_no hw _, rexact_no hw _, by decide⟩
    · have hfm : ∃ ex fr, Fm w ex fr := by
        have : w = 16 ∨ w = 32 ∨ w = 64 := by omega
        rcases this with rfl | rfl | rfl
        · exact ⟨5, 10, .w16⟩
        · exact ⟨8, 23, .w32⟩
        · exact ⟨11, 52, .w64⟩
      obtain ⟨ex, fr, h⟩ := hfm
      by_cases hk : kindN ex (cutE ex fr b) (cutM fr b) = 1
      · obtain ⟨le, lm⟩ := @cut_lt ex fr b
        obtain ⟨q1, q2⟩ := kind_fin hk le
        have hM : bitsM fr (cutE ex fr b) (cutM fr b) ≠ 0 := by
          have := Nat.pow_pos (n := fr) (show 0 < 2 by decide)
          unfold bitsM; split <;> omega
        obtain ⟨⟨L, E, hn⟩, hx⟩ := exact_q h _ _ q1 lm q2 hM (cutN ex fr b)
        have hx := hx b hb rfl rfl rfl
        have hr := rexact_fin h b hb hk
        obtain ⟨hq, _⟩ := odd2_spec hM
        obtain ⟨m, hm1, hm2, _⟩ := num_facts hq hn
        rw [hn] at hx hr
        exact ⟨1, _, _, by rw [kind_ok h b hb, hk], by rw [rkind_ok h b hb, hk], hx, hr, by have := hm2.2.2.1; rw [hm1]; simp only; omega⟩
      · exact ⟨_, _, _, kind_ok h b hb, rkind_ok h b hb, exact_nf h b hb hk, rexact_nf h b hb hk, by decide⟩
  -- the number, at this width
  obtain ⟨d, t, t1, t2⟩ : ∃ (d : Nat) (t : Bool), P0 f_ieee_To [.v (.int .i64 w), .v a.val] [] = some (.tup [.int .u64 (d : Int), .bool t], []) ∧ P0 f_ref03_To [.v (.int .i64 w), .v a.val] [] = some (.tup [.int .u64 (d : Int), .bool t], []) := by
    by_cases hw : w ≠ 16 ∧ w ≠ 32 ∧ w ≠ 64
    · exact ⟨0, false, to_none hw a, rto_none hw a hu hl2⟩
    · have hfm : ∃ ex fr, Fm w ex fr := by
        have : w = 16 ∨ w = 32 ∨ w = 64 := by omega
        rcases this with rfl | rfl | rfl
        · exact ⟨5, 10, .w16⟩
        · exact ⟨8, 23, .w32⟩
        · exact ⟨11, 52, .w64⟩
      obtain ⟨ex, fr, h⟩ := hfm
      exact ⟨_, _, to_gen h a hu hl2, rto_ok h a hu hl2⟩
  obtain ⟨sw, sd, sb, s1, s2⟩ : ∃ (sw : Int) (sd : Nat) (sb : Bool), P0 f_ieee_Shortest [.v a.val] [] = some (.tup [.int .i64 sw, .int .u64 (sd : Int), .bool sb], []) ∧ P0 f_ref03_Shortest [.v a.val] [] = some (.tup [.int .i64 sw, .int .u64 (sd : Int), .bool sb], []) := by
    have h1 := shortest_ok a _ _ _ (to_gen .w16 a hu hl2) (to_gen .w32 a hu hl2) (to_gen .w64 a hu hl2)
    have h2 := rshortest_ok a _ _ _ (rto_ok .w16 a hu hl2) (rto_ok .w32 a hu hl2) (rto_ok .w64 a hu hl2)
    generalize (if okB a = true ∧ a.m ≠ [] then toR 5 10 a.neg (nval a.m) a.e else (0, true)) = r16 at *
    generalize (if okB a = true ∧ a.m ≠ [] then toR 8 23 a.neg (nval a.m) a.e else (0, true)) = r32 at *
    generalize (if okB a = true ∧ a.m ≠ [] then toR 11 52 a.neg (nval a.m) a.e else (0, true)) = r64 at *
    obtain ⟨d16, b16⟩ := r16
    obtain ⟨d32, b32⟩ := r32
    obtain ⟨d64, b64⟩ := r64
    cases b16
    · cases b32
      · cases b64
        · exact ⟨0, 0, false, h1, h2⟩
        · exact ⟨64, d64, true, h1, h2⟩
      · exact ⟨32, d32, true, h1, h2⟩
    · exact ⟨16, d16, true, h1, h2⟩
  have hs := samenum_ok X X xl
  simp only [and_self, decide_true] at hs
  simp only [tick_eq, okN_nm, tst_t, fld_nm1, some_bind, lenV_sl, limbs_len, c, Bool.false_eq_true, if_false, x1, x2, ext_tup, List.getElem?_cons_zero, List.getElem?_cons_succ, hcopy, t1, t2, s1, s2, asBool_b, beq_self_eq_true, if_true, hs, k1, k2, eql_i, decide_true, awake3]
  rw [Yes_some]
theorem ty_limbs {P : Program} {n : Nat} {e : TypeId} (hu : P.underlying e = some (.int .u32)) (xs : List (List V)) (h : ∀ x ∈ xs, Ty P n e x) : ∃ l : List Nat, U32 l ∧ xs.map (mkV P e) = limbs l := by
  induction xs with
  | nil => exact ⟨[], fun x hx => by simp at hx, rfl⟩
  | cons x r ih =>
    obtain ⟨l, h1, h2⟩ := ih (fun y hy => h y (by simp [hy]))
    obtain ⟨z, hz, ez⟩ := ty_int hu (h x (by simp))
    have hz : 0 ≤ z ∧ z ≤ 4294967295 := by simpa [Lit.wf, IntKind.min, IntKind.max, IntKind.signed, IntKind.bits] using hz
    refine ⟨z.toNat :: l, ?_, ?_⟩
    · intro y hy
      rcases List.mem_cons.1 hy with rfl | hy
      · unfold B32; omega
      · exact h1 y hy
    · rw [List.map_cons, ez, h2]
      show _ :: limbs l = V.int .u32 ((z.toNat : Nat) : Int) :: limbs l
      rw [show ((z.toNat : Nat) : Int) = z by omega]
/-- a number's cells -/
theorem ty_num {P : Program} {n : Nat} {t tb ts te ti : TypeId} {fs : Array Field} (hu : P.underlying t = some (.struct fs)) (hf : fs.toList.map (·.type) = [tb, ts, ti]) (hb : P.underlying tb = some .bool) (hs : P.underlying ts = some (.slice te)) (he : P.underlying te = some (.int .u32)) (hi : P.underlying ti = some (.int .i64))
    {xs : List V} (h : Ty P n t xs) : ∃ a : Nm, mkV P t xs = a.val ∧ U32 a.m := by
  cases n with
  | zero => exact h.elim
  | succ n =>
    unfold Ty at h
    rw [hu] at h
    simp only [hf, TyL] at h
    obtain ⟨x1, y1, h1, ⟨x2, y2, h2, ⟨x3, y3, h3, rfl, rfl⟩, rfl⟩, rfl⟩ := h
    have hm : mkV P t (x1 ++ (x2 ++ (x3 ++ []))) = .agg (x1 ++ (x2 ++ (x3 ++ []))) := by
      unfold mkV isAggT; rw [hu]
    rw [hm]
    cases n with
    | zero => exact h1.elim
    | succ n =>
      unfold Ty at h1 h2 h3
      rw [hb] at h1; rw [hs] at h2; rw [hi] at h3
      obtain ⟨b, rfl⟩ := h1
      obtain ⟨ys, _, hys, rfl⟩ := h2
      obtain ⟨z, _, rfl⟩ := h3
      obtain ⟨l, hl1, hl2⟩ := ty_limbs he ys hys
      rw [hl2]
      exact ⟨⟨b, l, z⟩, rfl, hl1⟩
theorem pure_IeeeAll {n0 n1 n2 : Nat} {xs ys zs : List V} (hx : Ty Go.Proofs.Try.prog n0 3 xs) (hy : Ty Go.Proofs.Try.prog n1 22 ys) (hz : Ty Go.Proofs.Try.prog n2 25 zs) :
    P0 f_law03_IeeeAll ([mkV Go.Proofs.Try.prog 3 xs, mkV Go.Proofs.Try.prog 22 ys, mkV Go.Proofs.Try.prog 25 zs].map .v) [] = some (.bool true, []) := by
  obtain ⟨z, _, ez⟩ := ty_int Go.Proofs.Try.underlying3 hx
  obtain ⟨w, hw, ew⟩ := ty_int Go.Proofs.Try.underlying22 hy
  obtain ⟨b, rfl, hb⟩ := wf_u64 hw
  obtain ⟨a, ea, ha⟩ := ty_num Go.Proofs.Try.underlying25 rfl Go.Proofs.Try.underlying4 Go.Proofs.Try.underlying23 Go.Proofs.Try.underlying45 Go.Proofs.Try.underlying3 hz
  rw [ez, ew, ea]
  exact all_ok z b a hb ha
end Go.Ev
