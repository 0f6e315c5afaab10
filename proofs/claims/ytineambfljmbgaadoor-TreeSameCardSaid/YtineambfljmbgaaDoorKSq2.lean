/- Numbers, part 2: what is made is valid; sameness. -/
import Derived.Test.YtineambfljmbgaaDoorKSq1
import Derived.Test.YtineambfljmbgaaDoorKSp
set_option linter.all false
namespace Go.Ev
attribute [local irreducible] P0
theorem trim_loop (m : Nat) : ∀ (l : List Nat) (k : Nat), U32 l → Nrm l → l.length ≤ 1000000 → nval l < 10 ^ m → k + m ≤ 1000000000 →
    ∃ (l' : List Nat) (k' : Nat), loopL L_ref01_Trim_1 (vec [.sl (limbs l), .int .i64 (k : Int)]) = some (0, vec [.sl (limbs l'), .int .i64 (k' : Int)]) ∧ U32 l' ∧ Nrm l' ∧ l'.length ≤ l.length ∧ (l' = [] ∨ (small 10 l').2 ≠ 0) ∧ k' ≤ k + m := by
  induction m with
  | zero =>
    intro l k hu hn hl hv hk
    have : l = [] := nrm_nil hn (by simpa using hv)
    subst this
    refine ⟨[], k, ?_, hu, hn, by simp, .inl rfl, by omega⟩
    apply loopL_inr
    unfold L_ref01_Trim_1
    simp [limbs]
  | succ m ih =>
    intro l k hu hn hl hv hk
    by_cases h0 : l = []
    · subst h0
      refine ⟨[], k, ?_, hu, hn, by simp, .inl rfl, by omega⟩
      apply loopL_inr
      unfold L_ref01_Trim_1
      simp [limbs]
    · have hlen : 0 < l.length := by cases l <;> simp_all
      have hlen' : (0 : Int) < (l.length : Int) := by omega
      have hs := small_ok l 10 (by decide) (by decide) hl hu
      by_cases hr : (small 10 l).2 = 0
      · obtain ⟨hv1, hv2⟩ := small_val 10 (by decide) l
        obtain ⟨l', k', h1, h2, h3, h4, h5, h6⟩ := ih (norm (small 10 l).1) (k + 1) (norm_u32 (small_u32 10 (by decide) l hu)) (norm_nrm _) (by have := norm_le (small 10 l).1; rw [small_len] at this; omega)
          (by rw [nval_norm, hv1, Nat.div_lt_iff_lt_mul (by decide)]; rw [Nat.pow_succ] at hv; exact hv) (by omega)
        refine ⟨l', k', ?_, h2, h3, by have := norm_le (small 10 l).1; rw [small_len] at this; omega, h5, by omega⟩
        rw [← h1]
        apply loopL_inl
        unfold L_ref01_Trim_1
        have hw := w64 (a := (k : Int) + 1) (by omega)
        have hs' : P0 f_ref01_Small [.v (.sl (limbs l)), .v (.int .u32 10)] [] = _ := hs
        simp only [vec_0, vec_s, lenV_sl, some_bind, limbs_len, gt_iff_lt, hlen', decide_true, if_pos, hs', ext_tup, hr]
        simp [hw]
      · refine ⟨l, k, ?_, hu, hn, Nat.le_refl _, .inr hr, by omega⟩
        apply loopL_inr
        unfold L_ref01_Trim_1
        have hs' : P0 f_ref01_Small [.v (.sl (limbs l)), .v (.int .u32 10)] [] = _ := hs
        simp only [vec_0, vec_s, lenV_sl, some_bind, limbs_len, gt_iff_lt, hlen', decide_true, if_pos, hs', ext_tup]
        simp [hr]
theorem trim_ok (l : List Nat) (hu : U32 l) (hl : l.length ≤ 100000) :
    ∃ (l' : List Nat) (k' : Nat), P0 f_ref01_Trim [.v (.sl (limbs l))] [] = some (.tup [.sl (limbs l'), .int .i64 (k' : Int)], []) ∧ U32 l' ∧ Nrm l' ∧ l'.length ≤ l.length ∧ (l' = [] ∨ (small 10 l').2 ≠ 0) ∧ k' ≤ 10 * l.length := by
  have hle := norm_le l
  obtain ⟨l', k', h1, h2, h3, h4, h5, h6⟩ := trim_loop (10 * l.length) (norm l) 0 (norm_u32 hu) (norm_nrm l) (by omega) (by rw [nval_norm]; exact nval_lt l hu) (by omega)
  refine ⟨l', k', ?_, h2, h3, by omega, h5, by omega⟩
  rw [eq_ref01_Trim]; unfold F_ref01_Trim
  simp only [norm_ok l (by omega), some_bind]
  rw [show ((0 : Nat) : Int) = 0 from rfl] at h1
  rw [h1]; rfl

theorem Nm.zero_ok : Nm.zero.ok := .inl ⟨rfl, rfl, rfl⟩
theorem zero_val : V.agg [.bool false, .sl [], .int .i64 0] = Nm.zero.val := rfl
theorem make_ok (neg : Bool) (m : List Nat) (e : Int) (hu : U32 m) (hm : m.length ≤ 90) (he : -1000000 ≤ e ∧ e ≤ 1000000) :
    ∃ (n : Nm) (b : Bool), P0 f_ref02_Make [.v (.bool neg), .v (.sl (limbs m)), .v (.int .i64 e)] [] = some (.tup [n.val, .bool b], []) ∧ n.ok := by
  obtain ⟨l, k, h1, h2, h3, h4, h5, h6⟩ := trim_ok m hu (by omega)
  rw [eq_ref02_Make]; unfold F_ref02_Make
  by_cases h0 : l = []
  · subst h0
    exact ⟨Nm.zero, true, by apply yes; simp [h1, ← zero_val], Nm.zero_ok⟩
  · have hlen : l.length ≠ 0 := by cases l <;> simp_all
    by_cases hin : -1200 ≤ e + k ∧ e + k ≤ 1200
    · refine ⟨⟨neg, l, e + k⟩, true, ?_, .inr ⟨h0, h2, by simp; omega, h3, hin.1, hin.2, ?_⟩⟩
      · have e1 : ¬ ((90 : Int) < (l.length : Int)) ∧ (l.length : Int) ≤ 90 := by omega
        have e2 : ¬ (e < -1099511627776) ∧ -1099511627776 ≤ e := by omega
        have e3 : ¬ (1099511627776 < e) ∧ e ≤ 1099511627776 := by omega
        have e4 : ¬ (1099511627776 < (k : Int)) ∧ (k : Int) ≤ 1099511627776 := by omega
        have e5 : ¬ (e + k < -1200) ∧ -1200 ≤ e + k := by omega
        have e6 : ¬ (1200 < e + k) ∧ e + k ≤ 1200 := by omega
        have e7 := w64 (a := e + k) (by omega)
        apply yes; simp [h1, h0, e1, e2, e3, e4, e5, e6, e7, Nm.val]
      · rcases h5 with h5 | h5
        · exact (h0 h5).elim
        · exact h5
    · refine ⟨Nm.zero, false, ?_, Nm.zero_ok⟩
      have e1 : ¬ ((90 : Int) < (l.length : Int)) ∧ (l.length : Int) ≤ 90 := by omega
      have e2 : ¬ (e < -1099511627776) ∧ -1099511627776 ≤ e := by omega
      have e3 : ¬ (1099511627776 < e) ∧ e ≤ 1099511627776 := by omega
      have e4 : ¬ (1099511627776 < (k : Int)) ∧ (k : Int) ≤ 1099511627776 := by omega
      have e7 := w64 (a := e + k) (by omega)
      by_cases e5 : e + k < -1200
      · apply yes; simp [h1, h0, e1, e2, e3, e4, e5, e7, ← zero_val]
      · have e6 : 1200 < e + k := by omega
        apply yes; simp [h1, h0, e1, e2, e3, e4, e5, e6, e7, ← zero_val]
end Go.Ev
