/- Numbers, part 3: small ones, numbers by a number, sameness. -/
import Derived.Test.YtineambfljmbgaaKSq2
set_option linter.all false
namespace Go.Ev
attribute [local irreducible] P0

theorem u32_wrap (v : Int) : ∃ x : Nat, IntKind.u32.wrap v = (x : Int) ∧ x < B32 := by
  refine ⟨(v % 4294967296).toNat, ?_, ?_⟩
  · rw [IntKind.wrap_u32]; omega
  · unfold B32; omega
theorem limbs_1 (a : Nat) : [V.int .u32 (a : Int)] = limbs [a] := rfl
theorem limbs_2 (a b : Nat) : [V.int .u32 (a : Int), V.int .u32 (b : Int)] = limbs [a, b] := rfl
theorem limbs_3 (a b c : Nat) : [V.int .u32 (a : Int), V.int .u32 (b : Int), V.int .u32 (c : Int)] = limbs [a, b, c] := rfl
theorem of_ok (v : Int) : ∃ n : Nm, P0 f_ref02_Of [.v (.int .i64 v)] [] = some (n.val, []) ∧ n.ok := by
  rw [eq_ref02_Of]; unfold F_ref02_Of
  have key : ∀ (u : Int), ∃ a b : Nat, IntKind.u32.wrap u = (a : Int) ∧ IntKind.u32.wrap (u.fdiv 4294967296) = (b : Int) ∧ a < B32 ∧ b < B32 := fun u => by
    obtain ⟨a, h1, h2⟩ := u32_wrap u
    obtain ⟨b, h3, h4⟩ := u32_wrap (u.fdiv 4294967296)
    exact ⟨a, b, h1, h3, h2, h4⟩
  have hp : (2 : Int) ^ Nat.min 32 (IntKind.bits .u64) = 4294967296 := by decide
  by_cases hv : v < 0
  · obtain ⟨a, b, ha, hb, ha2, hb2⟩ := key (IntKind.u64.wrap (0 - IntKind.u64.wrap v))
    obtain ⟨n, ok, h1, h2⟩ := make_ok true [a, b] 0 (by intro x hx; simp at hx; rcases hx with rfl | rfl <;> assumption) (by simp) (by decide)
    refine ⟨n, ?_, h2⟩
    have hv' : decide (v < 0) = true := by simp [hv]
    have ha' : IntKind.u32.wrap (IntKind.u64.wrap (-IntKind.u64.wrap v)) = a := by simpa using ha
    have hb' : IntKind.u32.wrap ((IntKind.u64.wrap (-IntKind.u64.wrap v)).fdiv 4294967296) = b := by simpa using hb
    apply yes; simp [hv, hv', shr_i, ha', hb', hp, limbs_2, h1]
  · obtain ⟨a, b, ha, hb, ha2, hb2⟩ := key (IntKind.u64.wrap v)
    obtain ⟨n, ok, h1, h2⟩ := make_ok false [a, b] 0 (by intro x hx; simp at hx; rcases hx with rfl | rfl <;> assumption) (by simp) (by decide)
    refine ⟨n, ?_, h2⟩
    have hv' : decide (v < 0) = false := by simp [hv]
    apply yes; simp [hv, hv', shr_i, ha, hb, hp, limbs_2, h1]
theorem number_ok (v : Int) (hv : 0 ≤ v) (hv2 : v < 1073741824) : ∃ n : Nm, P0 f_law00_number [.v (.int .i64 v)] [] = some (n.val, []) ∧ n.ok := by
  rw [eq_law00_number]; unfold F_law00_number
  have e5 : v.tmod 5 = v % 5 := Int.tmod_eq_emod_of_nonneg hv
  have q5 : v.tdiv 5 = v / 5 := Int.tdiv_eq_ediv_of_nonneg hv
  have q10 : v.tdiv 10 = v / 10 := Int.tdiv_eq_ediv_of_nonneg hv
  have q7 : v.tdiv 7 = v / 7 := Int.tdiv_eq_ediv_of_nonneg hv
  have q3 : v.tdiv 3 = v / 3 := Int.tdiv_eq_ediv_of_nonneg hv
  have w5 := w64 (a := v / 5) (by omega)
  have w10 := w64 (a := v / 10) (by omega)
  have w7 := w64 (a := v / 7) (by omega)
  have w3 := w64 (a := v / 3) (by omega)
  by_cases c0 : v % 5 = 0
  · obtain ⟨n, h1, h2⟩ := of_ok (IntKind.i64.wrap ((v / 5).tmod 60 - 20))
    exact ⟨n, by apply yes; simp [rem_i, quo_i, e5, q5, w5, c0, h1], h2⟩
  by_cases c1 : v % 5 = 1
  · obtain ⟨x, hx1, hx2⟩ := u32_wrap ((v / 10).tmod 2000)
    have t9 : (v / 7).tmod 9 = (v / 7) % 9 := Int.tmod_eq_emod_of_nonneg (by omega)
    obtain ⟨n, ok, h1, h2⟩ := make_ok (decide ((v / 5).tmod 2 = 1)) [x] ((v / 7) % 9 - 5) (by intro y hy; simp at hy; rw [hy]; exact hx2) (by simp) (by omega)
    have w9 := w64 (a := (v / 7) % 9 - 5) (by omega)
    refine ⟨n, ?_, h2⟩
    apply yes; simp [rem_i, quo_i, e5, q5, q10, q7, w5, w10, w7, c0, c1, hx1, t9, w9, limbs_1, h1]
  by_cases c2 : v % 5 = 2
  · obtain ⟨x, hx1, hx2⟩ := u32_wrap v
    obtain ⟨y, hy1, hy2⟩ := u32_wrap (v / 3)
    obtain ⟨z, hz1, hz2⟩ := u32_wrap (v.tmod 7)
    obtain ⟨n, ok, h1, h2⟩ := make_ok false [x, y, z] 0 (by intro w hw; simp at hw; rcases hw with rfl | rfl | rfl <;> assumption) (by simp) (by decide)
    refine ⟨n, ?_, h2⟩
    apply yes; simp [rem_i, quo_i, e5, q3, w3, c0, c1, c2, hx1, hy1, hz1, limbs_3, h1]
  by_cases c3 : v % 5 = 3
  · obtain ⟨x, hx1, hx2⟩ := u32_wrap v
    have t30 : (v / 5).tmod 30 = (v / 5) % 30 := Int.tmod_eq_emod_of_nonneg (by omega)
    obtain ⟨n, ok, h1, h2⟩ := make_ok (decide (v.tmod 2 = 1)) [5, x] (-((v / 5) % 30)) (by intro y hy; simp at hy; rcases hy with rfl | rfl <;> first | decide | exact hx2) (by simp) (by omega)
    have w9 := w64 (a := -((v / 5) % 30)) (by omega)
    have l2 : [V.int .u32 5, V.int .u32 (x : Int)] = limbs [5, x] := rfl
    refine ⟨n, ?_, h2⟩
    apply yes; simp [rem_i, quo_i, e5, q5, w5, c0, c1, c2, c3, hx1, t30, w9, l2, h1]
  · obtain ⟨n, h1, h2⟩ := of_ok v
    exact ⟨n, by apply yes; simp [rem_i, e5, c0, c1, c2, c3, h1], h2⟩

theorem check_ok (n : Nm) (h : n.ok) : P0 f_ref02_Check [.v n.val] [] = some (.bool true, []) := by
  rw [eq_ref02_Check]; unfold F_ref02_Check
  rcases h with ⟨h1, h2, h3⟩ | ⟨h1, h2, h3, h4, h5, h6, h7⟩
  · apply yes; simp [h1, h2, h3]
  · have hlen : 0 < n.m.length := by cases hm : n.m <;> simp_all
    have e1 : ¬ ((90 : Int) < (n.m.length : Int)) ∧ (n.m.length : Int) ≤ 90 := by omega
    have e2 := w64 (a := (n.m.length : Int) - 1) (by omega)
    have e3 := idx_i .i64 ((n.m.length : Int) - 1) n.m.length (by omega)
    have e4 : ((n.m.length : Int) - 1).toNat = n.m.length - 1 := by omega
    have e5 : n.m[n.m.length - 1] ≠ 0 := by
      intro h; apply h4; rw [List.getElem?_eq_getElem (by omega), h]
    have e6 : ¬ (n.e < -1200) ∧ -1200 ≤ n.e := by omega
    have e7 : ¬ (1200 < n.e) ∧ n.e ≤ 1200 := by omega
    have hs : P0 f_ref01_Small [.v (.sl (limbs n.m)), .v (.int .u32 10)] [] = _ := small_ok n.m 10 (by decide) (by decide) (by omega) h2
    have e8 : n.m.length - 1 < n.m.length := by omega
    apply yes; simp [h1, e1, e2, e3, e4, e5, e6, e7, e8, hs, h7]
theorem is_ok (n : Nm) (h : n.ok) : P0 f_ref02_Is [.v n.val] [] = some (n.val, []) := by
  rw [eq_ref02_Is]; unfold F_ref02_Is
  apply yes; simp [check_ok n h]
def cmpL (a b : List Nat) : Nat → Int
  | 0 => 0
  | n + 1 => if a[n]?.getD 0 < b[n]?.getD 0 then -1 else if b[n]?.getD 0 < a[n]?.getD 0 then 1 else cmpL a b n
theorem cmp_loop (a b : List Nat) (ha : a.length ≤ 1000000) (hb : b.length ≤ 1000000) (hua : U32 a) (hub : U32 b) (n : Nat) (hn : n ≤ 1000000) :
    ∃ j xs, loopL (L_ref01_Cmp_1 (.sl (limbs a)) (.sl (limbs b))) (vec [.int .i64 ((n : Int) - 1)]) = some (j, xs) ∧ (if j = 0 then V.int .i64 0 else xs 0) = .int .i64 (cmpL a b n) := by
  induction n with
  | zero =>
    refine ⟨0, vec [], ?_, rfl⟩
    apply loopL_inr
    unfold L_ref01_Cmp_1
    apply yes; simp
  | succ n ih =>
    obtain ⟨j, xs, h1, h2⟩ := ih (by omega)
    have e1 : ((n + 1 : Nat) : Int) - 1 = n := by omega
    have e2 : (0 : Int) ≤ n := by omega
    rw [e1]
    have l1 := limb_ok a n ha hua
    have l2 := limb_ok b n hb hub
    have w := w64 (a := (n : Int) - 1) (by omega)
    simp only [cmpL]
    by_cases c1 : a[n]?.getD 0 < b[n]?.getD 0
    · refine ⟨1, vec [.int .i64 (-1)], ?_, by simp [c1]⟩
      apply loopL_inr
      unfold L_ref01_Cmp_1
      apply yes; simp [l1, l2, e2, c1]
    by_cases c2 : b[n]?.getD 0 < a[n]?.getD 0
    · refine ⟨1, vec [.int .i64 1], ?_, by simp [c1, c2]⟩
      apply loopL_inr
      unfold L_ref01_Cmp_1
      apply yes; simp [l1, l2, e2, c1, c2]
    · refine ⟨j, xs, ?_, by rw [h2, if_neg c1, if_neg c2]⟩
      rw [← h1]
      apply loopL_inl
      unfold L_ref01_Cmp_1
      apply yes; simp [l1, l2, e2, c1, c2, w]
theorem cmp_ok (a b : List Nat) (ha : a.length ≤ 1000000) (hb : b.length ≤ 1000000) (hua : U32 a) (hub : U32 b) :
    P0 f_ref01_Cmp [.v (.sl (limbs a)), .v (.sl (limbs b))] [] = some (.int .i64 (cmpL a b (max a.length b.length)), []) := by
  rw [eq_ref01_Cmp]; unfold F_ref01_Cmp
  obtain ⟨j, xs, h1, h2⟩ := cmp_loop a b ha hb hua hub (max a.length b.length) (by omega)
  have e : maxV (.int .i64 (a.length : Int)) [.int .i64 (b.length : Int)] = some (.int .i64 ((max a.length b.length : Nat) : Int)) := by
    simp only [maxV, if_pos]; congr 2; split <;> omega
  have w := w64 (a := ((max a.length b.length : Nat) : Int) - 1) (by omega)
  simp only [lenV_sl, some_bind, limbs_len, e, sub_i, w, h1]
  rw [← h2]
  by_cases hj : j = 0 <;> simp [hj]
theorem cmpL_zero (a b : List Nat) (n : Nat) : cmpL a b n = 0 ↔ ∀ i, i < n → a[i]?.getD 0 = b[i]?.getD 0 := by
  induction n with
  | zero => simp [cmpL]
  | succ n ih =>
    simp only [cmpL]
    by_cases c1 : a[n]?.getD 0 < b[n]?.getD 0
    · rw [if_pos c1]
      constructor
      · intro h; exact absurd h (by decide)
      · intro h; have := h n (by omega); omega
    by_cases c2 : b[n]?.getD 0 < a[n]?.getD 0
    · rw [if_neg c1, if_pos c2]
      constructor
      · intro h; exact absurd h (by decide)
      · intro h; have := h n (by omega); omega
    · rw [if_neg c1, if_neg c2, ih]
      constructor
      · intro h i hi
        rcases Nat.lt_or_ge i n with h' | h'
        · exact h i h'
        · have : i = n := by omega
          subst this; omega
      · intro h i hi; exact h i (by omega)
theorem nrm_eq {a b : List Nat} (ha : Nrm a) (hb : Nrm b) (h : ∀ i, i < max a.length b.length → a[i]?.getD 0 = b[i]?.getD 0) : a = b := by
  have key : ∀ {a b : List Nat}, Nrm b → (∀ i, i < max a.length b.length → a[i]?.getD 0 = b[i]?.getD 0) → b.length ≤ a.length := fun {a b} hb h => by
    rcases Nat.lt_or_ge a.length b.length with h' | h'
    · exfalso
      have := h (b.length - 1) (by omega)
      rw [List.getElem?_eq_none (by omega), List.getElem?_eq_getElem (by omega)] at this
      apply hb
      rw [List.getElem?_eq_getElem (by omega)]
      simpa using this.symm
    · exact h'
  have hl : a.length = b.length := Nat.le_antisymm (key ha (fun i hi => (h i (by omega)).symm)) (key hb h)
  apply List.ext_getElem hl
  intro i h1 h2
  have := h i (by omega)
  rw [List.getElem?_eq_getElem h1, List.getElem?_eq_getElem h2] at this
  simpa using this
instance : DecidableEq Nm := fun a b => by
  cases a; cases b
  simp only [Nm.mk.injEq]
  infer_instance
theorem nm_u32 {n : Nm} (h : n.ok) : U32 n.m ∧ Nrm n.m ∧ n.m.length ≤ 90 := by
  rcases h with ⟨h1, _⟩ | ⟨_, h2, h3, h4, _⟩
  · rw [h1]; exact ⟨fun x hx => by simp at hx, by simp [Nrm], by simp⟩
  · exact ⟨h2, h4, h3⟩
theorem nsame_ok (a b : Nm) (ha : a.ok) (hb : b.ok) : P0 f_ref02_Same [.v a.val, .v b.val] [] = some (.bool (decide (a = b)), []) := by
  rw [eq_ref02_Same]; unfold F_ref02_Same
  obtain ⟨a1, a2, a3⟩ := nm_u32 ha
  obtain ⟨b1, b2, b3⟩ := nm_u32 hb
  have hc := cmp_ok a.m b.m (by omega) (by omega) a1 b1
  have heq : a = b ↔ a.neg = b.neg ∧ a.e = b.e ∧ cmpL a.m b.m (max a.m.length b.m.length) = 0 := by
    constructor
    · rintro rfl; exact ⟨rfl, rfl, (cmpL_zero _ _ _).2 fun i _ => rfl⟩
    · rintro ⟨h1, h2, h3⟩
      have := nrm_eq a2 b2 ((cmpL_zero _ _ _).1 h3)
      cases a; cases b; simp_all
  by_cases c1 : a.neg = b.neg
  · by_cases c2 : a.e = b.e
    · apply yes; simp [is_ok a ha, is_ok b hb, c1, c2, hc, heq]
    · apply yes; simp [is_ok a ha, is_ok b hb, c1, c2, heq]
  · apply yes; simp [is_ok a ha, is_ok b hb, c1, heq]
end Go.Ev
