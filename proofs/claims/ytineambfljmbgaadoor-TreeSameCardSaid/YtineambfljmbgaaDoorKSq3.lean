/- Numbers, part 3: small ones, numbers by a number, sameness. -/
import Derived.Test.YtineambfljmbgaaDoorKSq2
set_option linter.all false
namespace Go.Ev
attribute [local irreducible] P0

theorem u32_wrap (v : Int) : ∃ x : Nat, IntKind.u32.wrap v = (x : Int) ∧ x < B32 := by
  refine ⟨(v % 4294967296).toNat, ?_, ?_⟩
  · rw [IntKind.wrap_u32]; omega
  · unfold B32; omega
theorem limbs_1 (a : Nat) : [V.int .u32 (a : Int)] = limbs [a] := rfl
theorem limbs_2 (a b : Nat) : [V.int .u32 (a : Int), V.int .u32 (b : Int)] = limbs [a, b] := rfl
theorem limbs_3 (a b c : Nat) : [V.int .u32 (a : Int), V.int .u32 (b : Int), V.int .u32 (c : Int)] = limbs [a, b, c] := rfl
theorem of_ok (v : Int) : ∃ n : Nm, P0 f_ref02_Of [.v (.int .i64 v)] [] = some (n.val, []) ∧ n.ok := by
  rw [eq_ref02_Of]; unfold F_ref02_Of
  have key : ∀ (u : Int), ∃ a b : Nat, IntKind.u32.wrap u = (a : Int) ∧ IntKind.u32.wrap (u.fdiv 4294967296) = (b : Int) ∧ a < B32 ∧ b < B32 := fun u => by
    obtain ⟨a, h1, h2⟩ := u32_wrap u
    obtain ⟨b, h3, h4⟩ := u32_wrap (u.fdiv 4294967296)
    exact ⟨a, b, h1, h3, h2, h4⟩
  have hp : (2 : Int) ^ Nat.min 32 (IntKind.bits .u64) = 4294967296 := by decide
  by_cases hv : v < 0
  · obtain ⟨a, b, ha, hb, ha2, hb2⟩ := key (IntKind.u64.wrap (0 - IntKind.u64.wrap v))
    obtain ⟨n, ok, h1, h2⟩ := make_ok true [a, b] 0 (by intro x hx; simp at hx; rcases hx with rfl | rfl <;> assumption) (by simp) (by decide)
    refine ⟨n, ?_, h2⟩
    have hv' : decide (v < 0) = true := by simp [hv]
    have ha' : IntKind.u32.wrap (IntKind.u64.wrap (-IntKind.u64.wrap v)) = a := by simpa using ha
    have hb' : IntKind.u32.wrap ((IntKind.u64.wrap (-IntKind.u64.wrap v)).fdiv 4294967296) = b := by simpa using hb
    apply yes; simp [hv, hv', shr_i, ha', hb', hp, limbs_2, h1]
  · obtain ⟨a, b, ha, hb, ha2, hb2⟩ := key (IntKind.u64.wrap v)
    obtain ⟨n, ok, h1, h2⟩ := make_ok false [a, b] 0 (by intro x hx; simp at hx; rcases hx with rfl | rfl <;> assumption) (by simp) (by decide)
    refine ⟨n, ?_, h2⟩
    have hv' : decide (v < 0) = false := by simp [hv]
    apply yes; simp [hv, hv', shr_i, ha, hb, hp, limbs_2, h1]
theorem number_ok (v : Int) (hv : 0 ≤ v) (hv2 : v < 1073741824) : ∃ n : Nm, P0 f_law00_number [.v (.int .i64 v)] [] = some (n.val, []) ∧ n.ok := by
  rw [eq_law00_number]; unfold F_law00_number
  have e5 : v.tmod 5 = v % 5 := Int.tmod_eq_emod_of_nonneg hv
  have q5 : v.tdiv 5 = v / 5 := Int.tdiv_eq_ediv_of_nonneg hv
  have q10 : v.tdiv 10 = v / 10 := Int.tdiv_eq_ediv_of_nonneg hv
  have q7 : v.tdiv 7 = v / 7 := Int.tdiv_eq_ediv_of_nonneg hv
  have q3 : v.tdiv 3 = v / 3 := Int.tdiv_eq_ediv_of_nonneg hv
  have w5 := w64 (a := v / 5) (by omega)
  have w10 := w64 (a := v / 10) (by omega)
  have w7 := w64 (a := v / 7) (by omega)
  have w3 := w64 (a := v / 3) (by omega)
  by_cases c0 : v % 5 = 0
  · obtain ⟨n, h1, h2⟩ := of_ok (IntKind.i64.wrap ((v / 5).tmod 60 - 20))
    exact ⟨n, by apply yes; simp [rem_i, quo_i, e5, q5, w5, c0, h1], h2⟩
  by_cases c1 : v % 5 = 1
  · obtain ⟨x, hx1, hx2⟩ := u32_wrap ((v / 10).tmod 2000)
    have t9 : (v / 7).tmod 9 = (v / 7) % 9 := Int.tmod_eq_emod_of_nonneg (by omega)
    obtain ⟨n, ok, h1, h2⟩ := make_ok (decide ((v / 5).tmod 2 = 1)) [x] ((v / 7) % 9 - 5) (by intro y hy; simp at hy; rw [hy]; exact hx2) (by simp) (by omega)
    have w9 := w64 (a := (v / 7) % 9 - 5) (by omega)
    refine ⟨n, ?_, h2⟩
    apply yes; simp [rem_i, quo_i, e5, q5, q10, q7, w5, w10, w7, c0, c1, hx1, t9, w9, limbs_1, h1]
  by_cases c2 : v % 5 = 2
  · obtain ⟨x, hx1, hx2⟩ := u32_wrap v
    obtain ⟨y, hy1, hy2⟩ := u32_wrap (v / 3)
    obtain ⟨z, hz1, hz2⟩ := u32_wrap (v.tmod 7)
    obtain ⟨n, ok, h1, h2⟩ := make_ok false [x, y, z] 0 (by intro w hw; simp at hw; rcases hw with rfl | rfl | rfl <;> assumption) (by simp) (by decide)
    refine ⟨n, ?_, h2⟩
    apply yes; simp [rem_i, quo_i, e5, q3, w3, c0, c1, c2, hx1, hy1, hz1, limbs_3, h1]
  by_cases c3 : v % 5 = 3
  · obtain ⟨x, hx1, hx2⟩ := u32_wrap v
    have t30 : (v / 5).tmod 30 = (v / 5) % 30 := Int.tmod_eq_emod_of_nonneg (by omega)
    obtain ⟨n, ok, h1, h2⟩ := make_ok (decide (v.tmod 2 = 1)) [5, x] (-((v / 5) % 30)) (by intro y hy; simp at hy; rcases hy with rfl | rfl <;> first | decide | exact hx2) (by simp) (by omega)
    have w9 := w64 (a := -((v / 5) % 30)) (by omega)
    have l2 : [V.int .u32 5, V.int .u32 (x : Int)] = limbs [5, x] := rfl
    refine ⟨n, ?_, h2⟩
    apply yes; simp [rem_i, quo_i, e5, q5, w5, c0, c1, c2, c3, hx1, t30, w9, l2, h1]
  · obtain ⟨n, h1, h2⟩ := of_ok v
    exact ⟨n, by apply yes; simp [rem_i, e5, c0, c1, c2, c3, h1], h2⟩

instance : DecidableEq Nm := fun a b => by
  cases a; cases b
  simp only [Nm.mk.injEq]
  infer_instance
theorem nm_u32 {n : Nm} (h : n.ok) : U32 n.m ∧ Nrm n.m ∧ n.m.length ≤ 90 := by
  rcases h with ⟨h1, _⟩ | ⟨_, h2, h3, h4, _⟩
  · rw [h1]; exact ⟨fun x hx => by simp at hx, by simp [Nrm], by simp⟩
  · exact ⟨h2, h4, h3⟩
end Go.Ev
