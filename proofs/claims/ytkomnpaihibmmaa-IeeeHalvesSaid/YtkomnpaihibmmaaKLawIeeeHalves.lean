/- The law law03.IeeeHalves: whatever the input, the call returns true, and the input reads as it did. -/
import Derived.Test.YtkomnpaihibmmaaRows
import Derived.Test.YtkomnpaihibmmaaKEnv
import Derived.Test.YtkomnpaihibmmaaKSxIeeeHalves
import Derived.WalkKit
import Derived.ProofKit
import Derived.OpenShut
import Derived.ShutString
import Derived.ChangeOld
import Derived.Below
set_option linter.all false
namespace Go.Proofs.Ytkomnpaihibmmaa.ieeeHalves
open Go.ChangeShapes Go.WideShapes Go.ChangeAt Go.RowKit Go.Ev
set_option linter.unusedVariables false
theorem own : ownKnob Try.prog.godebug = none := by kernel_rfl
theorem laidOut : laidOutB Try.prog = true := by kernel_rfl
theorem closed : closedT Try.prog [3, 4] = true := by kernel_rfl
theorem tiok : TiOk Try.prog (tiOf Try.prog) := fun t i h => h
theorem glr : GlR E0 gl0 := fun n v h => by simp [gl0] at h
theorem mixed : Try.prog.follows .mixedOrders = true := by kernel_rfl
theorem tabOk : TabOk E0 tab0 := by
  intro f fn h
  unfold tab0 at h
  split at h <;> first | (injection h with h; subst h; exact ⟨rfl, _, rfl⟩) | cases h
set_option maxRecDepth 100000 in
theorem lifted (os : Os) (started : os.Started) (H : Type) (enc : TypeId × Value → H) :
    ReturnsInHanded {} Try.checked os 6 .any (Rows.ieeeHalvesSpec.pre6 enc Try.prog Try.f6 Rows.ieeeHalvesRow.domain false) (Rows.ieeeHalvesSpec.post enc Try.prog Try.f6 false true false false) := by
  refine returnsInHanded_of_change (C := Try.checked) own started (by kernel_rfl) Try.func6
    (ChangeSpec.witness6 (enc := enc) (C := Try.checked) false ⟨#[], #[.int .i64 0, .int .i64 0, .int .i64 0, .bool false], []⟩ 8 (by kernel_rfl) (by kernel_rfl) (by kernel_rfl) (by kernel_rfl)) ?_
  intro W base args ds gs before hval0 hW hcnd _
  have hval : ∀ (j : Nat) t v, Try.f6.params[j]? = some t → args[j]? = some v → Value.okWide Try.prog W .any base t v := hval0
  have hW' := hW
  obtain ⟨p, q, hA0, hV, rfl, hfz, hnd⟩ := hW
  have hA : DataW.TrodAll enc Try.prog W 0 (fun _ => true) true Try.f6.params.toList args.toList ds p := hA0
  rw [Try.params6] at hA hval
  obtain ⟨v0, vs0, d0, ds0, p0, q0, hargs, rfl, rfl, h0, r0⟩ := trodAll_cons hA
  obtain ⟨v1, vs1, d1, ds1, p1, q1, rfl, rfl, rfl, h1, r1⟩ := trodAll_cons r0
  obtain ⟨v2, vs2, d2, ds2, p2, q2, rfl, rfl, rfl, h2, r2⟩ := trodAll_cons r1
  obtain ⟨v3, vs3, d3, ds3, p3, q3, rfl, rfl, rfl, h3, r3⟩ := trodAll_cons r2
  obtain ⟨rfl, rfl, rfl⟩ := trodAll_nil r3
  obtain rfl : args = #[v0, v1, v2, v3] := by cases args; simp_all
  obtain ⟨rfl, rfl⟩ := trodVars_none hV
  have k0 := h0
  have lt0 : ∀ x ∈ p0, x.block < W.heap.size := by obtain ⟨m, hm⟩ := k0; exact DataW.trod_lt m _ _ _ hm
  obtain ⟨n0, hx0⟩ := h0
  obtain ⟨xs0, o0⟩ := opens closed _ _ _ _ (by simp) hx0
  obtain ⟨a0, rfl⟩ := okWide_int Try.underlying3 (hval 0 3 v0 rfl rfl)
  have hag0 : isAggT Try.prog 3 = false := by kernel_rfl
  have hc0 : Try.prog.cellsOf 3 = 1 := by kernel_rfl
  have g0 := o0.arg (fun h => by rw [hag0] at h; cases h) (.inr ⟨hc0, fun a h => by cases h⟩)
  have k1 := h1
  have lt1 : ∀ x ∈ p1, x.block < W.heap.size := by obtain ⟨m, hm⟩ := k1; exact DataW.trod_lt m _ _ _ hm
  obtain ⟨n1, hx1⟩ := h1
  obtain ⟨xs1, o1⟩ := opens closed _ _ _ _ (by simp) hx1
  obtain ⟨a1, rfl⟩ := okWide_int Try.underlying3 (hval 1 3 v1 rfl rfl)
  have hag1 : isAggT Try.prog 3 = false := by kernel_rfl
  have hc1 : Try.prog.cellsOf 3 = 1 := by kernel_rfl
  have g1 := o1.arg (fun h => by rw [hag1] at h; cases h) (.inr ⟨hc1, fun a h => by cases h⟩)
  have k2 := h2
  have lt2 : ∀ x ∈ p2, x.block < W.heap.size := by obtain ⟨m, hm⟩ := k2; exact DataW.trod_lt m _ _ _ hm
  obtain ⟨n2, hx2⟩ := h2
  obtain ⟨xs2, o2⟩ := opens closed _ _ _ _ (by simp) hx2
  obtain ⟨a2, rfl⟩ := okWide_int Try.underlying3 (hval 2 3 v2 rfl rfl)
  have hag2 : isAggT Try.prog 3 = false := by kernel_rfl
  have hc2 : Try.prog.cellsOf 3 = 1 := by kernel_rfl
  have g2 := o2.arg (fun h => by rw [hag2] at h; cases h) (.inr ⟨hc2, fun a h => by cases h⟩)
  have k3 := h3
  have lt3 : ∀ x ∈ p3, x.block < W.heap.size := by obtain ⟨m, hm⟩ := k3; exact DataW.trod_lt m _ _ _ hm
  obtain ⟨n3, hx3⟩ := h3
  obtain ⟨xs3, o3⟩ := opens closed _ _ _ _ (by simp) hx3
  obtain ⟨a3, rfl⟩ := okWide_bool Try.underlying4 (hval 3 4 v3 rfl rfl)
  have hag3 : isAggT Try.prog 4 = false := by kernel_rfl
  have hc3 : Try.prog.cellsOf 4 = 1 := by kernel_rfl
  have g3 := o3.arg (fun h => by rw [hag3] at h; cases h) (.inr ⟨hc3, fun a h => by cases h⟩)
  clear hA0 hval0
  obtain ⟨st', hst⟩ := law_pv (xs := [mkV Try.prog 3 xs0, mkV Try.prog 3 xs1, mkV Try.prog 3 xs2, mkV Try.prog 4 xs3]) (r := .bool true) glr tabOk (pure_IeeeHalves o0.1 o1.1 o2.1 o3.1)
  refine (law_walk tiok mixed envOk (f := 6) rfl (fn := n_law03_IeeeHalves) rfl (RepL.cons g0 (RepL.cons g1 (RepL.cons g2 (RepL.cons g3 (RepL.nil _))))) (fun n ds h => by simp [E0] at h) hst).mono fun e W' ⟨he, bel⟩ => ?_
  subst he
  exact ⟨_, rfl, _, _, _, [], _, [], hW', trodAll_mk1 (shut_bool Try.underlying4 _), (trodAll_cons_mk (Below.trod laidOut (by kernel_rfl) (of_decide_eq_true (by kernel_rfl)) k0 bel lt0) (trodAll_cons_mk (Below.trod laidOut (by kernel_rfl) (of_decide_eq_true (by kernel_rfl)) k1 bel lt1) (trodAll_cons_mk (Below.trod laidOut (by kernel_rfl) (of_decide_eq_true (by kernel_rfl)) k2 bel lt2) (trodAll_cons_mk (Below.trod laidOut (by kernel_rfl) (of_decide_eq_true (by kernel_rfl)) k3 bel lt3) trodAll_mk0)))), rfl, bel.frame _, fun h => by cases h⟩
theorem over : Rows.ieeeHalvesRow.holds Try.pinned (OpenSpec.ofChange Rows.ieeeHalvesSpec) :=
  OpenClaim.holds_of_wide 6 Try.f6 rfl rfl rfl rfl rfl rfl rfl ⟨rfl, rfl, rfl, rfl, rfl⟩ rfl rfl rfl rfl rfl (by kernel_rfl) Try.func6 (by kernel_rfl)
    (of_decide_eq_true (by kernel_rfl)) (by unfold Func.isWrapper; first | (rw [if_pos (by decide +kernel)]; kernel_rfl) | (rw [if_neg (by decide +kernel)]; exact ⟨rfl, rfl⟩))
    (fun os started H enc _ => lifted os started H enc)
end Go.Proofs.Ytkomnpaihibmmaa.ieeeHalves
namespace Go.Proofs.Ytkomnpaihibmmaa
/-- Whatever the input: the law's call returns true, and the input reads as it did. -/
theorem ieeeHalves_holds : Rows.IeeeHalvesSaid := ieeeHalves.over
#print axioms ieeeHalves_holds
end Go.Proofs.Ytkomnpaihibmmaa
