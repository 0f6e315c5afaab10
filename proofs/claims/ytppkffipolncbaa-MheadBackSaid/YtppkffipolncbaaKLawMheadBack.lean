/- The law law11.MheadBack: whatever the input, the call returns true, and the input reads as it did. -/
import Derived.Test.YtppkffipolncbaaRows
import Derived.Test.YtppkffipolncbaaKEnv
import Derived.Test.YtppkffipolncbaaKSxMheadBack
import Derived.WalkKit
import Derived.ProofKit
import Derived.OpenShut
import Derived.ShutString
import Derived.ChangeOld
import Derived.Below
set_option linter.all false
namespace Go.Proofs.Ytppkffipolncbaa.mheadBack
open Go.ChangeShapes Go.WideShapes Go.ChangeAt Go.RowKit Go.Ev
set_option linter.unusedVariables false
theorem own : ownKnob Try.prog.godebug = none := by kernel_rfl
theorem laidOut : laidOutB Try.prog = true := by kernel_rfl
theorem closed : closedT Try.prog [3, 23] = true := by kernel_rfl
theorem tiok : TiOk Try.prog (tiOf Try.prog) := fun t i h => h
theorem glr : GlR E0 gl0 := fun n v h => by simp [gl0] at h
theorem mixed : Try.prog.follows .mixedOrders = true := by kernel_rfl
theorem tabOk : TabOk E0 md0 tab0 := by
  intro f fn h
  unfold tab0 at h
  split at h <;> first | (injection h with h; subst h; exact ⟨rfl, _, rfl⟩) | cases h
set_option maxRecDepth 100000 in
theorem lifted (os : Os) (started : os.Started) (H : Type) (enc : TypeId × Value → H) :
    ReturnsInHanded {} Try.checked os 4 .any (Rows.mheadBackSpec.pre6 enc Try.prog Try.f4 Rows.mheadBackRow.domain false) (Rows.mheadBackSpec.post enc Try.prog Try.f4 false true false false) := by
  refine returnsInHanded_of_change (C := Try.checked) own started (by kernel_rfl) Try.func4
    (ChangeSpec.witness6 (enc := enc) (C := Try.checked) false ⟨#[], #[.int .i64 0, .int .u64 0, .int .i64 0], []⟩ 8 (by kernel_rfl) (by kernel_rfl) (by kernel_rfl) (by kernel_rfl)) ?_
  intro W base args ds gs before hval0 hW hcnd _
  have hval : ∀ (j : Nat) t v, Try.f4.params[j]? = some t → args[j]? = some v → Value.okWide Try.prog W .any base t v := hval0
  have hW' := hW
  obtain ⟨p, q, hA0, hV, rfl, hfz, hnd⟩ := hW
  have hA : DataW.TrodAll enc Try.prog W 0 (fun _ => true) true Try.f4.params.toList args.toList ds p := hA0
  rw [Try.params4] at hA hval
  obtain ⟨v0, vs0, d0, ds0, p0, q0, hargs, rfl, rfl, h0, r0⟩ := trodAll_cons hA
  obtain ⟨v1, vs1, d1, ds1, p1, q1, rfl, rfl, rfl, h1, r1⟩ := trodAll_cons r0
  obtain ⟨v2, vs2, d2, ds2, p2, q2, rfl, rfl, rfl, h2, r2⟩ := trodAll_cons r1
  obtain ⟨rfl, rfl, rfl⟩ := trodAll_nil r2
  obtain rfl : args = #[v0, v1, v2] := by cases args; simp_all
  obtain ⟨rfl, rfl⟩ := trodVars_none hV
  have k0 := h0
  have lt0 : ∀ x ∈ p0, x.block < W.heap.size := by obtain ⟨m, hm⟩ := k0; exact DataW.trod_lt m _ _ _ hm
  obtain ⟨n0, hx0⟩ := h0
  obtain ⟨xs0, o0⟩ := opens closed _ _ _ _ (by simp) hx0
  obtain ⟨a0, rfl⟩ := okWide_int Try.underlying3 (hval 0 3 v0 rfl rfl)
  have hag0 : isAggT Try.prog 3 = false := by kernel_rfl
  have hc0 : Try.prog.cellsOf 3 = 1 := by kernel_rfl
  have g0 := o0.arg (fun h => by rw [hag0] at h; cases h) (.inr ⟨hc0, fun a h => by cases h⟩)
  have k1 := h1
  have lt1 : ∀ x ∈ p1, x.block < W.heap.size := by obtain ⟨m, hm⟩ := k1; exact DataW.trod_lt m _ _ _ hm
  obtain ⟨n1, hx1⟩ := h1
  obtain ⟨xs1, o1⟩ := opens closed _ _ _ _ (by simp) hx1
  obtain ⟨a1, rfl⟩ := okWide_int Try.underlying23 (hval 1 23 v1 rfl rfl)
  have hag1 : isAggT Try.prog 23 = false := by kernel_rfl
  have hc1 : Try.prog.cellsOf 23 = 1 := by kernel_rfl
  have g1 := o1.arg (fun h => by rw [hag1] at h; cases h) (.inr ⟨hc1, fun a h => by cases h⟩)
  have k2 := h2
  have lt2 : ∀ x ∈ p2, x.block < W.heap.size := by obtain ⟨m, hm⟩ := k2; exact DataW.trod_lt m _ _ _ hm
  obtain ⟨n2, hx2⟩ := h2
  obtain ⟨xs2, o2⟩ := opens closed _ _ _ _ (by simp) hx2
  obtain ⟨a2, rfl⟩ := okWide_int Try.underlying3 (hval 2 3 v2 rfl rfl)
  have hag2 : isAggT Try.prog 3 = false := by kernel_rfl
  have hc2 : Try.prog.cellsOf 3 = 1 := by kernel_rfl
  have g2 := o2.arg (fun h => by rw [hag2] at h; cases h) (.inr ⟨hc2, fun a h => by cases h⟩)
  clear hA0 hval0
  obtain ⟨st', hst⟩ := law_pv (xs := [mkV Try.prog 3 xs0, mkV Try.prog 23 xs1, mkV Try.prog 3 xs2]) (r := .bool true) glr tabOk txOk (pure_MheadBack o0.1 o1.1 o2.1)
  refine (law_walk tiok mixed envOk (f := 4) rfl (fn := n_law11_MheadBack) rfl (RepL.cons g0 (RepL.cons g1 (RepL.cons g2 (RepL.nil _)))) (fun n ds h => by simp [E0] at h) hst).mono fun e W' ⟨he, bel⟩ => ?_
  subst he
  exact ⟨_, rfl, _, _, _, [], _, [], hW', trodAll_mk1 (shut_bool Try.underlying4 _), (trodAll_cons_mk (Below.trod laidOut (by kernel_rfl) (of_decide_eq_true (by kernel_rfl)) k0 bel lt0) (trodAll_cons_mk (Below.trod laidOut (by kernel_rfl) (of_decide_eq_true (by kernel_rfl)) k1 bel lt1) (trodAll_cons_mk (Below.trod laidOut (by kernel_rfl) (of_decide_eq_true (by kernel_rfl)) k2 bel lt2) trodAll_mk0))), rfl, bel.frame _, fun h => by cases h⟩
theorem over : Rows.mheadBackRow.holds Try.pinned (OpenSpec.ofChange Rows.mheadBackSpec) :=
  OpenClaim.holds_of_wide 4 Try.f4 rfl rfl rfl rfl rfl rfl rfl ⟨rfl, rfl, rfl, rfl, rfl⟩ rfl rfl rfl rfl rfl (by kernel_rfl) Try.func4 (by kernel_rfl)
    (of_decide_eq_true (by kernel_rfl)) (by unfold Func.isWrapper; first | (rw [if_pos (by decide +kernel)]; kernel_rfl) | (rw [if_neg (by decide +kernel)]; exact ⟨rfl, rfl⟩))
    (fun os started H enc _ => lifted os started H enc)
end Go.Proofs.Ytppkffipolncbaa.mheadBack
namespace Go.Proofs.Ytppkffipolncbaa
/-- Whatever the input: the law's call returns true, and the input reads as it did. -/
theorem mheadBack_holds : Rows.MheadBackSaid := mheadBack.over
#print axioms mheadBack_holds
end Go.Proofs.Ytppkffipolncbaa
