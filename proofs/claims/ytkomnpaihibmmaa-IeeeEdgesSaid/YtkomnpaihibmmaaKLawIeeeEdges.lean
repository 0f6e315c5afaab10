/- The law law03.IeeeEdges: whatever the input, the call returns true, and the input reads as it did. -/
import Derived.Test.YtkomnpaihibmmaaRows
import Derived.Test.YtkomnpaihibmmaaKEnv
import Derived.Test.YtkomnpaihibmmaaKSxIeeeEdges
import Derived.WalkKit
import Derived.ProofKit
import Derived.OpenShut
import Derived.ShutString
import Derived.ChangeOld
import Derived.Below
set_option linter.all false
namespace Go.Proofs.Ytkomnpaihibmmaa.ieeeEdges
open Go.ChangeShapes Go.WideShapes Go.ChangeAt Go.RowKit Go.Ev
set_option linter.unusedVariables false
theorem own : ownKnob Try.prog.godebug = none := by kernel_rfl
theorem laidOut : laidOutB Try.prog = true := by kernel_rfl
theorem closed : closedT Try.prog [] = true := by kernel_rfl
theorem tiok : TiOk Try.prog (tiOf Try.prog) := fun t i h => h
theorem glr : GlR E0 gl0 := fun n v h => by simp [gl0] at h
theorem mixed : Try.prog.follows .mixedOrders = true := by kernel_rfl
theorem tabOk : TabOk E0 md0 tab0 := by
  intro f fn h
  unfold tab0 at h
  split at h <;> first | (injection h with h; subst h; exact ⟨rfl, _, rfl⟩) | cases h
set_option maxRecDepth 100000 in
theorem lifted (os : Os) (started : os.Started) (H : Type) (enc : TypeId × Value → H) :
    ReturnsInHanded {} Try.checked os 5 .any (Rows.ieeeEdgesSpec.pre6 enc Try.prog Try.f5 Rows.ieeeEdgesRow.domain false) (Rows.ieeeEdgesSpec.post enc Try.prog Try.f5 false true false false) := by
  refine returnsInHanded_of_change (C := Try.checked) own started (by kernel_rfl) Try.func5
    (ChangeSpec.witness6 (enc := enc) (C := Try.checked) false ⟨#[], #[], []⟩ 8 (by kernel_rfl) (by kernel_rfl) (by kernel_rfl) (by kernel_rfl)) ?_
  intro W base args ds gs before hval0 hW hcnd _
  have hval : ∀ (j : Nat) t v, Try.f5.params[j]? = some t → args[j]? = some v → Value.okWide Try.prog W .any base t v := hval0
  have hW' := hW
  obtain ⟨p, q, hA0, hV, rfl, hfz, hnd⟩ := hW
  have hA : DataW.TrodAll enc Try.prog W 0 (fun _ => true) true Try.f5.params.toList args.toList ds p := hA0
  rw [Try.params5] at hA hval
  obtain ⟨rfl, rfl, rfl⟩ := trodAll_none hA
  obtain ⟨rfl, rfl⟩ := trodVars_none hV
  clear hA0 hval0
  obtain ⟨st', hst⟩ := law_pv (xs := []) (r := .bool true) glr tabOk (pure_IeeeEdges )
  refine (law_walk tiok mixed envOk (f := 5) rfl (fn := n_law03_IeeeEdges) rfl (RepL.nil _) (fun n ds h => by simp [E0] at h) hst).mono fun e W' ⟨he, bel⟩ => ?_
  subst he
  exact ⟨_, rfl, _, _, _, [], _, [], hW', trodAll_mk1 (shut_bool Try.underlying4 _), trodAll_mk0, rfl, bel.frame _, fun h => by cases h⟩
theorem over : Rows.ieeeEdgesRow.holds Try.pinned (OpenSpec.ofChange Rows.ieeeEdgesSpec) :=
  OpenClaim.holds_of_wide 5 Try.f5 rfl rfl rfl rfl rfl rfl rfl ⟨rfl, rfl, rfl, rfl, rfl⟩ rfl rfl rfl rfl rfl (by kernel_rfl) Try.func5 (by kernel_rfl)
    (of_decide_eq_true (by kernel_rfl)) (by unfold Func.isWrapper; first | (rw [if_pos (by decide +kernel)]; kernel_rfl) | (rw [if_neg (by decide +kernel)]; exact ⟨rfl, rfl⟩))
    (fun os started H enc _ => lifted os started H enc)
end Go.Proofs.Ytkomnpaihibmmaa.ieeeEdges
namespace Go.Proofs.Ytkomnpaihibmmaa
/-- Whatever the input: the law's call returns true, and the input reads as it did. -/
theorem ieeeEdges_holds : Rows.IeeeEdgesSaid := ieeeEdges.over
#print axioms ieeeEdges_holds
end Go.Proofs.Ytkomnpaihibmmaa
