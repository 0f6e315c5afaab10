/- The law law03.IeeeSame: whatever the input, the call returns true, and the input reads as it did. -/
import Derived.Test.YtfodpklkdecpkaaRows
import Derived.Test.YtfodpklkdecpkaaKEnv
import Derived.Test.YtfodpklkdecpkaaKSxIeeeSame
import Derived.WalkKit
import Derived.ProofKit
import Derived.OpenShut
import Derived.ShutString
import Derived.ChangeOld
import Derived.Below
set_option linter.all false
namespace Go.Proofs.Ytfodpklkdecpkaa.ieeeSame
open Go.ChangeShapes Go.WideShapes Go.ChangeAt Go.RowKit Go.Ev
set_option linter.unusedVariables false
theorem okWide_float{P:Program}{w:World}{r:Reach}{base:Nat}{t:TypeId}{v:Value}{k:FloatKind}(ht:P.underlying t=some (.float k))(h:Value.okWide P w r base t v) : ∃ b,v = .float k b:=by simp only[Value.okWide,ht,Cell.okWide]at h;cases v<;>simp_all [Cell.ok]
theorem own:ownKnob Try.prog.godebug=none:=by kernel_rfl
theorem laidOut:laidOutB Try.prog=true:=by kernel_rfl
theorem closed:closedT Try.prog [22]=true:=by kernel_rfl
theorem tiok:TiOk Try.prog (tiOf Try.prog):=fun t i h=>h
theorem glr:GlR E0 gl0:=fun n v h=>by simp[gl0]at h
theorem mixed:Try.prog.follows .mixedOrders=true:=by kernel_rfl
theorem tabOk:TabOk E0 md0 tab0:=by intro f k fn h;unfold tab0 at h;split at h<;>first | (injection h with h;subst h;exact⟨rfl,rfl,rfl,tab_of (by kernel_rfl)⟩) | cases h | (split at h<;>(injection h with h;subst h;exact⟨rfl,rfl,rfl,tab_of (by kernel_rfl)⟩))
set_option maxRecDepth 100000 in
theorem lifted(os:Os)(started:os.Started)(H:Type)(enc:TypeId×Value->H) :
  ReturnsInHanded {} Try.checked os 3 .any (Rows.ieeeSameSpec.pre6 enc Try.prog Try.f3 Rows.ieeeSameRow.domain false) (Rows.ieeeSameSpec.post enc Try.prog Try.f3 false true false false):=by
 refine returnsInHanded_of_change (C:=Try.checked) own started (by kernel_rfl) Try.func3
  (ChangeSpec.witness6 (enc:=enc) (C:=Try.checked) false ⟨#[],#[.float .f64 0,.float .f64 0],[]⟩ 8 (by kernel_rfl) (by kernel_rfl) (by kernel_rfl) (by kernel_rfl)) ?_
 intro W base args ds gs before hval0 hW hcnd _;have hval : ∀ (j:Nat) t v,Try.f3.params[j]?=some t->args[j]?=some v->Value.okWide Try.prog W .any base t v:=hval0;have hW':=hW;obtain⟨p,q,hA0,hV,rfl,hfz,hnd⟩:=hW;have hA:DataW.TrodAll enc Try.prog W 0 (fun _=>true) true Try.f3.params.toList args.toList ds p:=hA0;rw[Try.params3]at hA hval;obtain⟨v0,vs0,d0,ds0,p0,q0,hargs,rfl,rfl,h0,r0⟩:=trodAll_cons hA;obtain⟨v1,vs1,d1,ds1,p1,q1,rfl,rfl,rfl,h1,r1⟩:=trodAll_cons r0;obtain⟨rfl,rfl,rfl⟩:=trodAll_nil r1;obtain rfl:args = #[v0,v1]:=by cases args;simp_all
 obtain⟨rfl,rfl⟩:=trodVars_none hV;have k0:=h0;have lt0 : ∀ x∈p0,x.block<W.heap.size:=by obtain⟨m,hm⟩:=k0;exact DataW.trod_lt m _ _ _ hm
 obtain⟨n0,hx0⟩:=h0;obtain⟨xs0,o0⟩:=Go.Ev.opens closed _ _ _ _ (by simp) hx0;obtain⟨a0,rfl⟩:=okWide_float Try.underlying22 (hval 0 22 v0 rfl rfl);have hag0:isAggT Try.prog 22=false:=by kernel_rfl
 have hc0:Try.prog.cellsOf 22=1:=by kernel_rfl
 have g0:=o0.arg (fun h=>by rw[hag0]at h;cases h) (.inr ⟨hc0,fun a h=>by cases h⟩);have k1:=h1;have lt1 : ∀ x∈p1,x.block<W.heap.size:=by obtain⟨m,hm⟩:=k1;exact DataW.trod_lt m _ _ _ hm
 obtain⟨n1,hx1⟩:=h1;obtain⟨xs1,o1⟩:=Go.Ev.opens closed _ _ _ _ (by simp) hx1;obtain⟨a1,rfl⟩:=okWide_float Try.underlying22 (hval 1 22 v1 rfl rfl);have hag1:isAggT Try.prog 22=false:=by kernel_rfl
 have hc1:Try.prog.cellsOf 22=1:=by kernel_rfl
 have g1:=o1.arg (fun h=>by rw[hag1]at h;cases h) (.inr ⟨hc1,fun a h=>by cases h⟩);clear hA0 hval0;obtain⟨st',hst⟩:=law_pv (xs:=[mkV Try.prog 22 xs0,mkV Try.prog 22 xs1]) (r := .bool true) glr tabOk txOk (pure_IeeeSame o0.1 o1.1);refine(law_walk tiok mixed envOk (f:=3) rfl (fn:=n_law03_IeeeSame) rfl (RepL.cons g0 (RepL.cons g1 (RepL.nil _))) (fun n ds h=>by simp[E0]at h) hst).mono fun e W' ⟨he,bel⟩ => ?_
 subst he;exact⟨_,rfl,_,_,_,[],_,[],hW',trodAll_mk1 (shut_bool Try.underlying4 _),(trodAll_cons_mk (Below.trod laidOut (by kernel_rfl) (of_decide_eq_true (by kernel_rfl)) k0 bel lt0) (trodAll_cons_mk (Below.trod laidOut (by kernel_rfl) (of_decide_eq_true (by kernel_rfl)) k1 bel lt1) trodAll_mk0)),rfl,bel.frame _,fun h=>by cases h⟩
theorem over:Rows.ieeeSameRow.holds Try.pinned (OpenSpec.ofChange Rows.ieeeSameSpec):=
 OpenClaim.holds_of_wide 3 Try.f3 rfl rfl rfl rfl rfl rfl rfl ⟨rfl,rfl,rfl,rfl,rfl⟩ rfl rfl rfl rfl rfl (by kernel_rfl) Try.func3 (by kernel_rfl)
  (of_decide_eq_true (by kernel_rfl)) (by unfold Func.isWrapper;first | (rw[zb (by decide +kernel)];kernel_rfl) | (rw[za (by decide +kernel)];exact⟨rfl,rfl⟩))
  (fun os started H enc _=>lifted os started H enc)
end Go.Proofs.Ytfodpklkdecpkaa.ieeeSame
namespace Go.Proofs.Ytfodpklkdecpkaa
theorem ieeeSame_holds:Rows.IeeeSameSaid:=ieeeSame.over
#print axioms ieeeSame_holds
end Go.Proofs.Ytfodpklkdecpkaa
