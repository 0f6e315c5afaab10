/- The law law15.OpsUndoes: whatever the input, the call returns true, and the input reads as it did. -/
import Derived.Test.YtnefgdahdccldaaGreatDoorRows
import Derived.Test.YtnefgdahdccldaaGreatDoorKEnv
import Derived.Test.YtnefgdahdccldaaGreatDoorKSxOpsUndoes
import Derived.WalkKit
import Derived.ProofKit
import Derived.OpenShut
import Derived.ShutString
import Derived.ChangeOld
import Derived.Below
import Derived.Test.YtnefgdahdccldaaGreatDoorTie
import Derived.Test.YtnefgdahdccldaaGreatDoorCards
import Derived.Lay
import Derived.LaidOnce
import Derived.SevenTiedAt
import Derived.LaidMore
import Derived.Test.YtnefgdahdccldaaGreatDoorKEvE
set_option linter.all false
namespace Go.Proofs.YtnefgdahdccldaaGreatDoor.opsUndoes
open Go.ChangeShapes Go.WideShapes Go.ChangeAt Go.RowKit Go.Ev
set_option linter.unusedVariables false
theorem own:ownKnob Tryz.prog.godebug=none:=by kernel_rfl
theorem laidOut:laidOutB Tryz.prog=true:=by kernel_rfl
theorem closed:zsS Tryz.prog [50,3]=true:=by kernel_rfl
theorem zCg:yR Tryz.prog (yG Tryz.prog):=fun t i h=>h
theorem glr:GlR E1 gl0:=fun n v h=>by exact⟨toDL v,by show(glT n).map toDL=_;rw[show glT n=some v from h];rfl,by rw[toDL_cl0];exact List.prefix_rfl⟩
theorem mixed:Tryz.prog.follows .mixedOrders=true:=by kernel_rfl
theorem zA5:ztb E1 md0 zqA:=by intro f k fn h;unfold zqA at h;split at h<;>first | (injection h with h;subst h;exact⟨rfl,rfl,rfl,zym (by kernel_rfl)⟩) | cases h | (split at h<;>(injection h with h;subst h;exact⟨rfl,rfl,rfl,zym (by kernel_rfl)⟩))
set_option maxRecDepth 100000 in
theorem zB8{W:World}(h:laidMetH Tryz.prog Rows.opsUndoesRow.laid W):GlOk (G0 W) E0:=by
 rw[MakeChecks.laidMetH_plain _ _ _ (by kernel_rfl)]at h;intro n ds hn;have hn:(glT n).map toDL=some ds:=hn;obtain⟨xs,hx,rfl⟩:=Option.map_eq_some_iff.1 hn;unfold glT at hx;split at hx<;>first | contradiction | skip
 ·obtain rfl:=Option.some.inj hx
  exact ztM h (name := "unicode/utf8.first") (d:=Rows.laid_unicode_utf8_first) (by unfold Rows.opsUndoesRow;exact(.tail _ (.head _))) (by kernel_rfl) (t:=(((Tryz.prog.globals[0]?).map (·.type)).getD 0)) (by kernel_rfl) (n:=8) (vs:=(lits Tryz.prog 8 (((Tryz.prog.globals[0]?).map (·.type)).getD 0) Rows.laid_unicode_utf8_first).get (by kernel_rfl)) (Option.some_get _).symm (by kernel_rfl) (by kernel_rfl)
 ·obtain rfl:=Option.some.inj hx
  exact ztM h (name := "unicode/utf8.acceptRanges") (d:=Rows.laid_unicode_utf8_acceptRanges) (by unfold Rows.opsUndoesRow;exact(.head _)) (by kernel_rfl) (t:=(((Tryz.prog.globals[1]?).map (·.type)).getD 0)) (by kernel_rfl) (n:=8) (vs:=(lits Tryz.prog 8 (((Tryz.prog.globals[1]?).map (·.type)).getD 0) Rows.laid_unicode_utf8_acceptRanges).get (by kernel_rfl)) (Option.some_get _).symm (by kernel_rfl) (by kernel_rfl)
set_option maxRecDepth 100000 in
theorem lifted(os:Os)(started:os.Started)(H:Type)(enc:TypeId×Value->H) :
  ReturnsInHanded {} Tryz.checked os 6 .any (fun w args=>(Rows.opsUndoesSpec.pre enc Tryz.prog Tryz.f6 [] false w args/\laidMetH Tryz.prog Rows.opsUndoesRow.laid w)/\sizedMet enc Tryz.prog Tryz.f6 (OpenSpec.ofChange Rows.opsUndoesSpec) false w args)
   (Rows.opsUndoesSpec.post enc Tryz.prog Tryz.f6 false true false false):=by
 refine returnsInHanded_of_change_and (C:=Tryz.checked) (X:=fun w _=>laidMetH Tryz.prog Rows.opsUndoesRow.laid w) (fun _ _ _ hh h=>h.of_heap hh) own started (by kernel_rfl) Tryz.func6
  (ChangeSpec.witness_shaped (enc:=enc) (C:=Tryz.checked) (os:=os) (X:=fun w _=>laidMetH Tryz.prog Rows.opsUndoesRow.laid w) false (World.laidAll Tryz.prog os Rows.opsUndoesRow.laid) #[.slice none 0 0,.slice none 0 0,.slice none 0 0] 8 (World.laidAll_os _ _ _)
   (World.shaped_of_ZipB (by kernel_rfl) (by kernel_rfl)) (by kernel_rfl) (by kernel_rfl) (by kernel_rfl)
   (by rw[MakeChecks.laidMetH_plain _ _ _ (by kernel_rfl)];exact laidMet_laidAll _ (by kernel_rfl) (by kernel_rfl))) ?_
 intro W base args ds gs before hval0 hW _ _ hL _;have hval : ∀ (j:Nat) t v,Tryz.f6.params[j]?=some t->args[j]?=some v->Value.okWide Tryz.prog W .any base t v:=hval0;have hW':=hW;obtain⟨p,q,hA0,hV,rfl,hfz,hnd⟩:=hW;have hA:DataW.TrodAll enc Tryz.prog W 0 (fun _=>true) true Tryz.f6.params.toList args.toList ds p:=hA0;rw[Tryz.params6]at hA hval;obtain⟨v0,vs0,d0,ds0,p0,q0,hargs,rfl,rfl,h0,r0⟩:=trodAll_cons hA;obtain⟨v1,vs1,d1,ds1,p1,q1,rfl,rfl,rfl,h1,r1⟩:=trodAll_cons r0;obtain⟨v2,vs2,d2,ds2,p2,q2,rfl,rfl,rfl,h2,r2⟩:=trodAll_cons r1;obtain⟨rfl,rfl,rfl⟩:=trodAll_nil r2;obtain rfl:args = #[v0,v1,v2]:=by cases args;simp_all
 obtain⟨rfl,rfl⟩:=trodVars_none hV;simp only[List.append_nil]at hW';have k0:=h0;have lt0 : ∀ x∈p0,x.block<W.heap.size:=by obtain⟨m,hm⟩:=k0;exact DataW.trod_lt m _ _ _ hm
 obtain⟨n0,hx0⟩:=h0;obtain⟨xs0,o0⟩:=Go.Ev.opens closed _ _ _ _ (by simp) hx0;obtain⟨a0,l0,c0,rfl⟩:=okWide_slice Tryz.underlying50 (hval 0 50 v0 rfl rfl);have hag0:Yh Tryz.prog 50=false:=by kernel_rfl
 have hc0:Tryz.prog.cellsOf 50=1:=by kernel_rfl
 have g0:=o0.arg (fun h=>by rw[hag0]at h;cases h) (.inr ⟨hc0,fun a h=>by cases h⟩);have k1:=h1;have lt1 : ∀ x∈p1,x.block<W.heap.size:=by obtain⟨m,hm⟩:=k1;exact DataW.trod_lt m _ _ _ hm
 obtain⟨n1,hx1⟩:=h1;obtain⟨xs1,o1⟩:=Go.Ev.opens closed _ _ _ _ (by simp) hx1;obtain⟨a1,l1,c1,rfl⟩:=okWide_slice Tryz.underlying50 (hval 1 50 v1 rfl rfl);have hag1:Yh Tryz.prog 50=false:=by kernel_rfl
 have hc1:Tryz.prog.cellsOf 50=1:=by kernel_rfl
 have g1:=o1.arg (fun h=>by rw[hag1]at h;cases h) (.inr ⟨hc1,fun a h=>by cases h⟩);have k2:=h2;have lt2 : ∀ x∈p2,x.block<W.heap.size:=by obtain⟨m,hm⟩:=k2;exact DataW.trod_lt m _ _ _ hm
 obtain⟨n2,hx2⟩:=h2;obtain⟨xs2,o2⟩:=Go.Ev.opens closed _ _ _ _ (by simp) hx2;obtain⟨a2,l2,c2,rfl⟩:=okWide_slice Tryz.underlying50 (hval 2 50 v2 rfl rfl);have hag2:Yh Tryz.prog 50=false:=by kernel_rfl
 have hc2:Tryz.prog.cellsOf 50=1:=by kernel_rfl
 have g2:=o2.arg (fun h=>by rw[hag2]at h;cases h) (.inr ⟨hc2,fun a h=>by cases h⟩);clear hA0 hval0;obtain⟨st',hst⟩:=zAB (xs:=[mkV Tryz.prog 50 xs0,mkV Tryz.prog 50 xs1,mkV Tryz.prog 50 xs2]) (r := .bool true) glr zA5 zB6 (ziO o0.1 o1.1 o2.1);have hst:=zuF zBJ (by decide) hst;refine(zxs zCg mixed zBG (f:=6) rfl (fn:=qm) rfl (RepL.cons g0 (RepL.cons g1 (RepL.cons g2 (RepL.nil _)))) (zB8 hL) hst).mono fun e W' ⟨he,bel⟩ => ?_
 subst he;exact⟨_,rfl,_,_,_,[],_,[],hW',trodAll_mk1 (shut_bool Tryz.underlying4 _),(trodAll_cons_mk (Below.trod laidOut (by kernel_rfl) (of_decide_eq_true (by kernel_rfl)) k0 bel lt0) (trodAll_cons_mk (Below.trod laidOut (by kernel_rfl) (of_decide_eq_true (by kernel_rfl)) k1 bel lt1) (trodAll_cons_mk (Below.trod laidOut (by kernel_rfl) (of_decide_eq_true (by kernel_rfl)) k2 bel lt2) trodAll_mk0))),rfl,bel.frame _,fun h=>by cases h⟩
theorem over:Rows.opsUndoesRow.holds Tryz.pinned (OpenSpec.ofChange Rows.opsUndoesSpec):=
 OpenClaim.holds_of_wide 6 Tryz.f6 rfl rfl rfl rfl rfl rfl rfl ⟨rfl,rfl,rfl,rfl,rfl⟩ rfl rfl rfl rfl rfl (by kernel_rfl) Tryz.func6 (by kernel_rfl)
  (of_decide_eq_true (by kernel_rfl)) (by unfold Func.isWrapper;first | (rw[zCk (by decide +kernel)];kernel_rfl) | (rw[zCj (by decide +kernel)];exact⟨rfl,rfl⟩))
  (fun os started H enc _=>lifted os started H enc)
end Go.Proofs.YtnefgdahdccldaaGreatDoor.opsUndoes
namespace Go.Proofs.YtnefgdahdccldaaGreatDoor
theorem opsUndoes_holds:Rows.OpsUndoesCardSaid:=
 Claim7.holds_tied_plain_at .later [] [.data,.pinned] true (true, "a3e3ff5238dd389d118d201f566a4b5639cb711d670b2a56305dd1d688f757b4") true opsUndoes.over (fun _ h=>by cases h) (by kernel_rfl) (fun _ h=>by cases h) opsUndoes_row_tie rfl ⟨rfl,rfl⟩ (by kernel_rfl) rfl
  (fun f fn hf hfn=>by
   obtain rfl:f=6:=Option.some.inj ((show Tryz.prog.funcNamed "erratum/erratumlaw15.OpsUndoes" = some 6 by kernel_rfl).symm.trans hf) |>.symm
   obtain rfl:fn=Tryz.f6:=(Option.some.inj (Tryz.func6.symm.trans hfn)).symm;exact⟨by kernel_rfl,fun j t ht=>by
    rw[Tryz.params6]at ht;have hm:t∈[50,50,50]:=by simpa using Array.mem_of_getElem? ht
    have hall:([50,50,50].all fun u => !Tryz.prog.wantsStandIn u)=true:=by kernel_rfl
    exact(show Tryz.prog.wantsStandIn t=false by simpa using List.all_eq_true.1 hall t hm)⟩)
  (by kernel_rfl)
#print axioms opsUndoes_holds
end Go.Proofs.YtnefgdahdccldaaGreatDoor
