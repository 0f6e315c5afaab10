/- The law law15.OpsFails: whatever the input, the call returns true, and the input reads as it did. -/
import Derived.Test.YtnefgdahdccldaaDoorRows
import Derived.Test.YtnefgdahdccldaaDoorKEnv
import Derived.Test.YtnefgdahdccldaaDoorKSxOpsFails
import Derived.WalkKit
import Derived.ProofKit
import Derived.OpenShut
import Derived.ShutString
import Derived.ChangeOld
import Derived.Below
import Derived.Test.YtnefgdahdccldaaDoorTie
import Derived.Test.YtnefgdahdccldaaDoorCards
import Derived.Lay
import Derived.LaidOnce
import Derived.SevenTiedAt
import Derived.LaidMore
import Derived.Test.YtnefgdahdccldaaDoorKEvE
set_option linter.all false
namespace Go.Proofs.YtnefgdahdccldaaDoor.opsFails
open Go.ChangeShapes Go.WideShapes Go.ChangeAt Go.RowKit Go.Ev
set_option linter.unusedVariables false
theorem own:ownKnob Tryd.prog.godebug=none:=by kernel_rfl
theorem laidOut:laidOutB Tryd.prog=true:=by kernel_rfl
theorem closed:zrP Tryd.prog [30,3]=true:=by kernel_rfl
theorem zBq:yS Tryd.prog (yR Tryd.prog):=fun t i h=>h
theorem glr:GlR E1 gl0:=fun n v h=>by exact⟨toDL v,by show(glT n).map toDL=_;rw[show glT n=some v from h];rfl,by rw[toDL_cl0];exact List.prefix_rfl⟩
theorem mixed:Tryd.prog.follows .mixedOrders=true:=by kernel_rfl
theorem zAc:zsb E1 md0 zpt:=by intro f k fn h;unfold zpt at h;split at h<;>first | (injection h with h;subst h;exact⟨rfl,rfl,rfl,zw7 (by kernel_rfl)⟩) | cases h | (split at h<;>(injection h with h;subst h;exact⟨rfl,rfl,rfl,zw7 (by kernel_rfl)⟩))
set_option maxRecDepth 100000 in
theorem zBi{W:World}(h:laidMetH Tryd.prog Rows.opsFailsRow.laid W):GlOk (G0 W) E0:=by
 rw[MakeChecks.laidMetH_plain _ _ _ (by kernel_rfl)]at h;intro n ds hn;have hn:(glT n).map toDL=some ds:=hn;obtain⟨xs,hx,rfl⟩:=Option.map_eq_some_iff.1 hn;unfold glT at hx;split at hx<;>first | contradiction | skip
 ·obtain rfl:=Option.some.inj hx
  exact zsG h (name := "unicode/utf8.first") (d:=Rows.laid_unicode_utf8_first) (by unfold Rows.opsFailsRow;exact(.tail _ (.head _))) (by kernel_rfl) (t:=(((Tryd.prog.globals[0]?).map (·.type)).getD 0)) (by kernel_rfl) (n:=8) (vs:=(lits Tryd.prog 8 (((Tryd.prog.globals[0]?).map (·.type)).getD 0) Rows.laid_unicode_utf8_first).get (by kernel_rfl)) (Option.some_get _).symm (by kernel_rfl) (by kernel_rfl)
 ·obtain rfl:=Option.some.inj hx
  exact zsG h (name := "unicode/utf8.acceptRanges") (d:=Rows.laid_unicode_utf8_acceptRanges) (by unfold Rows.opsFailsRow;exact(.head _)) (by kernel_rfl) (t:=(((Tryd.prog.globals[1]?).map (·.type)).getD 0)) (by kernel_rfl) (n:=8) (vs:=(lits Tryd.prog 8 (((Tryd.prog.globals[1]?).map (·.type)).getD 0) Rows.laid_unicode_utf8_acceptRanges).get (by kernel_rfl)) (Option.some_get _).symm (by kernel_rfl) (by kernel_rfl)
set_option maxRecDepth 100000 in
theorem lifted(os:Os)(started:os.Started)(H:Type)(enc:TypeId×Value->H) :
  ReturnsInHanded {} Tryd.checked os 4 .any (fun w args=>(Rows.opsFailsSpec.pre enc Tryd.prog Tryd.f4 [] false w args/\laidMetH Tryd.prog Rows.opsFailsRow.laid w)/\sizedMet enc Tryd.prog Tryd.f4 (OpenSpec.ofChange Rows.opsFailsSpec) false w args)
   (Rows.opsFailsSpec.post enc Tryd.prog Tryd.f4 false true false false):=by
 refine returnsInHanded_of_change_and (C:=Tryd.checked) (X:=fun w _=>laidMetH Tryd.prog Rows.opsFailsRow.laid w) (fun _ _ _ hh h=>h.of_heap hh) own started (by kernel_rfl) Tryd.func4
  (ChangeSpec.witness_shaped (enc:=enc) (C:=Tryd.checked) (os:=os) (X:=fun w _=>laidMetH Tryd.prog Rows.opsFailsRow.laid w) false (World.laidAll Tryd.prog os Rows.opsFailsRow.laid) #[.slice none 0 0,.slice none 0 0,.int .i64 0] 8 (World.laidAll_os _ _ _)
   (World.shaped_of_ZipB (by kernel_rfl) (by kernel_rfl)) (by kernel_rfl) (by kernel_rfl) (by kernel_rfl)
   (by rw[MakeChecks.laidMetH_plain _ _ _ (by kernel_rfl)];exact laidMet_laidAll _ (by kernel_rfl) (by kernel_rfl))) ?_
 intro W base args ds gs before hval0 hW _ _ hL _;have hval : ∀ (j:Nat) t v,Tryd.f4.params[j]?=some t->args[j]?=some v->Value.okWide Tryd.prog W .any base t v:=hval0;have hW':=hW;obtain⟨p,q,hA0,hV,rfl,hfz,hnd⟩:=hW;have hA:DataW.TrodAll enc Tryd.prog W 0 (fun _=>true) true Tryd.f4.params.toList args.toList ds p:=hA0;rw[Tryd.params4]at hA hval;obtain⟨v0,vs0,d0,ds0,p0,q0,hargs,rfl,rfl,h0,r0⟩:=trodAll_cons hA;obtain⟨v1,vs1,d1,ds1,p1,q1,rfl,rfl,rfl,h1,r1⟩:=trodAll_cons r0;obtain⟨v2,vs2,d2,ds2,p2,q2,rfl,rfl,rfl,h2,r2⟩:=trodAll_cons r1;obtain⟨rfl,rfl,rfl⟩:=trodAll_nil r2;obtain rfl:args = #[v0,v1,v2]:=by cases args;simp_all
 obtain⟨rfl,rfl⟩:=trodVars_none hV;simp only[List.append_nil]at hW';have k0:=h0;have lt0 : ∀ x∈p0,x.block<W.heap.size:=by obtain⟨m,hm⟩:=k0;exact DataW.trod_lt m _ _ _ hm
 obtain⟨n0,hx0⟩:=h0;obtain⟨xs0,o0⟩:=Go.Ev.opens closed _ _ _ _ (by simp) hx0;obtain⟨a0,l0,c0,rfl⟩:=okWide_slice Tryd.underlying30 (hval 0 30 v0 rfl rfl);have hag0:Z8 Tryd.prog 30=false:=by kernel_rfl
 have hc0:Tryd.prog.cellsOf 30=1:=by kernel_rfl
 have g0:=o0.arg (fun h=>by rw[hag0]at h;cases h) (.inr ⟨hc0,fun a h=>by cases h⟩);have k1:=h1;have lt1 : ∀ x∈p1,x.block<W.heap.size:=by obtain⟨m,hm⟩:=k1;exact DataW.trod_lt m _ _ _ hm
 obtain⟨n1,hx1⟩:=h1;obtain⟨xs1,o1⟩:=Go.Ev.opens closed _ _ _ _ (by simp) hx1;obtain⟨a1,l1,c1,rfl⟩:=okWide_slice Tryd.underlying30 (hval 1 30 v1 rfl rfl);have hag1:Z8 Tryd.prog 30=false:=by kernel_rfl
 have hc1:Tryd.prog.cellsOf 30=1:=by kernel_rfl
 have g1:=o1.arg (fun h=>by rw[hag1]at h;cases h) (.inr ⟨hc1,fun a h=>by cases h⟩);have k2:=h2;have lt2 : ∀ x∈p2,x.block<W.heap.size:=by obtain⟨m,hm⟩:=k2;exact DataW.trod_lt m _ _ _ hm
 obtain⟨n2,hx2⟩:=h2;obtain⟨xs2,o2⟩:=Go.Ev.opens closed _ _ _ _ (by simp) hx2;obtain⟨a2,rfl⟩:=okWide_int Tryd.underlying3 (hval 2 3 v2 rfl rfl);have hag2:Z8 Tryd.prog 3=false:=by kernel_rfl
 have hc2:Tryd.prog.cellsOf 3=1:=by kernel_rfl
 have g2:=o2.arg (fun h=>by rw[hag2]at h;cases h) (.inr ⟨hc2,fun a h=>by cases h⟩);clear hA0 hval0;obtain⟨st',hst⟩:=zzG (xs:=[mkV Tryd.prog 30 xs0,mkV Tryd.prog 30 xs1,mkV Tryd.prog 3 xs2]) (r := .bool true) glr zAc zBg (zkg o0.1 o1.1 o2.1);have hst:=ztw zAT (by decide) hst;refine(zwi zBq mixed zAQ (f:=4) rfl (fn:=qx) rfl (RepL.cons g0 (RepL.cons g1 (RepL.cons g2 (RepL.nil _)))) (zBi hL) hst).mono fun e W' ⟨he,bel⟩ => ?_
 subst he;exact⟨_,rfl,_,_,_,[],_,[],hW',trodAll_mk1 (shut_bool Tryd.underlying4 _),(trodAll_cons_mk (Below.trod laidOut (by kernel_rfl) (of_decide_eq_true (by kernel_rfl)) k0 bel lt0) (trodAll_cons_mk (Below.trod laidOut (by kernel_rfl) (of_decide_eq_true (by kernel_rfl)) k1 bel lt1) (trodAll_cons_mk (Below.trod laidOut (by kernel_rfl) (of_decide_eq_true (by kernel_rfl)) k2 bel lt2) trodAll_mk0))),rfl,bel.frame _,fun h=>by cases h⟩
theorem over:Rows.opsFailsRow.holds Tryd.pinned (OpenSpec.ofChange Rows.opsFailsSpec):=
 OpenClaim.holds_of_wide 4 Tryd.f4 rfl rfl rfl rfl rfl rfl rfl ⟨rfl,rfl,rfl,rfl,rfl⟩ rfl rfl rfl rfl rfl (by kernel_rfl) Tryd.func4 (by kernel_rfl)
  (of_decide_eq_true (by kernel_rfl)) (by unfold Func.isWrapper;first | (rw[zBu (by decide +kernel)];kernel_rfl) | (rw[zBt (by decide +kernel)];exact⟨rfl,rfl⟩))
  (fun os started H enc _=>lifted os started H enc)
end Go.Proofs.YtnefgdahdccldaaDoor.opsFails
namespace Go.Proofs.YtnefgdahdccldaaDoor
theorem opsFails_holds:Rows.OpsFailsCardSaid:=
 Claim7.holds_tied_plain_at .later [] [.data,.pinned] true (true, "ae61e9d08259ce8e8272d28ec2167146d84cffdf6a07e182aa434ced0938186b") true opsFails.over (fun _ h=>by cases h) (by kernel_rfl) (fun _ h=>by cases h) opsFails_row_tie rfl ⟨rfl,rfl⟩ (by kernel_rfl) rfl
  (fun f fn hf hfn=>by
   obtain rfl:f=4:=Option.some.inj ((show Tryd.prog.funcNamed "erratum/erratumlaw15.OpsFails" = some 4 by kernel_rfl).symm.trans hf) |>.symm
   obtain rfl:fn=Tryd.f4:=(Option.some.inj (Tryd.func4.symm.trans hfn)).symm;exact⟨by kernel_rfl,fun j t ht=>by
    rw[Tryd.params4]at ht;have hm:t∈[30,30,3]:=by simpa using Array.mem_of_getElem? ht
    have hall:([30,30,3].all fun u => !Tryd.prog.wantsStandIn u)=true:=by kernel_rfl
    exact(show Tryd.prog.wantsStandIn t=false by simpa using List.all_eq_true.1 hall t hm)⟩)
  (by kernel_rfl)
#print axioms opsFails_holds
end Go.Proofs.YtnefgdahdccldaaDoor
