/- The law law16.MergeAll: whatever the input, the call returns true, and the input reads as it did. -/
import Derived.Test.YtdhfnobijejpcaaDoorRows
import Derived.Test.YtdhfnobijejpcaaDoorKEnv
import Derived.Test.YtdhfnobijejpcaaDoorKSxMergeAll
import Derived.WalkKit
import Derived.ProofKit
import Derived.OpenShut
import Derived.ShutString
import Derived.ChangeOld
import Derived.Below
import Derived.Test.YtdhfnobijejpcaaDoorTie
import Derived.Test.YtdhfnobijejpcaaDoorCards
import Derived.Lay
import Derived.LaidOnce
import Derived.SevenTiedAt
import Derived.LaidMore
import Derived.Test.YtdhfnobijejpcaaDoorKEvD
set_option linter.all false
namespace Go.Proofs.YtdhfnobijejpcaaDoor.mergeAll
open Go.ChangeShapes Go.WideShapes Go.ChangeAt Go.RowKit Go.Ev
set_option linter.unusedVariables false
theorem own:ownKnob Tryd.prog.godebug=none:=by kernel_rfl
theorem laidOut:laidOutB Tryd.prog=true:=by kernel_rfl
theorem closed:closedT Tryd.prog [29,3,4,25,23,38,9,26,27]=true:=by kernel_rfl
theorem tiok:TiOk Tryd.prog (tiOf Tryd.prog):=fun t i h=>h
theorem glr:GlR E0 gl0:=fun n v h=>by exact⟨toDL v,by show(glT n).map toDL=_;rw[show glT n=some v from h];rfl,by rw[toDL_cl0];exact List.prefix_rfl⟩
theorem mixed:Tryd.prog.follows .mixedOrders=true:=by kernel_rfl
theorem tabOk:TabOk E0 md0 tab0:=by
 intro f fn h
 unfold tab0 at h
 split at h<;>first | (injection h with h;subst h;exact⟨rfl,_,rfl⟩) | cases h
set_option maxRecDepth 100000 in
theorem glok{W:World}(h:laidMetH Tryd.prog Rows.mergeAllRow.laid W):GlOk (G0 W) E0:=by
 rw[MakeChecks.laidMetH_plain _ _ _ (by kernel_rfl)]at h
 intro n ds hn
 have hn:(glT n).map toDL=some ds:=hn
 obtain⟨xs,hx,rfl⟩:=Option.map_eq_some_iff.1 hn
 unfold glT at hx
 split at hx<;>first | contradiction | skip
 ·obtain rfl:=Option.some.inj hx
  exact gl_laid h (name := "unicode/utf8.first") (d:=Rows.laid_unicode_utf8_first) (by unfold Rows.mergeAllRow;exact(.tail _ (.head _))) (by kernel_rfl) (t:=(((Tryd.prog.globals[0]?).map (·.type)).getD 0)) (by kernel_rfl) (n:=8) (vs:=(lits Tryd.prog 8 (((Tryd.prog.globals[0]?).map (·.type)).getD 0) Rows.laid_unicode_utf8_first).get (by kernel_rfl)) (Option.some_get _).symm (by kernel_rfl) (by kernel_rfl)
 ·obtain rfl:=Option.some.inj hx
  exact gl_laid h (name := "unicode/utf8.acceptRanges") (d:=Rows.laid_unicode_utf8_acceptRanges) (by unfold Rows.mergeAllRow;exact(.head _)) (by kernel_rfl) (t:=(((Tryd.prog.globals[1]?).map (·.type)).getD 0)) (by kernel_rfl) (n:=8) (vs:=(lits Tryd.prog 8 (((Tryd.prog.globals[1]?).map (·.type)).getD 0) Rows.laid_unicode_utf8_acceptRanges).get (by kernel_rfl)) (Option.some_get _).symm (by kernel_rfl) (by kernel_rfl)
set_option maxRecDepth 100000 in
theorem lifted(os:Os)(started:os.Started)(H:Type)(enc:TypeId×Value→H) :
  ReturnsInHanded {} Tryd.checked os 6 .any (fun w args=>(Rows.mergeAllSpec.pre enc Tryd.prog Tryd.f6 [] false w args∧laidMetH Tryd.prog Rows.mergeAllRow.laid w)∧sizedMet enc Tryd.prog Tryd.f6 (OpenSpec.ofChange Rows.mergeAllSpec) false w args)
   (Rows.mergeAllSpec.post enc Tryd.prog Tryd.f6 false true false false):=by
 refine returnsInHanded_of_change_and (C:=Tryd.checked) (X:=fun w _=>laidMetH Tryd.prog Rows.mergeAllRow.laid w) (fun _ _ _ hh h=>h.of_heap hh) own started (by kernel_rfl) Tryd.func6
  (ChangeSpec.witness_shaped (enc:=enc) (C:=Tryd.checked) (os:=os) (X:=fun w _=>laidMetH Tryd.prog Rows.mergeAllRow.laid w) false (World.laidAll Tryd.prog os Rows.mergeAllRow.laid) #[.agg #[.int .i64 0,.bool false,.bool false,.slice none 0 0,.int .i64 0,.string ByteArray.empty,.slice none 0 0,.slice none 0 0],.agg #[.int .i64 0,.bool false,.bool false,.slice none 0 0,.int .i64 0,.string ByteArray.empty,.slice none 0 0,.slice none 0 0],.int .i64 0] 8 (World.laidAll_os _ _ _)
   (World.shaped_of_ZipB (by kernel_rfl) (by kernel_rfl)) (by kernel_rfl) (by kernel_rfl) (by kernel_rfl)
   (by rw[MakeChecks.laidMetH_plain _ _ _ (by kernel_rfl)];exact laidMet_laidAll _ (by kernel_rfl) (by kernel_rfl))) ?_
 intro W base args ds gs before hval0 hW _ _ hL _
 have hval : ∀ (j:Nat) t v,Tryd.f6.params[j]?=some t→args[j]?=some v→Value.okWide Tryd.prog W .any base t v:=hval0
 have hW':=hW
 obtain⟨p,q,hA0,hV,rfl,hfz,hnd⟩:=hW
 have hA:DataW.TrodAll enc Tryd.prog W 0 (fun _=>true) true Tryd.f6.params.toList args.toList ds p:=hA0
 rw[Tryd.params6]at hA hval
 obtain⟨v0,vs0,d0,ds0,p0,q0,hargs,rfl,rfl,h0,r0⟩:=trodAll_cons hA
 obtain⟨v1,vs1,d1,ds1,p1,q1,rfl,rfl,rfl,h1,r1⟩:=trodAll_cons r0
 obtain⟨v2,vs2,d2,ds2,p2,q2,rfl,rfl,rfl,h2,r2⟩:=trodAll_cons r1
 obtain⟨rfl,rfl,rfl⟩:=trodAll_nil r2
 obtain rfl:args = #[v0,v1,v2]:=by cases args;simp_all
 obtain⟨rfl,rfl⟩:=trodVars_none hV
 simp only[List.append_nil]at hW'
 have k0:=h0
 have lt0 : ∀ x∈p0,x.block<W.heap.size:=by obtain⟨m,hm⟩:=k0;exact DataW.trod_lt m _ _ _ hm
 obtain⟨n0,hx0⟩:=h0
 obtain⟨xs0,o0⟩:=Go.Ev.opens closed _ _ _ _ (by simp) hx0
 obtain⟨a0,rfl,_⟩:=okWide_struct Tryd.underlying29 (hval 0 29 v0 rfl rfl)
 have g0:=o0.arg (fun _=>⟨_,rfl⟩) (.inl (by kernel_rfl))
 have k1:=h1
 have lt1 : ∀ x∈p1,x.block<W.heap.size:=by obtain⟨m,hm⟩:=k1;exact DataW.trod_lt m _ _ _ hm
 obtain⟨n1,hx1⟩:=h1
 obtain⟨xs1,o1⟩:=Go.Ev.opens closed _ _ _ _ (by simp) hx1
 obtain⟨a1,rfl,_⟩:=okWide_struct Tryd.underlying29 (hval 1 29 v1 rfl rfl)
 have g1:=o1.arg (fun _=>⟨_,rfl⟩) (.inl (by kernel_rfl))
 have k2:=h2
 have lt2 : ∀ x∈p2,x.block<W.heap.size:=by obtain⟨m,hm⟩:=k2;exact DataW.trod_lt m _ _ _ hm
 obtain⟨n2,hx2⟩:=h2
 obtain⟨xs2,o2⟩:=Go.Ev.opens closed _ _ _ _ (by simp) hx2
 obtain⟨a2,rfl⟩:=okWide_int Tryd.underlying3 (hval 2 3 v2 rfl rfl)
 have hag2:isAggT Tryd.prog 3=false:=by kernel_rfl
 have hc2:Tryd.prog.cellsOf 3=1:=by kernel_rfl
 have g2:=o2.arg (fun h=>by rw[hag2]at h;cases h) (.inr ⟨hc2,fun a h=>by cases h⟩)
 clear hA0 hval0
 obtain⟨st',hst⟩:=law_pv (xs:=[mkV Tryd.prog 29 xs0,mkV Tryd.prog 29 xs1,mkV Tryd.prog 3 xs2]) (r := .bool true) glr tabOk txOk (pure_MergeAll o0.1 o1.1 o2.1)
 refine(law_walk tiok mixed envOk (f:=6) rfl (fn:=n_law16_MergeAll) rfl (RepL.cons g0 (RepL.cons g1 (RepL.cons g2 (RepL.nil _)))) (glok hL) hst).mono fun e W' ⟨he,bel⟩ => ?_
 subst he
 exact⟨_,rfl,_,_,_,[],_,[],hW',trodAll_mk1 (shut_bool Tryd.underlying4 _),(trodAll_cons_mk (Below.trod laidOut (by kernel_rfl) (of_decide_eq_true (by kernel_rfl)) k0 bel lt0) (trodAll_cons_mk (Below.trod laidOut (by kernel_rfl) (of_decide_eq_true (by kernel_rfl)) k1 bel lt1) (trodAll_cons_mk (Below.trod laidOut (by kernel_rfl) (of_decide_eq_true (by kernel_rfl)) k2 bel lt2) trodAll_mk0))),rfl,bel.frame _,fun h=>by cases h⟩
theorem over:Rows.mergeAllRow.holds Tryd.pinned (OpenSpec.ofChange Rows.mergeAllSpec):=
 OpenClaim.holds_of_wide 6 Tryd.f6 rfl rfl rfl rfl rfl rfl rfl ⟨rfl,rfl,rfl,rfl,rfl⟩ rfl rfl rfl rfl rfl (by kernel_rfl) Tryd.func6 (by kernel_rfl)
  (of_decide_eq_true (by kernel_rfl)) (by unfold Func.isWrapper;first | (rw[if_pos (by decide +kernel)];kernel_rfl) | (rw[if_neg (by decide +kernel)];exact⟨rfl,rfl⟩))
  (fun os started H enc _=>lifted os started H enc)
end Go.Proofs.YtdhfnobijejpcaaDoor.mergeAll
namespace Go.Proofs.YtdhfnobijejpcaaDoor
/-- The tied card: whatever the input, the law's call returns true, and the input reads as it did. -/
theorem mergeAll_holds:Rows.MergeAllCardSaid:=
 Claim7.holds_tied_plain_at .later [] [.data,.pinned] true (true, "4270e3d3fcf10fa52a3670d4695a319c5c9c393cf109585f4e716514abbaaf9d") false mergeAll.over (fun _ h=>by cases h) (by kernel_rfl) (fun _ h=>by cases h) mergeAll_row_tie rfl ⟨rfl,rfl⟩ (by kernel_rfl) rfl
  (fun f fn hf hfn=>by
   obtain rfl:f=6:=Option.some.inj ((show Tryd.prog.funcNamed "erratum/erratumlaw16.MergeAll" = some 6 by kernel_rfl).symm.trans hf) |>.symm
   obtain rfl:fn=Tryd.f6:=(Option.some.inj (Tryd.func6.symm.trans hfn)).symm
   exact⟨by kernel_rfl,fun j t ht=>by
    rw[Tryd.params6]at ht
    have hm:t∈[29,29,3]:=by simpa using Array.mem_of_getElem? ht
    have hall:([29,29,3].all fun u => !Tryd.prog.wantsStandIn u)=true:=by kernel_rfl
    exact(show Tryd.prog.wantsStandIn t=false by simpa using List.all_eq_true.1 hall t hm)⟩)
  (by kernel_rfl)
#print axioms mergeAll_holds
end Go.Proofs.YtdhfnobijejpcaaDoor
