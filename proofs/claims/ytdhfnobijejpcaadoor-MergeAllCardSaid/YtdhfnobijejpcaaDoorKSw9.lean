/- What is clean; weights of what is merged; merging of what is in order: by the code, by the reference. -/
import Derived.Test.YtdhfnobijejpcaaDoorKSw8
set_option linter.all false
open Option renaming map_some→zC
open Bool renaming false_eq_true→zF,not_true→zH,not_false→zI,true_eq_false→zX
open List renaming getElem?_eq_getElem→zL,drop_eq_getElem_cons→zO,mem_cons_of_mem→zP,drop_eq_nil_of_le→zQ,drop_zero→zU
open Nat renaming le_refl→zR
namespace Go.Ev
attribute [local irreducible] P0
theorem light_bnd : ∀ t,LightT t → ∀ d,depth t≤d→Bnd 40 d t:=by
 intro t
 induction t using Tree.ind with
 | h t ih=>
 intro h d hd
 cases h with
 | mk _ h1 h2 h3 h4 h5 hv=>
 rw[depth_eq]at hd
 obtain⟨e,rfl⟩ : ∃ e,d=e+1:=⟨d - 1,by omega⟩
 exact .mk e t h4 (fun x hx=>ih x hx (hv x hx) e (by have:=depthL_le hx;omega))
theorem rclean_loop(t:Tree)(hk:t.kind=7)(hl:t.v.length≤1000000)(hc : ∀ x,x∈t.v→P0 f_ref16_Clean [.v x.val] []=some (.bool (cln x),[]))(m:Nat) : ∀ i,i+m=t.v.length →
  loopL (L_ref16_Clean_1 t.val) (vec [.int .i64 (i:Int)])=if clnL (t.v.drop i)=true then some (0,vec [])else some (1,vec [.bool false]):=by
 induction m with
 | zero=>
  intro i hi
  rw[zQ (by omega)]
  rw[if_pos (show clnL []=true by simp[clnL])]
  apply loopL_inr
  unfold L_ref16_Clean_1
  have c1 : ¬ (i:Int)<(t.v.length:Int):=by omega
  simp only[tick_eq,vec_0,fld7,lenV_sl,trs_len,some_bind,lss_i,c1,decide_false,asBool_b,zF,if_false]
 | succ m ih=>
  intro i hi
  have h1:i<t.v.length:=by omega
  have c1:(i:Int)<(t.v.length:Int):=by omega
  have hx:t.v[i]?=some t.v[i]:=zL h1
  have hcx:=hc _ (List.getElem_mem h1)
  rw[zO h1,clnL]
  generalize t.v[i]=x at *
  by_cases k1:x.kind=1
  ·rw[if_pos k1,if_neg (by decide)]
   apply loopL_inr
   unfold L_ref16_Clean_1
   simp only[tick_eq,vec_0,fld0,fld7,hk,lenV_sl,trs_len,some_bind,lss_i,c1,decide_true,asBool_b,if_true,eql_i,asSl_trs,idx_nat _ i t.v.length h1,trs_get,hx,zC,k1,zX,if_false]
  ·rw[if_neg k1]
   cases hb:cln x with
   | false=>
    simp only[zF,if_false]
    rw[hb]at hcx
    apply loopL_inr
    unfold L_ref16_Clean_1
    simp only[tick_eq,vec_0,fld0,fld7,hk,lenV_sl,trs_len,some_bind,lss_i,c1,decide_true,asBool_b,if_true,eql_i,asSl_trs,idx_nat _ i t.v.length h1,trs_get,hx,zC,k1,decide_false,hcx,not_b,zI]
   | true=>
    rw[if_pos rfl,← ih (i+1) (by omega)]
    rw[hb]at hcx
    apply loopL_inl
    unfold L_ref16_Clean_1
    simp only[tick_eq,vec_0,fld0,fld7,hk,lenV_sl,trs_len,some_bind,lss_i,c1,decide_true,asBool_b,if_true,eql_i,asSl_trs,idx_nat _ i t.v.length h1,trs_get,hx,zC,k1,decide_false,hcx,not_b,zH,zF,if_false,add_i,i64_succ (i:=i) (by omega)]
theorem rclean_ok{c d:Nat}{t:Tree}(hc:c≤1000000)(h:Bnd c d t):P0 f_ref16_Clean [.v t.val] []=some (.bool (cln t),[]):=by
 induction h with
 | mk d t hl hv ih=>
  rw[eq_ref16_Clean,cln_eq];unfold F_ref16_Clean
  by_cases hk:t.kind=7
  ·have h:=rclean_loop t hk (by omega) ih t.v.length 0 (by omega)
   rw[zU,show((0:Nat):Int)=0 from rfl]at h
   cases hb:clnL t.v with
   | true=>
    rw[hb,if_pos rfl]at h
    simp only[tick_eq,okN_tree,tst_t,h,some_bind,if_true,hk,ne_eq,not_true_eq_false,decide_false,Bool.false_or]
   | false=>
    rw[hb,if_neg (by decide)]at h
    simp only[tick_eq,okN_tree,tst_t,h,some_bind,Nat.one_ne_zero,if_false,vec_0,hk,ne_eq,not_true_eq_false,decide_false,Bool.false_or]
  ·have h:loopL (L_ref16_Clean_1 t.val) (vec [.int .i64 0])=some (0,vec []):=by
    apply loopL_inr
    unfold L_ref16_Clean_1
    by_cases h1:0<t.v.length
    ·have c1:(0:Int)<(t.v.length:Int):=by omega
     simp only[tick_eq,vec_0,fld0,fld7,lenV_sl,trs_len,some_bind,lss_i,c1,decide_true,asBool_b,if_true,eql_i,hk,decide_false,zF,if_false]
    ·have c1 : ¬ (0:Int)<(t.v.length:Int):=by omega
     simp only[tick_eq,vec_0,fld7,lenV_sl,trs_len,some_bind,lss_i,c1,decide_false,asBool_b,zF,if_false]
   simp only[tick_eq,okN_tree,tst_t,h,some_bind,if_true,ne_eq,hk,not_false_eq_true,decide_true,Bool.true_or]
/-- in order, and of sizes that go together -/
inductive OrdT:Tree→Prop
 | mk (t:Tree) (h:t.kind=7→t=obj (al t)) (hs:SrtA (al t)) (h1:U32 t.n.m) (h2:t.n.m.length≤1000) (h3:t.k.length≤t.v.length) (hv : ∀ x,x∈t.v→OrdT x):OrdT t
theorem OrdT.null:OrdT Ev.null := .mk _ (fun h=>by simp[Ev.null,Tree.kind]at h) (by rw[al_of (by simp[Ev.null,Tree.kind])];trivial) (fun x hx=>by simp[Ev.null,Tree.n,Nm.zero]at hx) (by simp[Ev.null,Tree.n,Nm.zero]) (zR _) (fun x hx=>by simp[Ev.null,Tree.v]at hx)
theorem ord_obj{l:AL}(hs:SrtA l)(hv : ∀ q,q∈l→OrdT q.2):OrdT (obj l):=
 .mk _ (fun _=>by rw[al_obj]) (by rw[al_obj];exact hs) (fun x hx=>by simp[obj,Tree.n,Nm.zero]at hx) (by simp[obj,Tree.n,Nm.zero]) (by show(names l).length≤(valsL l).length;rw[names_len,valsL_len];exact zR _) (fun x hx=>by
  obtain⟨q,hq,rfl⟩:=List.mem_map.1 (show x∈valsL l from hx)
  exact hv q hq)
theorem OrdT.al_ord{t:Tree}(h:OrdT t) : ∀ q,q∈al t→OrdT q.2:=by
 intro q hq
 cases h with
 | mk _ h hs h1 h2 h3 hv=>
  by_cases hk:t.kind=7
  ·refine hv _ ?_
   have:t.v=valsL (al t):=by
    have:=congrArg Tree.v (h hk)
    exact this
   rw[this]
   exact List.mem_map.2 ⟨q,hq,rfl⟩
  ·rw[al_of hk]at hq;simp at hq
theorem OrdT.al_srt{t:Tree}(h:OrdT t):SrtA (al t):=by cases h;assumption
theorem srt_of' : ∀ {l:List Str},(∀ k (h:k<l.length) (h0:0<k),lt (l[k - 1]'(by omega)) l[k]=true)→Srt l
 | [],_=>trivial
 | [x],_=>⟨fun y hy=>by simp at hy,trivial⟩
 | x::y::r,h=>by
  have ih:Srt (y::r):=srt_of' (fun k hk h0=>by
   have:=h (k+1) (by simpa using hk) (by omega)
   cases k with
   | zero=>omega
   | succ k=>simpa using this)
  have hxy:lt x y=true:=by have:=h 1 (by simp) (by omega);simpa using this
  refine⟨fun z hz => ?_,ih⟩
  rcases List.mem_cons.1 hz with rfl | hz
  ·exact hxy
  ·exact lt_trans hxy (ih.1 z hz)
theorem obj_of'{t:Tree}(h:OkG t)(hk:t.kind=7):t=obj (al t)∧names (al t)=t.k∧NmsP t.k:=by
 obtain⟨e,hn,hl⟩:=(own_shape h.own).2.2.2.2.2.2 hk
 have ha:al t=t.k.zip t.v:=if_pos hk
 have h1:names (al t)=t.k:=by rw[ha,names_zip,hl];simp[← hl]
 have h2:valsL (al t)=t.v:=by rw[ha,valsL_zip,hl];simp
 have h3:obj (al t)=Tree.mk 7 false .zero [] (names (al t)) (valsL (al t)):=rfl
 exact⟨by rw[h3,h1,h2];exact e,h1,hn⟩
theorem okG_ord : ∀ t,OkG t→TameT t→OrdT t:=by
 intro t
 induction t using Tree.ind with
 | h t ih=>
 intro hg ht
 have hsub:=fun x hx=>ih x hx (hg.sub x hx) (ht.sub x hx)
 obtain⟨a1,a2,a3,a4,a5,a6,a7⟩:=own_shape hg.own
 have hz:U32 Nm.zero.m∧Nm.zero.m.length≤1000:=⟨fun x hx=>by simp[Nm.zero]at hx,by simp[Nm.zero]⟩
 have key : ∀ (hn:t.n.m.length≤1000) (hkv:t.k.length≤t.v.length),OrdT t:=fun hn hkv=>by
  refine .mk t (fun hk=>(obj_of' hg hk).1) ?_ ht.tame.1 hn hkv hsub
  by_cases hk:t.kind=7
  ·obtain⟨e1,e2,e3⟩:=obj_of' hg hk
   show Srt (names (al t))
   rw[e2]
   exact srt_of' (fun k hk h0=>(e3.1 k hk (by have:=e3.2;omega)).2 h0)
  ·rw[al_of hk];trivial
 rcases own_kind hg.own with h | h | h | h | h | h | h
 ·have e:=a1 h
  exact key (by rw[e];exact hz.2) (by rw[e];exact zR _)
 ·have e:=a2 h
  exact key (by rw[e];exact hz.2) (by rw[e];exact zR _)
 ·obtain⟨e,hb⟩:=a3 h
  exact key (by have:=nokB_len hb;omega) (by rw[e];exact zR _)
 ·have e:=a4 h
  exact key (by rw[e];exact hz.2) (by rw[e];exact zR _)
 ·have e:=a5 h
  exact key (by rw[e];exact hz.2) (by rw[e];exact zR _)
 ·have e:=a6 h
  exact key (by rw[e];exact hz.2) (by rw[e];exact Nat.zero_le _)
 ·obtain⟨e,hb,hl⟩:=a7 h
  exact key (by rw[e];exact hz.2) (by omega)
/-- weights of lists of pairs -/
def wA(u:AL):Nat:=weightL (valsL u)
theorem wA_cons(k:Str)(v:Tree)(r:AL):wA ((k,v)::r)=weight v+wA r:=by
 show weightL (v::valsL r)=_
 rw[weightL];rfl
theorem wA_mem{u:AL}{q:Str×Tree}(h:q∈u):weight q.2≤wA u:=weightL_le (List.mem_map.2 ⟨q,h,rfl⟩)
theorem len_wA(u:AL):u.length≤wA u:=by have:=len_weightL (valsL u);rw[valsL_len]at this;exact this
theorem wA_del(n:Str)(u:AL):wA (delA n u)≤wA u:=by
 induction u with
 | nil=>exact zR _
 | cons p r ih=>
  obtain⟨k,w⟩:=p
  simp only[delA]
  split
  ·rw[wA_cons];omega
  ·rw[wA_cons,wA_cons];omega
def wO:Option Tree→Nat
 | some x=>weight x
 | none=>0
theorem wA_set{n:Str}{v:Tree}{u:AL}(hs:SrtA u):wA (setA n v u)+wO (lk n u)=wA u+weight v:=by
 induction u with
 | nil=>simp only[setA,lk,wO,wA_cons];omega
 | cons p r ih=>
  obtain⟨k,w⟩:=p
  obtain⟨h1,h2⟩:=srt_cons.1 hs
  by_cases hk:k=n
  ·simp only[setA,lk,if_pos hk,wO,wA_cons];omega
  ·by_cases hlt:lt n k=true
   ·have hno:lk n r=none:=lk_names.2 (fun hm=>by
     have:=lt_trans hlt (h1 n hm)
     rw[lt_irrefl]at this;contradiction)
    simp only[setA,lk,if_neg hk,if_pos hlt,hno,wO,wA_cons];omega
   ·have:=ih h2
    simp only[setA,lk,if_neg hk,if_neg hlt,wA_cons];omega
theorem al_weight{t:Tree}(h:OrdT t):wA (al t)≤weight t:=by
 cases h with
 | mk _ h hs h1 h2 h3 hv=>
  by_cases hk:t.kind=7
  ·have e:wA (al t)=weightL t.v:=by
    have:=congrArg Tree.v (h hk)
    show weightL (valsL (al t))=_
    rw[this];rfl
   rw[weight_eq];omega
  ·rw[al_of hk];exact Nat.zero_le _
theorem weight_obj(l:AL):weight (obj l)=1+wA l:=by
 rw[weight_eq]
 have:w1 (obj l)=1:=by unfold w1;simp[obj,Tree.kind]
 rw[this];rfl
theorem null_al:al Ev.null=[]:=al_of (by simp[Ev.null,Tree.kind])
theorem mrg_ordw{p:Tree}(hp:OrdT p) : ∀ t,OrdT t→OrdT (mrg t p)∧weight (mrg t p)≤wA (al t)+weight p:=by
 induction hp with
 | mk p h hs h1 h2 h3 hv ih=>
 intro t ht
 by_cases hk:p.kind=7
 ·have hpe:=h hk
  have hpv:p.v=valsL (al p):=congrArg Tree.v hpe
  have hm : ∀ q,q∈al p→q.2∈p.v:=fun q hq=>by rw[hpv];exact List.mem_map.2 ⟨q,hq,rfl⟩
  have loop : ∀ l:AL,(∀ q,q∈l→q∈al p) → ∀ u:AL,SrtA u→(∀ q,q∈u→OrdT q.2) →
    SrtA (mrgA u (names l) (valsL l))∧(∀ q,q∈mrgA u (names l) (valsL l)→OrdT q.2)∧wA (mrgA u (names l) (valsL l))≤wA u+wA l:=by
   intro l
   induction l with
   | nil=>intro _ u hu hq;simp only[names,valsL,List.map_nil,mrgA];exact⟨hu,hq,by omega⟩
   | cons q r ihr=>
    obtain⟨k,v⟩:=q
    intro hl u hu hq
    show SrtA (mrgA u (k::names r) (v::valsL r))∧(∀ q,q∈mrgA u (k::names r) (v::valsL r)→OrdT q.2)∧wA (mrgA u (k::names r) (v::valsL r))≤_
    rw[mrgA,wA_cons]
    have hl' : ∀ q,q∈r→q∈al p:=fun q hq=>hl q (zP _ hq)
    by_cases k1:v.kind=1
    ·rw[if_pos k1]
     obtain⟨g1,g2,g3⟩:=ihr hl' _ (srt_del (n:=k) hu) (fun q hq'=>hq q (mem_del hq'))
     have:=wA_del k u
     exact⟨g1,g2,by omega⟩
    ·rw[if_neg k1]
     have hvm:v∈p.v:=hm _ (hl (k,v) List.mem_cons_self)
     have hwas:OrdT ((lk k u).getD Ev.null):=by
      cases hx:lk k u with
      | none=>exact .null
      | some x=>exact hq _ (lk_mem hx)
     obtain⟨b1,b2⟩:=ih v hvm _ hwas
     obtain⟨g1,g2,g3⟩:=ihr hl' _ (srt_set (n:=k) (v:=mrg ((lk k u).getD Ev.null) v) hu) (fun q hq'=>by
      rcases mem_set hq' with rfl | hq'
      ·exact b1
      ·exact hq q hq')
     have hw:=wA_set (n:=k) (v:=mrg ((lk k u).getD Ev.null) v) hu
     have hb:weight (mrg ((lk k u).getD Ev.null) v)≤wO (lk k u)+weight v:=by
      cases hx:lk k u with
      | none=>
       rw[hx]at b2
       simp only[Option.getD_none,wO,null_al]at b2 ⊢
       have:wA ([]:AL)=0:=rfl
       omega
      | some x=>
       rw[hx]at b2 hwas
       simp only[Option.getD_some,wO]at b2 hwas ⊢
       have:=al_weight hwas
       omega
     exact⟨g1,g2,by omega⟩
  obtain⟨g1,g2,g3⟩:=loop (al p) (fun q hq=>hq) (al t) ht.al_srt ht.al_ord
  rw[hpe,mrg_obj,weight_obj,weight_obj,← al_obj (mrgA _ _ _),al_obj,al_obj]at *
  exact⟨ord_obj g1 g2,by omega⟩
 ·rw[mrg_no hk]
  exact⟨.mk p h hs h1 h2 h3 hv,by omega⟩
theorem ord_siz : ∀ t,OrdT t→weight t≤1000000→SizT t:=by
 intro t
 induction t using Tree.ind with
 | h t ih=>
 intro h hw
 rw[weight_eq]at hw
 have hl:=len_weightL t.v
 cases h with
 | mk _ h hs h1 h2 h3 hv=>exact .mk t h1 h2 (by omega) (by omega) (fun x hx=>ih x hx (hv x hx) (by have:=weightL_le hx;omega))
end Go.Ev
