/- The machines Ev and Pv, part 5: an abstract machine over the translated code, proved sound once. -/
import Derived.Test.YtnefgdahdccldaaDoorKEvD
import Derived.ChangeSlices
import Derived.OpenShut
import Derived.Test.YtnefgdahdccldaaDoorKEvC
import Derived.LaidSub
set_option linter.all false
open Option renaming bind_eq_some_iff->zA,map_eq_some_iff->zB,map_some->zC,bind_some->zD,bind_assoc->zE
open Bool renaming false_eq_true->zF,and_eq_true->zG,true_eq_false->zX
open Nat renaming eq_of_beq_eq_true->zJ,lt_of_lt_of_le->zK,le_refl->zR
open List renaming getElem?_eq_getElem->zL,getElem?_cons_succ->zN,mem_cons_of_mem->zP,drop_eq_nil_of_le->zQ,mem_cons->zS,length_append->zZ
namespace Go.Ev
section
def CP.low(m:Nat):CP->Prop
 | .v _=>True
 | .p k _=>k<m
def PS.low(m:Nat):PS->Prop
 | .ptr k _=>k<m
 | .ptrA k _ _ _=>k<m
 | .ref k _ _ _ _ _=>k<m
 | .uref k _ _=>k<m
 | .fn _ cap => ∀ q∈cap,q.low m
 | _=>True
def PD.low(m:Nat):PD->Prop
 | .s q=>q.low m
 | .agg ps => ∀ q∈ps,q.low m
theorem RCL.low{ρ:Nat->Nat}{m:Nat}{cap:List CP}{ds:List D}(h:RCL ρ m cap ds) : ∀ q∈cap,q.low m:=by
 induction cap generalizing ds with
 | nil=>intro q hq;simp at hq
 | cons a r ih=>cases ds with
  | nil=>exact h.elim
  | cons d s=>
   intro q hq;rcases List.mem_cons.1 hq with rfl | hq
   ·cases q with
    | v x=>trivial
    | p k off=>exact h.1.1
   ·exact ih h.2 q hq
theorem RS.low{c:Cx}{q:PS}{d:D}(h:RS c q d):q.low c.m:=by
 cases q with
 | ptr k off=>exact h.1
 | ptrA k sz i off=>exact h.1
 | ref k sz off n cp z=>exact h.1
 | uref k sz n=>exact h.1
 | fn f cap=>obtain⟨ds,_,h⟩:=h;exact h.low
 | _=>trivial
theorem RSL.low{c:Cx}{ps:List PS}{ds:List D}(h:RSL c ps ds) : ∀ q∈ps,q.low c.m:=by
 induction ps generalizing ds with
 | nil=>intro q hq;simp at hq
 | cons a r ih=>cases ds with
  | nil=>exact h.elim
  | cons d s=>
   intro q hq;rcases List.mem_cons.1 hq with rfl | hq
   ·exact h.1.low
   ·exact ih h.2 q hq
theorem RP.low{c:Cx}{q:PD}{d:D}(h:RP c q d):q.low c.m:=by
 cases q with
 | s q=>exact RS.low h
 | agg ps=>obtain⟨ds,_,h,_⟩:=h;exact h.low
theorem RCL.at{ρ ρ':Nat->Nat}{m m':Nat}{cap:List CP}{ds:List D}(h:RCL ρ m cap ds)(hl : ∀ q∈cap,q.low m')(hρ : ∀ k,k<m'->ρ' k=ρ k):RCL ρ' m' cap ds:=by
 induction cap generalizing ds with
 | nil=>cases ds with | nil=>trivial | cons _ _=>exact h.elim
 | cons a r ih=>cases ds with
  | nil=>exact h.elim
  | cons d s=>
   refine⟨?_,ih h.2 (fun q hq=>hl q (zP _ hq))⟩;have:=hl a zBY;cases a with
   | v x=>exact h.1
   | p k off=>exact⟨this,by rw[hρ k this];exact h.1.2⟩
theorem RS.at{c c':Cx}{q:PS}{d:D}(h:RS c q d)(hl:q.low c'.m)(ho:vG [q]=false)(hc:zj5 c c'):RS c' q d:=by
 cases q with
 | v x=>exact h
 | own id sz xs=>simp[vG]at ho
 | full xs=>exact h
 | ptr k off=>exact⟨hl,by rw[hc.ρ k hl];exact h.2⟩
 | ptrA k sz i off=>
  refine⟨hl,by rw[hc.ρ k hl];exact h.2.1,fun s n hs => ?_⟩;rcases hc.rk k hl with e | e
  ·exact h.2.2 s n (by rw[<- e];exact hs)
  ·rw[e]at hs;contradiction
 | ref k sz off n cp z=>
  refine⟨hl,h.2.1,by rw[hc.ρ k hl];exact h.2.2.1,fun s n hs => ?_⟩;rcases hc.rk k hl with e | e
  ·exact h.2.2.2 s n (by rw[<- e];exact hs)
  ·rw[e]at hs;contradiction
 | uref k sz n=>
  refine⟨hl,by rw[hc.ρ k hl];exact h.2.1,fun s n hs => ?_⟩;rcases hc.rk k hl with e | e
  ·exact h.2.2 s n (by rw[<- e];exact hs)
  ·rw[e]at hs;contradiction
 | el cs=>exact h
 | elx sz x off=>exact h
 | fn f cap=>obtain⟨ds,h1,h2⟩:=h;exact⟨ds,h1,RCL.at h2 hl hc.ρ⟩
theorem RSL.at{c c':Cx}{ps:List PS}{ds:List D}(h:RSL c ps ds)(hl : ∀ q∈ps,q.low c'.m)(ho:vG ps=false)(hc:zj5 c c'):RSL c' ps ds:=by
 induction ps generalizing ds with
 | nil=>cases ds with | nil=>trivial | cons _ _=>exact h.elim
 | cons a r ih=>cases ds with
  | nil=>exact h.elim
  | cons d s=>rw[Kc,Bool.or_eq_false_iff]at ho;exact⟨RS.at h.1 (hl a zBY) ho.1 hc,ih h.2 (fun q hq=>hl q (zP _ hq)) ho.2⟩
theorem RP.at{c c':Cx}{q:PD}{d:D}(h:RP c q d)(hl:q.low c'.m)(ho:q.hasOwn=false)(hc:zj5 c c'):RP c' q d:=by
 cases q with
 | s q=>exact RS.at h hl ho hc
 | agg ps=>obtain⟨ds,h1,h2,h3⟩:=h;exact⟨ds,h1,RSL.at h2 hl ho hc,h3⟩
theorem zwJ{head:Bool}{v:Nat->V}{rks:List RK}{rows:List Row}{i ni:Nat}{z:List Row×Nat×Nat}(h:YS head v i ni rks rows=some z):rks.length=rows.length:=by
 induction rks generalizing rows i ni z with
 | nil=>cases rows with | nil=>rfl | cons _ _=>simp[YS]at h
 | cons rk r ih=>cases rows with
  | nil=>simp[YS]at h
  | cons a s=>obtain⟨f,c⟩:=a;cases rk<;>simp only[YS]at h<;>split at h<;>first | contradiction | (next hq=>simp[ih hq])
structure znS(strict head:Bool)(p p' q:PSt)(τ' τ'':Nat->Option Nat):Prop where
 len:q.rows.length=p.rows.length
 le:q.rows.length<=p'.rows.length
 τn : ∀ i l,τ'' i=some l -> ∃ j,τ' j=some l
 slot : ∀ t d,xb q.tm t=some (true,d) -> ∃ f0 f',xb p.tm t=some (f0,d)/\(head||f0)=true/\xb p'.tm t=some (f',d)/\(strict=true->f'=true)/\d.hasOwn=false
 row : ∀ (k:Nat) (rq:Row),q.rows[k]?=some rq -> ∃ r0 r':Row,p.rows[k]?=some r0/\p'.rows[k]?=some r' /\
  ((rq=⟨head||r0.ro,r0.c⟩/\r0.c=r'.c/\(strict=true->r'.ro=true)/\r0.c.hasOwn=false)\/(rq.ro=false/\r'.ro=false))
 rk : ∀ k,k<q.rows.length->yj q.rows k=yj p'.rows k\/yj q.rows k=none
theorem zb3{ρ':Type}{r:ρ'}{strict:Bool}{sh:Sh}{p':PSt}{K:(Nat->V)->Option ρ'}(h:Kt strict sh p' K=some r) :
  ∃ v,K v=some r /\ ∀ (head:Bool) (p q:PSt),dec head sh p v=some q -> ∀ (ρ0 ρ1:Nat->Nat) (τ0 τ1:Nat->Option Nat) (st0 st1:St),Sim ρ0 τ0 p st0->Sim ρ1 τ1 p' st1 ->
   (∀ t f' d',xb p'.tm t=some (f',d')->(strict=true->f'=true) -> ∀ f0 d,xb p.tm t=some (f0,d)->d=d') ->
   (∀ (k:Nat) (r0 r':Row),p.rows[k]?=some r0->p'.rows[k]?=some r'->(strict=true->r'.ro=true)->r0.c=r'.c) ->
   ∃ τ2,Sim ρ1 τ2 q st1/\znS strict head p p' q τ1 τ2:=by
 unfold Kt at h;obtain⟨l1,idl1,h1,h2,h3⟩:=zys h;obtain⟨l2,idl2,h4,h5,h6⟩:=zxZ h1;refine⟨_,h4,fun head p q hq ρ0 ρ1 τ0 τ1 st0 st1 hS0 hS1 H1 H2 => ?_⟩;have hF:Fresh (idl1++idl2) []:=h2.app h5;unfold dec at hq;split at hq<;>try contradiction
 next tm i1 ni1 ht=>
  split at hq<;>try contradiction
  next rows i2 ni2 hr=>
   injection hq with hq;obtain⟨hv1,hv2⟩:=(Vals.vec (l1++l2)).app;rw[zBE]at hv2;obtain⟨h7,h8,h9⟩:=h3 head p _ 0 0 hv1 tm i1 ni1 ht;rw[zBE]at h7 h8;subst h7;subst h8;obtain⟨h10,h11,h12,h13⟩:=h6 head p.rows _ _ _ hv2 rows i2 ni2 hr;have hm:=zwJ hr;have hqr:q.rows=rows:=by rw[<- hq]
   have hqt:q.tm=tm:=by rw[<- hq]
   have hqn:q.ni=(idl1++idl2).length:=by rw[<- hq];simp[h10]
   -- the lineages
   let τ2:Nat->Option Nat:=fun i=>match(idl1++idl2)[i]? with | some (some id)=>τ1 id | _=>none
   have hτ2 : ∀ i l,τ2 i=some l -> ∃ id,(idl1++idl2)[i]?=some (some id)/\τ1 id=some l:=by
    intro i l hi;simp only[τ2]at hi;split at hi
    ·next id hid=>exact⟨id,hid,hi⟩
    ·contradiction
   have hlen:q.rows.length=p.rows.length:=by rw[hqr,h11]
   have hle:q.rows.length<=p'.rows.length:=by rw[hqr];exact h12
   have hrow : ∀ (k:Nat) (rq:Row),q.rows[k]?=some rq -> ∃ r0 r':Row,p.rows[k]?=some r0/\p'.rows[k]?=some r'/\znO strict head sh.rows.length idl1.length idl2 r0 r' rq:=by intro k rq hk;rw[hqr]at hk;exact h13 k rq hk
   have hrk : ∀ k,k<q.rows.length->yj q.rows k=yj p'.rows k\/yj q.rows k=none:=by
    intro k hk;obtain⟨rq,hrq⟩:=YV hk;obtain⟨r0,r',h14,h15,h16⟩:=hrow k rq hrq;rcases h16 with⟨h17,h18,h19⟩ | ⟨h17,h18,h19,_,h20⟩
    ·left;have:=H2 k r0 r' h14 h15 h18;subst h17;obtain⟨f0,c0⟩:=r0;obtain⟨f',c'⟩:=r';simp only at this;subst this;cases c0<;>simp only[yj,hrq,h15]
    ·obtain⟨fq,cq⟩:=rq;cases hcq:cq with
     | arr f s x=>left;obtain⟨f',x',h21,h22⟩:=h19 f s x hcq;obtain⟨f'',c'⟩:=r';simp only at h21;subst h21;subst hcq;simp only[yj,hrq,h15,h22]
     | _=>right;subst hcq;simp only[yj,hrq]
   have hcx:zj5 (zy ρ1 τ1 p' st1) (zy ρ1 τ2 q st1):=⟨fun _ _=>rfl,hle,hrk,rfl⟩
   have hcm:(zy ρ1 τ2 q st1).m=sh.rows.length:=by show q.rows.length=_;rw[hlen,hm]
   have hio:IdsOk (zy ρ1 τ1 p' st1) (zy ρ1 τ2 q st1) 0 (idl1++idl2):=by intro j o hj;rw[zBE];refine⟨?_,by show j<q.ni;rw[hqn];exact getElem?_lt hj⟩;show τ2 j=o.bind τ1;simp only[τ2,hj];cases o<;>rfl
   have hio1:=hio.app.1;have hio2:=hio.app.2;rw[zBE]at hio2;refine⟨τ2,⟨fun t f d hd => ?_,fun k hk=>hS1.nx k (zK hk hle),fun k rq hk => ?_,fun j k hj hk=>hS1.inj j k (zK hj hle) (zK hk hle),fun i l hi => ?_,fun i j l hi hj => ?_⟩,
    hlen,hle,fun i l hi => ?_,fun t d hd => ?_,fun k rq hk => ?_,hrk⟩
   ·rw[hqt]at hd;rcases h9 t f d hd with⟨f0,f',d',h14,h15,h16,h17,h18⟩ | ⟨h14,dp,h15,h16⟩
    ·have:=H1 t f' d' h16 h17 f0 d h14;subst this;obtain⟨e,he,hre⟩:=hS1.tm t f' d h16;obtain⟨e0,_,hre0⟩:=hS0.tm t f0 d h14;refine⟨e,he,RP.at hre ?_ h18 hcx⟩;have:=hre0.low;show d.low q.rows.length;rw[hlen];exact this
    ·obtain⟨e,he,hre⟩:=hS1.tm t false dp h15;exact⟨e,he,h16 _ _ e hcm hre hcx hio1⟩
   ·obtain⟨r0,r',h14,h15,h16⟩:=hrow k rq hk;rcases h16 with⟨h17,h18,h19⟩ | ⟨h17,h18,h19,h19',h20⟩
    ·have hc:=H2 k r0 r' h14 h15 h18;obtain⟨o,ho1,ho2⟩:=hS1.rows k r' h15;rw[<- hc]at ho1 ho2 h19;subst h17;refine⟨o,ho1,?_⟩;obtain⟨f0,c0⟩:=r0;simp only at ho2 h19 ⊢;cases c0 with
     | cells ps=>obtain⟨ds,h21,h22,h23⟩:=ho2;refine⟨ds,h21,RSL.at h22 ?_ h19 hcx,h23⟩;obtain⟨o0,_,ds0,_,hr0,_⟩:=hS0.rows k _ h14;have:=hr0.low;show ∀ q'∈ps,q'.low q.rows.length;rw[hlen];exact this
     | _=>exact ho2
    ·obtain⟨o,ho1,ho2⟩:=hS1.rows k r' h15;refine⟨o,?_,h20 _ _ o hcm ho2 hcx hio2⟩;rcases ho1 with ho1 | ho1
     ·rcases h19' with h21 | h21
      ·exact .inl h21
      ·exact(h21 ho1).elim
     ·exact .inr ho1
   ·obtain⟨id,h14,h15⟩:=hτ2 i l hi;exact⟨by rw[hqn];exact getElem?_lt h14,(hS1.lin id l h15).2⟩
   ·obtain⟨id,h14,h15⟩:=hτ2 i l hi;obtain⟨id',h16,h17⟩:=hτ2 j l hj;have:=hS1.linj id id' l h15 h17;subst this;exact hF.inj h14 h16
   ·obtain⟨id,_,h15⟩:=hτ2 i l hi;exact⟨id,h15⟩
   ·rw[hqt]at hd;rcases h9 t true d hd with⟨f0,f',d',h14,h15,h16,h17,h18⟩ | ⟨h14,_⟩
    ·have:=H1 t f' d' h16 h17 f0 d h14;subst this;exact⟨f0,f',h14,h15.symm,h16,h17,h18⟩
    ·contradiction
   ·obtain⟨r0,r',h14,h15,h16⟩:=hrow k rq hk;refine⟨r0,r',h14,h15,?_⟩;rcases h16 with⟨h17,h18,h19⟩ | ⟨h17,h18,_⟩
    ·have hc:=H2 k r0 r' h14 h15 h18;exact .inl ⟨h17,hc,h18,by rw[hc];exact h19⟩
    ·exact .inr ⟨h17,h18⟩
structure In(ρ:Nat->Nat)(τ:Nat->Option Nat)(p:PSt)(st:St)(ρ1:Nat->Nat)(τ1:Nat->Option Nat)(pv:PSt)(st1:St):Prop where
 sim:Sim ρ1 τ1 pv st1
 wf:Wf pv
 nx:st.nx<=st1.nx
 lo:st1.lo=st.lo
 len:pv.rows.length=p.rows.length
 ρs : ∀ k,k<p.rows.length->ρ1 k=ρ k
 τn : ∀ i l,τ1 i=some l->(∃ j,τ j=some l)\/st.nx<=l
 slots : ∀ t d,xb pv.tm t=some (true,d)->(∃ f,xb p.tm t=some (f,d))/\get st1.tm t=get st.tm t
 rows : ∀ (k:Nat) (r:Row),pv.rows[k]?=some r->r.ro=true -> ∃ f,p.rows[k]?=some ⟨f,r.c⟩
 rowf : ∀ (k:Nat) (r0 r:Row),p.rows[k]?=some r0->pv.rows[k]?=some r->r0.ro=true->r.ro=true
 rk : ∀ k,k<p.rows.length->yj pv.rows k=yj p.rows k\/yj pv.rows k=none
 mem : ∀ b,b<st.nx->(∀ (k:Nat) (r:Row),p.rows[k]?=some r->ρ k=b->r.ro=true)->st1.mem b=st.mem b
 tip : ∀ l,l<st.nx->(∀ i,τ i≠some l)->st1.tip l=st.tip l
 lw : ∀ m,m<=st.lw->m<=st.nx->(∀ (k:Nat) (r:Row),p.rows[k]?=some r->r.ro=false\/r.c.isArr=true->m<=ρ k)->(∀ i l,τ i=some l->m<=l)->m<=st1.lw
section
variable {ρ:Nat->Nat} {τ:Nat->Option Nat} {p:PSt} {st:St}
theorem znF{ρ':Type}{r:ρ'}(hS:Sim ρ τ p st){h:Sh}{K:(Nat->V)->Option ρ'}(he:Kt false h p K=some r) : ∃ v,K v=some r /\ ∀ pv,dec true h p v=some pv -> ∃ τ1,In ρ τ p st ρ τ1 pv st:=by
 obtain⟨v,h1,h2⟩:=zb3 he;refine⟨v,h1,fun pv hd => ?_⟩;obtain⟨τ1,h3,h4⟩:=h2 true p pv hd ρ ρ τ τ st st hS hS (fun t f' d' h1 _ f0 d h2=>by rw[h1]at h2;simp only[zBB,zBC]at h2;exact h2.2.symm) (fun k r0 r' h1 h2 _=>by rw[h1]at h2;injection h2 with h2;rw[h2]);refine⟨τ1,h3,⟨fun t d ht => ?_,fun k r hk hr => ?_⟩,zR _,rfl,h4.len,fun _ _=>rfl,fun i l hi => .inl (h4.τn i l hi),fun t d ht => ?_,fun k r hk hr => ?_,fun k r0 r hk0 hk hr => ?_,fun k hk=>h4.rk k (by rw[h4.len];exact hk),fun _ _ _=>rfl,fun _ _ _=>rfl,fun m h _ _ _=>h⟩
 ·obtain⟨_,_,_,_,_,_,h5⟩:=h4.slot t d ht;exact h5
 ·obtain⟨r0,r',h5,h6,⟨h7,h8,h9,h10⟩ | ⟨h7,_⟩⟩:=h4.row k r hk
  ·rw[h7];exact h10
  ·rw[hr]at h7;contradiction
 ·obtain⟨f0,_,h5,_⟩:=h4.slot t d ht;exact⟨⟨f0,h5⟩,rfl⟩
 ·obtain⟨r0,r',h5,h6,⟨h7,h8,h9,h10⟩ | ⟨h7,_⟩⟩:=h4.row k r hk
  ·exact⟨r0.ro,by rw[h7];exact h5⟩
  ·rw[hr]at h7;contradiction
 ·obtain⟨r0',r',h5,h6,⟨h7,h8,h9,h10⟩ | ⟨h7,h8⟩⟩:=h4.row k r hk
  ·rw[h7];rfl
  ·rw[hk0]at h6;injection h6 with h6;subst h6;rw[hr]at h8;contradiction
theorem zmy{ρ1:Nat->Nat}{τ1:Nat->Option Nat}{pv:PSt}{st1:St}(hS:Sim ρ τ p st)(h:In ρ τ p st ρ1 τ1 pv st1){ρ2:Nat->Nat}{τ2:Nat->Option Nat}{p':PSt}{st2:St}(g:Goes ρ1 τ1 pv st1 ρ2 τ2 p' st2){ρ':Type}{r:ρ'}
  {sh:Sh} {K:(Nat->V)->Option ρ'} (he:Kt true sh p' K=some r) : ∃ v,K v=some r/\(∀ pw,dec true sh p v=some pw -> ∃ τ3,In ρ τ p st ρ2 τ3 pw st2) /\ ∀ q,dec false sh p v=some q -> ∃ τ3,Goes ρ τ p st ρ2 τ3 q st2:=by
 have nx:=zBK h.nx g.nx;have lo:=g.lo.trans h.lo;have ρs : ∀ k,k<p.rows.length->ρ2 k=ρ k:=fun k hk=>by rw[g.ρs k (by rw[h.len];exact hk),h.ρs k hk]
 have τn : ∀ i l,τ2 i=some l->(∃ j,τ j=some l)\/st.nx<=l:=fun i l hi=>by
  rcases g.τn i l hi with⟨j,hj⟩ | hj
  ·exact h.τn j l hj
  ·exact .inr (zBK h.nx hj)
 have mem : ∀ b,b<st.nx->(∀ (k:Nat) (r:Row),p.rows[k]?=some r->ρ k=b->r.ro=true)->st2.mem b=st.mem b:=by
  intro b hb hr;rw[g.mem b (zK hb h.nx) ?_,h.mem b hb hr];intro k rv hk hkb;have hkl:k<p.rows.length:=by rw[<- h.len];exact getElem?_lt hk
  obtain⟨r0,hr0⟩:=YV hkl;rw[h.ρs k hkl]at hkb;exact h.rowf k r0 rv hr0 hk (hr k r0 hr0 hkb)
 have tip : ∀ l,l<st.nx->(∀ i,τ i≠some l)->st2.tip l=st.tip l:=by
  intro l hl hn;rw[g.tip l (zK hl h.nx) ?_,h.tip l hl hn];intro i hi;rcases h.τn i l hi with⟨j,hj⟩ | hj
  ·exact hn j hj
  ·omega
 have lw : ∀ m,m<=st.lw->m<=st.nx->(∀ (k:Nat) (r:Row),p.rows[k]?=some r->r.ro=false\/r.c.isArr=true->m<=ρ k)->(∀ i l,τ i=some l->m<=l)->m<=st2.lw:=by
  intro m h1 h2 h3 h4;refine g.lw m (h.lw m h1 h2 h3 h4) (zBK h2 h.nx) (fun k rv hk hr => ?_) (fun i l hi => ?_)
  ·have hkl:k<p.rows.length:=by rw[<- h.len];exact getElem?_lt hk
   obtain⟨r0,hr0⟩:=YV hkl;rw[h.ρs k hkl];refine h3 k r0 hr0 ?_;cases hro:rv.ro with
   | false=>
    left;cases hb:r0.ro with
    | false=>rfl
    | true=>have:=h.rowf k r0 rv hr0 hk hb;rw[hro]at this;contradiction
   | true=>
    obtain⟨f,hf⟩:=h.rows k rv hk hro;rw[hr0]at hf;injection hf with hf;subst hf;rcases hr with hr | hr
    ·rw[hro]at hr;contradiction
    ·exact .inr hr
  ·rcases h.τn i l hi with⟨j,hj⟩ | hj
   ·exact h4 j l hj
   ·exact zBK h2 hj
 obtain⟨v,h1,h2⟩:=zb3 he;have H1 : ∀ t f' d',xb p'.tm t=some (f',d')->(true=true->f'=true) -> ∀ f0 d,xb p.tm t=some (f0,d)->d=d':=by intro t f' d' ht hf f0 d hd;have hf:=hf rfl;subst hf;obtain⟨h3,_⟩:=g.flg h.wf t d' ht;obtain⟨⟨f,h5⟩,_⟩:=h.slots t d' h3;rw[hd]at h5;simp only[zBB,zBC]at h5;exact h5.2
 have H2 : ∀ (k:Nat) (r0 r':Row),p.rows[k]?=some r0->p'.rows[k]?=some r'->(true=true->r'.ro=true)->r0.c=r'.c:=by
  intro k r0 r' hk hk' hr;have hr:=hr rfl;have hkl:k<pv.rows.length:=by rw[h.len];exact getElem?_lt hk
  obtain⟨rv,hrv,hro⟩:=g.rof k r' hkl hk' hr;have h3:=g.ro h.wf k rv hrv hro;rw[hk']at h3;injection h3 with h3;subst h3;obtain⟨f,hf⟩:=h.rows k r' hrv hro;rw[hk]at hf;injection hf with hf;subst hf;rfl
 have slot : ∀ {head q τ3},znS true head p p' q τ2 τ3 -> ∀ t d,xb q.tm t=some (true,d) -> ∃ f0,xb p.tm t=some (f0,d)/\(head||f0)=true/\get st2.tm t=get st.tm t/\d.hasOwn=false:=by intro head q τ3 hA t d ht;obtain⟨f0,f',h3,h4,h5,h6,h7⟩:=hA.slot t d ht;have hf:=h6 rfl;subst hf;obtain⟨h8,h9⟩:=g.flg h.wf t d h5;obtain⟨_,h10⟩:=h.slots t d h8;exact⟨f0,h3,h4,h9.trans h10,h7⟩
 have rkq : ∀ {head q τ3},znS true head p p' q τ2 τ3 -> ∀ k,k<p.rows.length->yj q.rows k=yj p.rows k\/yj q.rows k=none:=by
  intro head q τ3 hA k hk;rcases hA.rk k (by rw[hA.len];exact hk)with e | e
  ·rcases g.rk k (by rw[h.len];exact hk)with e2 | e2
   ·rcases h.rk k hk with e3 | e3
    ·left;rw[e,e2,e3]
    ·right;rw[e,e2,e3]
   ·right;rw[e,e2]
  ·exact .inr e
 have τq : ∀ {head q τ3},znS true head p p' q τ2 τ3 -> ∀ i l,τ3 i=some l->(∃ j,τ j=some l)\/st.nx<=l:=by intro head q τ3 hA i l hi;obtain⟨j,hj⟩:=hA.τn i l hi;exact τn j l hj
 -- what is held from without is held at the end
 have rof : ∀ {head q τ3},znS true head p p' q τ2 τ3 -> ∀ (k:Nat) (r0 rq:Row),p.rows[k]?=some r0->q.rows[k]?=some rq->r0.ro=true->rq=⟨true,r0.c⟩:=by
  intro head q τ3 hA k r0 rq hk hq hr;obtain⟨r0',r',h5,h6,⟨h7,h8,h9,h10⟩ | ⟨h7,h8⟩⟩:=hA.row k rq hq
  ·rw[hk]at h5;injection h5 with h5;subst h5;rw[h7,hr,Bool.or_true]
  ·exfalso;have hkl:k<pv.rows.length:=by rw[h.len];exact getElem?_lt hk
   obtain⟨rv,hrv⟩:=YV hkl;have hro:=h.rowf k r0 rv hk hrv hr;have:=g.ro h.wf k rv hrv hro;rw[h6]at this;injection this with this;subst this;rw[hro]at h8;contradiction
 refine⟨v,h1,fun pw hd => ?_,fun q hd => ?_⟩
 ·obtain⟨τ3,h3,h4⟩:=h2 true p pw hd ρ ρ2 τ τ2 st st2 hS g.sim H1 H2;refine⟨τ3,h3,⟨fun t d ht => ?_,fun k r hk hr => ?_⟩,nx,lo,h4.len,ρs,τq h4,fun t d ht => ?_,fun k r hk hr => ?_,fun k r0 r hk0 hk hr => ?_,rkq h4,mem,tip,lw⟩
  ·obtain⟨_,_,_,_,h5⟩:=slot h4 t d ht;exact h5
  ·obtain⟨r0,r',h5,h6,⟨h7,h8,h9,h10⟩ | ⟨h7,_⟩⟩:=h4.row k r hk
   ·rw[h7];exact h10
   ·rw[hr]at h7;contradiction
  ·obtain⟨f0,h5,_,h6,_⟩:=slot h4 t d ht;exact⟨⟨f0,h5⟩,h6⟩
  ·obtain⟨r0,r',h5,h6,⟨h7,h8,h9,h10⟩ | ⟨h7,_⟩⟩:=h4.row k r hk
   ·exact⟨r0.ro,by rw[h7];exact h5⟩
   ·rw[hr]at h7;contradiction
  ·rw[rof h4 k r0 r hk0 hk hr]
 ·obtain⟨τ3,h3,h4⟩:=h2 false p q hd ρ ρ2 τ τ2 st st2 hS g.sim H1 H2;refine⟨τ3,h3,nx,lo,by rw[h4.len];exact zR _,ρs,fun k h5 h6=>by rw[h4.len]at h6;omega,τq h4,fun _=>⟨fun t d ht => ?_,fun k r hk hr => ?_⟩,fun _ k r hk hr => ?_,fun k r' hkl hk hr => ?_,rkq h4,mem,tip,lw,fun _ t d ht => ?_⟩
  ·obtain⟨_,_,_,_,h5⟩:=slot h4 t d ht;exact h5
  ·obtain⟨r0,r',h5,h6,⟨h7,h8,h9,h10⟩ | ⟨h7,_⟩⟩:=h4.row k r hk
   ·rw[h7];exact h10
   ·rw[hr]at h7;contradiction
  ·have hkl:k<q.rows.length:=by rw[h4.len];exact getElem?_lt hk
   obtain⟨rq,hrq⟩:=YV hkl;rw[hrq,rof h4 k r rq hk hrq hr];obtain⟨f,c⟩:=r;simp only at hr;rw[hr]
  ·obtain⟨r0,r'',h5,h6,⟨h7,h8,h9,h10⟩ | ⟨h7,_⟩⟩:=h4.row k r' hk
   ·refine⟨r0,h5,?_⟩;rw[h7]at hr;simpa using hr
   ·rw[hr]at h7;contradiction
  ·obtain⟨f0,h5,h6,h7,_⟩:=slot h4 t d ht;simp only[Bool.false_or]at h6;subst h6;exact⟨h5,h7⟩
end
end
section
theorem zn3{α β:Type}{f:α->Option (α ⊕ β)}{n:Nat}{a:α}{b:β}(h:ja f n a=some b)(m:Nat):ja f (n+m) a=some b:=by
 induction n generalizing a with
 | zero=>simp[ja]at h
 | succ n ih=>
  rw[Nat.add_right_comm];simp only[ja]at h ⊢;split at h
  ·next a' he=>exact ih h
  ·exact h
  ·contradiction
theorem zqx{α β:Type}{f:α->Option (α ⊕ β)}{n m:Nat}{a:α}{b c:β}(h:ja f n a=some b)(k:ja f m a=some c):b=c:=by have h1:=zn3 h m;have h2:=zn3 k n;rw[Nat.add_comm,h1]at h2;injection h2
theorem VI{α β:Type}{f:α->Option (α ⊕ β)}{a:α}{b:β}:zr f a=some b ↔ ∃ n,ja f n a=some b:=by
 unfold zr;constructor
 ·intro h;split at h
  ·next hx=>
   injection h with h;exact⟨_,by rw[<- h];exact hx.choose_spec.choose_spec⟩
  ·contradiction
 ·rintro⟨n,hn⟩;have hx : ∃ n b,ja f n a=some b:=⟨n,b,hn⟩
  rw[dif_pos hx];rw[zqx hx.choose_spec.choose_spec hn]
theorem zoV{α β:Type}(f:α->Option (α ⊕ β))(a:α):zr f a=match f a with | some (.inl a')=>zr f a' | some (.inr b)=>some b | none=>none:=by
 apply Zk;intro b;rw[VI];cases he:f a with
 | none=>
  simp only[reduceCtorEq,iff_false];rintro⟨n,hn⟩;cases n with
  | zero=>simp[ja]at hn
  | succ n=>simp[ja,he]at hn
 | some q=>cases q with
  | inl a'=>
   rw[VI];constructor
   ·rintro⟨n,hn⟩;cases n with
    | zero=>simp[ja]at hn
    | succ n=>simp only[ja,he]at hn;exact⟨n,hn⟩
   ·rintro⟨n,hn⟩;exact⟨n+1,by simp only[ja,he];exact hn⟩
  | inr c=>
   constructor
   ·rintro⟨n,hn⟩;cases n with
    | zero=>simp[ja]at hn
    | succ n=>simp only[ja,he]at hn;exact hn
   ·intro h;exact⟨1,by simp only[ja,he];exact h⟩
def zam:PEx->Ex
 | .nrm => .nrm
 | .ext i => .ext i
 | .ret => .ret
theorem zpE{ρ:Type}{r:ρ}{p:PSt}{v:Nat->V}{K:PEx->PSt->Option ρ}{xs:List (PEx×Sh)}{x:PEx}{j0 j:Nat}{sh:Sh}(h:Zy xs x j0=some (j,sh)) :
  j0<=j/\(zeO p v K xs (j-j0)=some r -> ∃ q,dec false sh p v=some q/\K x q=some r):=by
 induction xs generalizing j0 with
 | nil=>simp[Zy]at h
 | cons a rest ih=>
  obtain⟨y,sh'⟩:=a;have last:(j0,sh')=(j,sh)->x=y->j0<=j/\(zeO p v K ((y,sh')::rest) (j-j0)=some r -> ∃ q,dec false sh p v=some q/\K x q=some r):=by
   intro e e2;simp only[zBC]at e;obtain⟨rfl,rfl⟩:=e;subst e2;refine⟨zR _,fun hd => ?_⟩;rw[Nat.sub_self]at hd;cases rest with
   | nil=>
    simp only[zeO]at hd;split at hd<;>try contradiction
    next q hq=>exact⟨q,hq,hd⟩
   | cons a b=>
    simp only[zeO,zBu]at hd;split at hd<;>try contradiction
    next q hq=>exact⟨q,hq,hd⟩
  have next1:Zy rest x (j0+1)=some (j,sh)->j0<=j/\(zeO p v K ((y,sh')::rest) (j-j0)=some r -> ∃ q,dec false sh p v=some q/\K x q=some r):=by
   intro h;obtain⟨h1,h2⟩:=ih h;refine⟨by omega,fun hd => ?_⟩;cases rest with
   | nil=>simp[Zy]at h
   | cons a b=>simp only[zeO]at hd;rw[zBt (by omega)]at hd;refine h2 ?_;rw[show j-(j0+1)=j-j0-1 by omega];exact hd
  cases y with
  | nrm=>
   simp only[Zy]at h;split at h
   ·injection h with h;exact last h rfl
   ·exact next1 h
  | ret=>
   simp only[Zy]at h;split at h
   ·injection h with h;exact last h rfl
   ·exact next1 h
  | ext i=>
   simp only[Zy]at h;split at h
   ·split at h
    ·next hb=>injection h with h;exact last h (by rw[zJ hb])
    ·exact next1 h
   ·exact next1 h
section
variable {E:Env} {gl:Gl} {pc:PcT}
theorem zw6(hg:GlR E gl)(hpc:zbt E gl.md pc)(l:PO) : ∀ {ρ':Type} {r:ρ'} {ρ:Nat->Nat} {τ:Nat->Option Nat} {p:PSt} {st:St} {K:PSt->Option ρ'},Sim ρ τ p st -> ∀ x0,jq x0 τ p st->Ke gl.md l=true->vC gl pc l p K=some r ->
  ∃ p',K p'=some r /\ ∃ st',runStill E (zz E) (vX l) st=some st' /\ ∃ τ1,Goes ρ τ p st ρ τ1 p' st'/\Soft x0 τ p st τ1 p' st':=by
 induction l with
 | nil=>intro _ r ρ τ p st K hS x0 hi hl h;exact⟨p,h,st,rfl,τ,.refl hS,.refl hi⟩
 | one o s ih=>
  intro _ r ρ τ p st K hS x0 hi hl h;simp only[Ke,zG]at hl;simp only[vC]at h;obtain⟨p1,h1,st1,ρ1,τ1,h2,h3,h4⟩:=zbX hg hpc hS hi.wf h;obtain⟨rfl,h5⟩:=h4 hl.1 x0 hi;obtain⟨p',h6,st',h7,τ2,h8,h9⟩:=ih h3.sim x0 (h5.inn hi h3) hl.2 h1;refine⟨p',h6,st',?_,τ2,h3.trans hi.wf h8,h5.trans h9⟩;have ho:KD none o=o:=by obtain⟨d,op,gd⟩:=o;cases gd<;>rfl
  simp only[vX,xc,runStill,ho,h2];rw[zBu h5.mem];exact h7
 | box n dst x r=>intro _ r ρ τ p st K hS x0 hi hl h;simp[Ke]at hl
 | grp c w ops dst a b s ih1 ih2=>
  intro _ r ρ τ p st K hS x0 hi hl h;simp only[Ke,zG]at hl;simp only[vC]at h;split at h<;>try contradiction
  split at h<;>try contradiction
  split at h<;>try contradiction
  split at h<;>try contradiction
  next cv hc _ bd hb _ bv hbv _ hfr=>
   simp only[zG]at hfr;obtain⟨hfr,hnest⟩:=hfr;rw[zA]at h;obtain⟨cb,hcb,h⟩:=h;rw[zA]at h;obtain⟨x,hx,h⟩:=h;split at h<;>try contradiction
   next p1 hp1=>
    obtain⟨ec,hec,hrc⟩:=xD (E:=E) hg hS hc;have:=Yg hcb hrc;subst this;have hec:get st.tm c=some (.bool cb):=hec;have hcF : ∃ f d,xb p.tm c=some (f,d):=by
     unfold evV at hc;split at hc<;>try contradiction
     next y hy=>simp only[evH,jX,zB]at hy;obtain⟨⟨f,d'⟩,h1,_⟩:=hy;exact⟨f,d',h1⟩
    obtain⟨fc,dc,hcF⟩:=hcF;have hcd:=KW hfr hcF;have hsame : ∀ {tm:Tm},(∀ t,t ∉ xN ops->get tm t=get st.tm t) -> ∀ t f d,xb p.tm t=some (f,d)->get tm t=get st.tm t:=
     fun h t f d ht=>h t (KW hfr ht)
    have key : ∃ st1 e,runStill E (zz E) (xc (some (c,w)) ops) st=some st1/\Goes ρ τ p st ρ τ p st1/\(st1.mem=st.mem /\ ∀ l,l<st.nx->st1.tip l=st.tip l)/\get st1.tm c=some (.bool cb)/\ev E st1.tm (if cb=w then a else b)=some e/\e.cl0=x.toD:=by
     split at hx
     ·next hcw=>
      subst hcw;have har:zoS p.sealOf:=by intro k rw hk;simp only[PSt.sealOf,jQ,zB]at hk;obtain⟨r',_,rfl⟩:=hk;rfl
      obtain⟨p',h1,st1,h2,τ1,h3,h3'⟩:=ih1 (zog hS) st.nx ⟨har,zbZ p,hi.lim,zR _,fun i l _ h=>by contradiction⟩ hl.1 hx;have h4 : ∀ t,t ∉ xN ops->get st1.tm t=get st.tm t:=fun t ht=>ze3 h2 (KG ht)
      split at h1<;>try contradiction
      next da hda=>obtain⟨e,he,hr⟩:=yp (E:=E) hg h3.sim hda;exact⟨st1,e,zuf hcd hec h2,ze6 hS h3 (hsame h4),⟨h3'.mem,h3'.tip⟩,by rw[h4 c hcd];exact hec,by rw[zBu rfl];exact he,PD.pure_ok hr h1⟩
     ·next hcw=>
      injection hx with hx;subst hx;obtain⟨tm,h1,h2,_⟩:=zpy (E:=E) (cf:=zz E) (w:=w) hnest (.inl ⟨cb,hcw,hec⟩) (fun t ht=>by simp at ht);obtain⟨e,he,hr⟩:=yp (E:=E) hg hS hb;have ht:=hsame h2;refine⟨_,e,h1.2,?_,⟨rfl,fun _ _=>rfl⟩,by show get tm c=_;rw[h2 c hcd];exact hec,by rw[zBt hcw];show ev E tm b=_;rw[zpa (st:=st) hb ht];exact he,PD.pure_ok hr hbv⟩;have:=KS hS (tm:=p.tm) (tm':=tm) (fun t f d hd=>by rw[ht t f d hd];exact hS.tm t f d hd) (fun t d hd=>⟨hd,ht t true d hd⟩);exact this
    obtain⟨st1,e,h1,h2,⟨hm1,hm2⟩,h3,h4,h5⟩:=key;have h6:=KF (e:=some e) h2.sim (show RO _ (some (.s (.v x))) (some e)from h5) hp1;have hp1r:p1.rows=p.rows/\p1.ni=p.ni/\p1.lim=p.lim:=by
     simp only[zbC]at hp1;split at hp1<;>try contradiction
     injection hp1 with hp1;subst hp1;exact⟨rfl,rfl,rfl⟩
    have hgo:=h2.trans hi.wf h6;have hso:Soft x0 τ p st τ p1 (st1.set (some dst) (some e)):=⟨hp1r.1,hp1r.2.2,by rw[hp1r.2.1];exact zR _,hm1,fun _ _=>rfl,hi.hi,fun l hl=>hm2 l (zK hl hi.nx)⟩
    obtain⟨p',h7,st',h8,τ2,h9,h10⟩:=ih2 h6.sim x0 (hso.inn hi hgo) hl.2 h;refine⟨p',h7,st',?_,τ2,hgo.trans hi.wf h9,hso.trans h10⟩;simp only[vX,xc];rw[YX,h1];have hp:opC E (zz E) ⟨some dst,zjm c w a b,none⟩ st1=some (.ok (st1.set (some dst) (some e))):=by have h3':ev E st1.tm (.s c)=some (.bool cb):=h3;cases w<;>cases cb<;>simp only[zBu,zBt,zF,zX,not_false_eq_true]at h4<;>simp[opC,yO,opR,opX,opD,h3',h4,Rv.to,zjm]
    simp only[zD,runStill,hp];rw[zBu (show(st1.set (some dst) (some e)).mem=st1.mem from rfl)];exact h8
theorem zwS(p:PSt):zoS { p with rows:=ZO p.rows,lim:=p.ni }:=by intro k rw hk;simp only[jQ,zB]at hk;obtain⟨r',_,rfl⟩:=hk;rfl
theorem zlY{ρ:Nat->Nat}{τ:Nat->Option Nat}{p:PSt}{st:St}(hS:Sim ρ τ p st):Sim ρ τ { p with rows:=ZO p.rows,lim:=p.ni } st:=by
 have hle:Le (zy ρ τ p st) (zy ρ τ { p with rows:=ZO p.rows,lim:=p.ni } st):=
  ⟨fun _ _=>rfl,by simp[zy,vZ],fun k _ => .inl (K4 p.rows k),fun i l h=>⟨h,rfl⟩,zR _⟩
 refine⟨fun t f d h => ?_,fun k hk=>hS.nx k (by simpa[vZ]using hk),fun k r hk => ?_,fun j k hj hk=>hS.inj j k (by simpa[vZ]using hj) (by simpa[vZ]using hk),hS.lin,hS.linj⟩
 ·obtain⟨e,h1,h2⟩:=hS.tm t f d h;exact⟨e,h1,RP.le hle h2⟩
 ·simp only[jQ,zB]at hk;obtain⟨r',h1,rfl⟩:=hk;obtain⟨o,h2,h3⟩:=hS.rows k r' h1;obtain⟨f,c⟩:=r';refine⟨o,?_,?_⟩
  ·rcases h2 with h2 | h2
   ·left;simp only at h2;subst h2;rfl
   ·exact .inr h2
  ·cases c with
   | cells ps=>obtain⟨ds,h5,h6,h7⟩:=h3;exact⟨ds,h5,RSL.sealOf (c:=zy ρ τ p st) (c':=zy ρ τ { p with rows:=ZO p.rows,lim:=p.ni } st) rfl (vZ p.rows) (K4 p.rows) h6,h7⟩
   | _=>exact h3
theorem zoL{p:PSt}(hw:Wf p):Wf { p with rows:=ZO p.rows,lim:=p.ni }:=⟨hw.1,(zbZ p).2⟩
theorem zrh{ρ:Nat->Nat}{τ τ1:Nat->Option Nat}{p:PSt}{st:St}(hS:Sim ρ τ p st){p1:PSt}{st1:St}(h:Goes ρ τ { p with rows:=ZO p.rows,lim:=p.ni } st ρ τ1 p1 st1)(hs:Soft st.nx τ { p with rows:=ZO p.rows,lim:=p.ni } st τ1 p1 st1):Goes ρ τ p st ρ τ1 { p1 with rows:=p.rows,lim:=p.lim } st1:=by
 have hr:p1.rows=ZO p.rows:=hs.rows;have hn:p.ni<=p1.ni:=hs.ni;have hle:Le (zy ρ τ1 p1 st1) (zy ρ τ1 { p1 with rows:=p.rows,lim:=p.lim } st1):=
  ⟨fun _ _=>rfl,by simp[zy,hr,vZ],fun k _ => .inl (by show yj p.rows k=yj p1.rows k;rw[hr,K4]),fun i l h=>⟨h,rfl⟩,zR _⟩
 have hle0:Le (zy ρ τ p st) (zy ρ τ1 { p1 with rows:=p.rows,lim:=p.lim } st1):=
  ⟨fun _ _=>rfl,zR _,fun k _ => .inl rfl,fun i l h=>⟨(hs.τ i (hS.lin i l h).1).trans h,hs.tip l (hS.lin i l h).2⟩,hn⟩
 refine⟨⟨fun t f d ht => ?_,fun k hk=>zK (hS.nx k hk) h.nx,fun k r hk => ?_,hS.inj,h.sim.lin,h.sim.linj⟩,h.nx,h.lo,zR _,fun _ _=>rfl,fun k h1 h2=>absurd h2 (Nat.not_lt.2 h1),h.τn,fun hw=>⟨(h.wf ⟨hw.1,(zbZ p).2⟩).1,hw.2⟩,fun _ _ _ h _=>h,fun _ r' _ h hr=>⟨r',h,hr⟩,fun _ _ => .inl rfl,fun b _ _=>by rw[hs.mem],fun l hl _=>hs.tip l hl,fun m h1 h2 h3 h4 => ?_,fun hw t d ht=>h.flg ⟨hw.1,(zbZ p).2⟩ t d ht⟩
 ·obtain⟨e,h1,h2⟩:=h.sim.tm t f d ht;exact⟨e,h1,RP.le hle h2⟩
 ·obtain⟨o,h1,h2⟩:=hS.rows k r hk;exact⟨o,by rw[hs.mem];exact h1,RW.le hle0 h2⟩
 ·refine h.lw m h1 h2 (fun k r hk hro => ?_) h4;simp only[jQ,zB]at hk;obtain⟨r',hk',rfl⟩:=hk;refine h3 k r' hk' (.inr ?_);rcases hro with hro | hro
  ·contradiction
  ·obtain⟨f,c⟩:=r';cases c<;>simp_all [RowC.sealC,RowC.isArr]
theorem zn5{sz bytes:Nat}{g:Tg}{n m:Nat}{xs ys:List D}{st st':St}{d:D}(h:appD sz bytes (.sl g n xs) m ys st=some (d,st')):st'.mem=st.mem:=by
 simp only[appD]at h;split at h<;>try contradiction
 split at h<;>try contradiction
 ·injection h with h;injection h with _ h;subst h;rfl
 ·split at h<;>try contradiction
  injection h with h;injection h with _ h;subst h;rfl
theorem zuD{c:Cx}{q:PS}{e:D}(hr:RS c q e)(h:Jz q=true) : ∃ x,q.pure=some x/\e.cl0=x.toD:=by
 cases q<;>simp[Jz]at h
 ·exact⟨_,rfl,PS.pure_ok hr rfl⟩
 ·exact⟨_,rfl,PS.pure_ok hr rfl⟩
 ·exact⟨_,rfl,PS.pure_ok hr rfl⟩
theorem ziG{ps:List PS}(h:Wm ps=true) : ∃ l,Yi ps=some l:=by
 induction ps with
 | nil=>exact⟨[],rfl⟩
 | cons q r ih=>simp only[Wm,zG]at h;obtain⟨l,hl⟩:=ih h.2;cases q<;>simp[Jz]at h;all_goals exact⟨_,by simp only[Yi,PS.pure,hl];rfl⟩
theorem zri{p:PSt}{ps:List PS}(h:Wm ps=true):zbQ p ps=Yi ps:=by
 induction ps with
 | nil=>rfl
 | cons q r ih=>simp only[Wm,zG]at h;cases q<;>simp[Jz]at h<;>simp only[zbQ,Yi,PS.outV,ih h]
theorem zo3{ps:List PS}(h:Wm ps=true):ziC ps=[]:=by
 induction ps with
 | nil=>rfl
 | cons q r ih=>simp only[Wm,zG]at h;cases q<;>simp[Jz]at h<;>simp[ziC,PS.refs,ih h]
theorem zpN{p:PSt}{ds:List PD}(h:XJ ds=true) : ∃ as,Wl p [] ds=some (as,[],p):=by
 induction ds with
 | nil=>exact⟨[],rfl⟩
 | cons d r ih=>
  cases d with
  | s q=>simp only[XJ,zG]at h;obtain⟨as,ha⟩:=ih h.2;cases q<;>simp[Jz]at h;all_goals exact⟨_,by simp only[Wl,zth,PD.outV,PS.outV,PS.pure,PD.refs,PS.refs,wy,ha];rfl⟩
  | agg ps=>simp only[XJ,zG]at h;obtain⟨as,ha⟩:=ih h.2;obtain⟨l,hl⟩:=ziG h.1;exact⟨_,by simp only[Wl,zth,PD.outV,zri h.1,hl,PD.refs,zo3 h.1,wy,ha];rfl⟩
theorem zpA{c:Cx}{ds:List PD}{es:List D}(hr:RPL c ds es)(h:XJ ds=true):refsL es=[]:=by
 induction ds generalizing es with
 | nil=>cases es with
  | nil=>rfl
  | cons _ _=>exact hr.elim
 | cons d r ih=>cases es with
  | nil=>exact hr.elim
  | cons e s=>
   have key:e.refs=[]:=by
    cases d with
    | s q=>simp only[XJ,zG]at h;obtain⟨x,_,h2⟩:=zuD hr.1 h.1;exact(zpe h2 (fun _=>none)).2
    | agg ps=>
     simp only[XJ,zG]at h;obtain⟨l,hl⟩:=ziG h.1;have:(PD.agg ps).pureV=some (.agg l):=by simp only[PD.pureV,hl]
     exact(zpe (PD.pure_ok hr.1 this) (fun _=>none)).2
   have h2:XJ r=true:=by cases d<;>simp only[XJ,zG]at h<;>exact h.2
   simp only[refsL,key,ih hr.2 h2,List.append_nil]
theorem zxY(st:St)(dst:Option Nat)(e:Option D):(st.set dst e).mem=st.mem:=by cases e<;>cases dst<;>rfl
theorem zAw{ρ':Type}{r:ρ'}{ρ:Nat->Nat}{τ:Nat->Option Nat}{p:PSt}{st:St}(hg:GlR E gl)(hpc:zbt E gl.md pc)(hS:Sim ρ τ p st)(hw:Wf p){o:OpC}(hgd:o.gd=none)(hq:qOk gl p o.op=true){K:PSt->Option ρ'}(h:zhH gl pc o p K=some r)
  {st':St} (he:opC E (zz E) o st=some (.ok st')):st'.mem=st.mem:=by
 have he2:opR E (zz E) o.dst st o.op=some (.ok st'):=by simpa only[opC,yO,hgd]using he
 have h2:(VF gl pc p o.op fun r p'=>match zbC p' o.dst r with | some p''=>K p'' | none=>none)=some r:=by unfold zhH at h;rw[hgd]at h;exact h
 unfold opR at he2;rw[zB]at he2;obtain⟨rv,hx,hrv⟩:=he2;have fin : ∀ {e st1},rv = .val e st1->st1.mem=st.mem->st'.mem=st.mem:=by intro e st1 h1 h2;subst h1;simp only[Rv.to,Rs.ok.injEq]at hrv;subst hrv;rw[zxY,h2]
 have viaD : ∀ {e st1},opD E st o.op=some (e,st1)->(∀ f xs,o.op ≠ .call f xs)->(∀ f xs,o.op ≠ .callv f xs)->(∀ x,o.op ≠ .pan x)->st1.mem=st.mem->st'.mem=st.mem:=by intro e st1 h1 h2 h3 h4 h5;rw[zmq h2 h3 h4,h1]at hx;simp only[zC,zBB]at hx;exact fin hx.symm h5
 cases hop:o.op;case call f xs=>
  rw[hop]at hq h2 hx;simp only[qOk]at hq;split at hq<;>try contradiction
  next hmd=>
   split at hq<;>try contradiction
   next ds hds=>simp only[VF,hds,YF,hmd]at h2;obtain⟨es,h3,h4⟩:=zdw (E:=E) hg hS hds;obtain⟨as,ha⟩:=zpN (p:=p) hq;have hrf:=zpA h4 hq;obtain⟨h5,h6,h7⟩:=Kp hS hw h4 ha;have h8:=h7 [];simp only[XX,ha,zkP]at h2;rw[zA]at h2;obtain⟨q,hq2,_⟩:=h2;obtain⟨st1,h9,h10⟩:=hpc.n f as [] q hq2 (at0 ρ ([]++[])) st es h8 (fun j e hj=>by simp at hj) (fun i j hi=>by simp at hi);have h11:=h10.still (fun j e hj=>by simp at hj);rw[hrf]at h11;simp only[opX,h3,zD,h9,zC,zBB]at hx;exact fin hx.symm (by rw[h11];rfl)
 case app sz bytes s x=>
  rw[hop]at hq h2;simp only[qOk]at hq;split at hq<;>try contradiction
  next q hs=>
   obtain⟨e1,he1,hr1⟩:=yp (E:=E) hg hS hs;have hsl : ∃ g n xs,e1 = .sl g n xs:=by
    cases q<;>simp at hq
    ·obtain⟨g,ds,rfl,_⟩:=hr1;exact⟨_,_,_,rfl⟩
    ·obtain⟨ds,rfl,_⟩:=hr1;exact⟨_,_,_,rfl⟩
   obtain⟨g,n,xs,rfl⟩:=hsl;rw[hop]at hx;simp only[opX,opD,he1,zD]at hx;rw[zB]at hx;obtain⟨⟨e,st1⟩,h3,h4⟩:=hx;rw[zA]at h3;obtain⟨y,_,h3⟩:=h3;rw[zA]at h3;obtain⟨pp,_,h3⟩:=h3;split at h3<;>try contradiction
   rw[zB]at h3;obtain⟨⟨d,st2⟩,h5,h6⟩:=h3;injection h6 with h6 h7;subst h7;exact fin h4.symm (zn5 h5)
 case apz z bytes s x=>
  rw[hop]at hq h2;simp only[qOk]at hq;split at hq<;>try contradiction
  next q hs=>
   obtain⟨e1,he1,hr1⟩:=yp (E:=E) hg hS hs;have hsl : ∃ g n xs,e1 = .sl g n xs:=by
    cases q<;>simp at hq
    ·obtain⟨g,ds,rfl,_⟩:=hr1;exact⟨_,_,_,rfl⟩
    ·obtain⟨ds,rfl,_⟩:=hr1;exact⟨_,_,_,rfl⟩
   obtain⟨g,n,xs,rfl⟩:=hsl;rw[hop]at hx;simp only[opX,opD,he1,zD]at hx;rw[zB]at hx;obtain⟨⟨e,st1⟩,h3,h4⟩:=hx;split at h3<;>try contradiction
   split at h3<;>try contradiction
   rw[zB]at h3;obtain⟨⟨d,st2⟩,h5,h6⟩:=h3;injection h6 with h6 h7;subst h7;exact fin h4.symm (zn5 h5)
 all_goals
  rw[hop]at hq h2;first
   | (exfalso;revert hq;simp[qOk,quiet];done)
   | (
     obtain⟨d,_,e,h3,_⟩:=zzr (E:=E) hg hS (by rfl) h2;exact viaD (by rw[hop];exact h3) (fun f xs h=>by rw[hop]at h;cases h) (fun f xs h=>by rw[hop]at h;cases h) (fun x h=>by rw[hop]at h;cases h) rfl)
theorem zuP(hg:GlR E gl)(hpc:zbt E gl.md pc)(l:PO) : ∀ {ρ':Type} {r:ρ'} {ρ:Nat->Nat} {τ:Nat->Option Nat} {p:PSt} {st:St} {K:PSt->Option ρ'},Sim ρ τ p st->Wf p->Ja gl pc l p K=some r ->
  ∃ p',K p'=some r /\ ∃ st' ρ1 τ1,runStill E (zz E) (vX l) st=some st'/\Goes ρ τ p st ρ1 τ1 p' st':=by
 induction l with
 | nil=>intro _ r ρ τ p st K hS hw h;exact⟨p,h,st,ρ,τ,rfl,.refl hS⟩
 | one o s ih=>
  intro _ r ρ τ p st K hS hw h;simp only[Ja]at h;split at h<;>try contradiction
  next hgd=>
   split at h<;>try contradiction
   next hq=>
    obtain⟨p1,h1,st1,ρ1,τ1,h2,h3,_⟩:=zbX hg hpc hS hw h;obtain⟨p',h4,st',ρ2,τ2,h5,h6⟩:=ih h3.sim (h3.wf hw) h1;refine⟨p',h4,st',ρ2,τ2,?_,h3.trans hw h6⟩;have ho:KD none o=o:=by obtain⟨d,op,gd⟩:=o;cases gd<;>rfl
    simp only[vX,xc,runStill,ho,h2];rw[zBu (zAw hg hpc hS hw hgd hq h h2)];exact h5
 | box n dst x r=>intro _ r ρ τ p st K hS hw h;simp[Ja]at h
 | grp c w ops dst a b s ih1 ih2=>intro _ r ρ τ p st K hS hw h;simp[Ja]at h
theorem zuu(c:RowC):c.sealC.hasOwn=false:=by
 cases c with
 | cells ps=>
  show vG (zc6 ps)=false;induction ps with
  | nil=>rfl
  | cons q r ih=>cases q<;>simpa[zc6,PS.sealOf,vG]using ih
 | _=>rfl
theorem zhV{rows:List Row}{k:Nat}{f f':Bool}{c:RowC}(h:rows[k]?=some ⟨f,c⟩)(j:Nat):yj (rows.set k ⟨f',c.sealC⟩) j=yj rows j:=by
 by_cases e:k=j
 ·subst e;have hlt:=getElem?_lt h;simp only[yj,zCd hlt,h];cases c<;>rfl
 ·simp only[yj,zCe e]
theorem zyB{rows:List Row}{k:Nat}{f f':Bool}{c:RowC}(h:rows[k]?=some ⟨f,c⟩)(j:Nat):yj (rows.set k ⟨f',c⟩) j=yj rows j:=by
 by_cases e:k=j
 ·subst e;have hlt:=getElem?_lt h;simp only[yj,zCd hlt,h];cases c<;>rfl
 ·simp only[yj,zCe e]
theorem K1{p p2:PSt}{k:Nat}(h:hold p k=some p2) : ∃ c,p.rows[k]?=some ⟨false,c⟩/\p2={ p with rows:=p.rows.set k ⟨true,c.sealC⟩ }:=by
 unfold hold at h;split at h
 ·next c hc=>injection h with h;exact⟨c,hc,h.symm⟩
 ·contradiction
theorem zwY{ρ:Nat->Nat}{τ:Nat->Option Nat}{p p2:PSt}{st:St}{k:Nat}(hS:Sim ρ τ p st)(h:hold p k=some p2):Sim ρ τ p2 st:=by
 obtain⟨c,hc,rfl⟩:=K1 h;have hle:Le (zy ρ τ p st) (zy ρ τ { p with rows:=p.rows.set k ⟨true,c.sealC⟩ } st):=
  ⟨fun _ _=>rfl,by simp[zy],fun j _ => .inl (zhV hc j),fun i l h=>⟨h,rfl⟩,zR _⟩
 refine⟨fun t f d h => ?_,fun j hj=>hS.nx j (by simpa using hj),fun j r hj => ?_,fun i j hi hj=>hS.inj i j (by simpa using hi) (by simpa using hj),hS.lin,hS.linj⟩
 ·obtain⟨e,h1,h2⟩:=hS.tm t f d h;exact⟨e,h1,RP.le hle h2⟩
 ·by_cases e:k=j
  ·subst e;have hj:(p.rows.set k ⟨true,c.sealC⟩)[k]?=some r:=hj;rw[zCd (getElem?_lt hc)]at hj;injection hj with hj;subst hj;obtain⟨o,h2,h3⟩:=hS.rows k _ hc;refine⟨o,?_,?_⟩
   ·rcases h2 with h2 | h2
    ·left;simp only at h2;subst h2;rfl
    ·exact .inr h2
   ·cases c with
    | cells ps=>obtain⟨ds,h5,h6,h7⟩:=h3;exact⟨ds,h5,RSL.sealOf (c:=zy ρ τ p st) (c':=zy ρ τ { p with rows:=p.rows.set k ⟨true,(RowC.cells ps).sealC⟩ } st) rfl (by simp[zy]) (zhV hc) h6,h7⟩
    | _=>exact RW.le hle h3
  ·have hj:(p.rows.set k ⟨true,c.sealC⟩)[j]?=some r:=hj;rw[zCe e]at hj;obtain⟨o,h2,h3⟩:=hS.rows j r hj;exact⟨o,h2,RW.le hle h3⟩
theorem zsk{p p2:PSt}{k:Nat}(hw:Wf p)(h:hold p k=some p2):Wf p2:=by
 obtain⟨c,hc,rfl⟩:=K1 h;refine⟨hw.1,fun j r hj hr => ?_⟩;by_cases e:k=j
 ·subst e;have hj:(p.rows.set k ⟨true,c.sealC⟩)[k]?=some r:=hj;rw[zCd (getElem?_lt hc)]at hj;injection hj with hj;subst hj;exact zuu c
 ·have hj:(p.rows.set k ⟨true,c.sealC⟩)[j]?=some r:=hj;rw[zCe e]at hj;exact hw.2 j r hj hr
theorem zpd{ρ ρ1:Nat->Nat}{τ τ1:Nat->Option Nat}{p p2 p3:PSt}{st st1:St}{k:Nat}(hw:Wf p)(h:hold p k=some p2)(hg:Goes ρ τ p2 st ρ1 τ1 p3 st1):Goes ρ τ p st ρ1 τ1 (znc p3 k) st1:=by
 have hw2:=zsk hw h;obtain⟨c,hc,rfl⟩:=K1 h;have hlt:=getElem?_lt hc;have h0:(p.rows.set k ⟨true,c.sealC⟩)[k]?=some ⟨true,c.sealC⟩:=zCd hlt;have h3:p3.rows[k]?=some ⟨true,c.sealC⟩:=hg.ro hw2 k _ h0 rfl;have hu:znc p3 k={ p3 with rows:=p3.rows.set k ⟨false,c.sealC⟩ }:=by unfold znc;rw[h3]
 rw[hu];have hlt3:=getElem?_lt h3;have hrk:=fun j=>zyB (f':=false) h3 j
 have hle:Le (zy ρ1 τ1 p3 st1) (zy ρ1 τ1 { p3 with rows:=p3.rows.set k ⟨false,c.sealC⟩ } st1):=
  ⟨fun _ _=>rfl,by simp[zy],fun j _ => .inl (hrk j),fun i l h=>⟨h,rfl⟩,zR _⟩
 have hset : ∀ {j:Nat} {r:Row},k≠j->(p3.rows.set k ⟨false,c.sealC⟩)[j]?=some r->p3.rows[j]?=some r:=fun e hj=>by rwa [zCe e]at hj
 have h0' : ∀ {j:Nat} {r:Row},p.rows[j]?=some r->k≠j->(p.rows.set k ⟨true,c.sealC⟩)[j]?=some r:=fun hj e=>by rw[zCe e];exact hj
 have hlen:p.rows.length<=p3.rows.length:=by have:=hg.len;simpa using this
 refine⟨⟨fun t f d ht => ?_,fun j hj=>hg.sim.nx j (by simpa using hj),fun j r hj => ?_,fun i j hi hj=>hg.sim.inj i j (by simpa using hi) (by simpa using hj),hg.sim.lin,hg.sim.linj⟩,hg.nx,hg.lo,by simpa using hlen,fun j hj=>hg.ρs j (by simpa using hj),fun j h1 h2=>hg.ρn j (by simpa using h1) (by simpa using h2),hg.τn,fun _ => ?_,fun _ j r hj hr => ?_,fun j r' hj h1 h2 => ?_,fun j hj => ?_,fun b hb hr => ?_,hg.tip,fun m h1 h2 h3 h4 => ?_,fun _ t d ht=>hg.flg hw2 t d ht⟩
 ·obtain⟨e,h1,h2⟩:=hg.sim.tm t f d ht;exact⟨e,h1,RP.le hle h2⟩
 ·by_cases e:k=j
  ·subst e;have hj:(p3.rows.set k ⟨false,c.sealC⟩)[k]?=some r:=hj;rw[zCd hlt3]at hj;injection hj with hj;subst hj;obtain⟨o,h1,h2⟩:=hg.sim.rows k _ h3;exact⟨o,h1,RW.le hle h2⟩
  ·obtain⟨o,h1,h2⟩:=hg.sim.rows j r (hset e hj);exact⟨o,h1,RW.le hle h2⟩
 ·have hw3:=hg.wf hw2;refine⟨hw3.1,fun j r hj hr => ?_⟩;by_cases e:k=j
  ·subst e;have hj:(p3.rows.set k ⟨false,c.sealC⟩)[k]?=some r:=hj;rw[zCd hlt3]at hj;injection hj with hj;subst hj;cases hr
  ·exact hw3.2 j r (hset e hj) hr
 ·have e:k≠j:=by rintro rfl;rw[hc]at hj;injection hj with hj;subst hj;cases hr
  show(p3.rows.set k ⟨false,c.sealC⟩)[j]?=some r;rw[zCe e];exact hg.ro hw2 j r (h0' hj e) hr
 ·by_cases e:k=j
  ·subst e;have h1:(p3.rows.set k ⟨false,c.sealC⟩)[k]?=some r':=h1;rw[zCd hlt3]at h1;injection h1 with h1;subst h1;cases h2
  ·obtain⟨r,h5,h6⟩:=hg.rof j r' (by simpa using hj) (hset e h1) h2;have h5:(p.rows.set k ⟨true,c.sealC⟩)[j]?=some r:=h5;rw[zCe e]at h5;exact⟨r,h5,h6⟩
 ·have:=hg.rk j (by simpa using hj);show yj (p3.rows.set k ⟨false,c.sealC⟩) j=yj p.rows j\/yj (p3.rows.set k ⟨false,c.sealC⟩) j=none;rw[hrk j];rw[show yj ({ p with rows:=p.rows.set k ⟨true,c.sealC⟩ }:PSt).rows j=yj p.rows j from zhV hc j]at this;exact this
 ·refine hg.mem b hb (fun j r hj hb2 => ?_);by_cases e:k=j
  ·subst e;rw[h0]at hj;injection hj with hj;subst hj;rfl
  ·have hj:(p.rows.set k ⟨true,c.sealC⟩)[j]?=some r:=hj;rw[zCe e]at hj;exact hr j r hj hb2
 ·refine hg.lw m h1 h2 (fun j r hj hro => ?_) h4;by_cases e:k=j
  ·subst e;exact h3 k _ hc (.inl rfl)
  ·have hj:(p.rows.set k ⟨true,c.sealC⟩)[j]?=some r:=hj;rw[zCe e]at hj;exact h3 j r hj hro
theorem zlt{s s':St}{b off:Nat}(h:s'.mem b=s.mem b)(ag:Bool)(sz:Nat):vB s' ag sz (.ptr b off)=vB s ag sz (.ptr b off):=by
 have : ∀ n,vL s' (.ptr b off) n=vL s (.ptr b off) n:=fun n=>by simp only[vL,h]
 unfold vB;rw[this,this]
theorem zAu(hg:GlR E gl)(hpc:zbt E gl.md pc){t a sz k b off:Nat}{ag:Bool}{v:D}{Y:List OpC}(l:PO) : ∀ {ρ':Type} {r:ρ'} {ρ:Nat->Nat} {τ:Nat->Option Nat} {p:PSt} {st:St} {K:PSt->Option ρ'},Sim ρ τ p st->Wf p->vC gl pc l p K=some r ->
  zkM l=true->hasB (xN l) t=false->hasB (xN l) a=false->(∃ rw,p.rows[k]?=some rw/\rw.ro=true)->ρ k=b->get st.tm a=some (.ptr b off)->vB st ag sz (.ptr b off)=some v->get st.tm t=some v ->
  ∃ p',K p'=some r /\ ∃ st' ρ1 τ1,runFl E (zz E) Y [⟨some t,.load ag sz (.s a),none⟩] (vX l) st=some (.ok st')/\Goes ρ τ p st ρ1 τ1 p' st':=by
 induction l with
 | nil=>intro _ r ρ τ p st K hS hw h _ _ _ _ _ _ _ _;exact⟨p,h,st,ρ,τ,rfl,.refl hS⟩
 | one o s ih=>
  intro _ r ρ τ p st K hS hw h hfl ht ha hro hb hga hld hgt;simp only[zkM,zG]at hfl;have hgd:o.gd=none:=by
   have:=hfl.1;cases hq:o.gd with
   | none=>rfl
   | some q=>rw[hq]at this;contradiction
  simp only[vC]at h;obtain⟨p1,h1,st1,ρ1,τ1,h2,h3,_⟩:=zbX hg hpc hS hw h;have hno : ∀ {u:Nat},hasB (xN (.one o s)) u=false->o.dst≠some u/\hasB (xN s) u=false:=by
   intro u hu;simp only[xN]at hu;cases hd:o.dst with
   | none=>rw[hd]at hu;exact⟨by simp,hu⟩
   | some w=>
    rw[hd]at hu;simp only[List.cons_append,List.nil_append,hasB]at hu;split at hu
    ·contradiction
    ·next hne=>exact⟨fun e=>by injection e with e;subst e;simp at hne,hu⟩
  obtain⟨rw',hrw,hrr⟩:=hro;have hlt:k<p.rows.length:=getElem?_lt hrw;have hmem:st1.mem b=st.mem b:=by refine h3.mem b (by rw[<- hb];exact hS.nx k hlt) (fun j r0 hj hjb => ?_);have:=hS.inj j k (getElem?_lt hj) hlt (hjb.trans hb.symm);subst this;rw[hrw]at hj;injection hj with hj;subst hj;exact hrr
  have hga1:get st1.tm a=some (.ptr b off):=by rw[qA (ku E) h2 (hno ha).1];exact hga
  have hgt1:get st1.tm t=some v:=by rw[qA (ku E) h2 (hno ht).1];exact hgt
  have hld1:vB st1 ag sz (.ptr b off)=some v:=(zlt hmem ag sz).trans hld;obtain⟨p',h4,st',ρ2,τ2,h5,h6⟩:=ih h3.sim (h3.wf hw) h1 hfl.2 (hno ht).2 (hno ha).2 ⟨rw',h3.ro hw k rw' hrw hrr,hrr⟩ (by rw[h3.ρs k hlt];exact hb) hga1 hld1 hgt1;refine⟨p',h4,st',ρ2,τ2,?_,h3.trans hw h6⟩;have ho:KD none o=o:=by obtain⟨d,op,gd⟩:=o;cases gd<;>rfl
  simp only[vX,xc,runFl,ho,h2];rw[zBu]
  ·exact h5
  ·intro z hz;obtain rfl:=List.mem_singleton.1 hz;refine .inl ⟨rfl,some v,?_,fun u d hu hd => ?_⟩
   ·simp only[opD,ev,hga1,zD,hld1,zC]
   ·injection hu with hu;subst hu;exact hgt1.symm.trans hd
 | box n dst x r=>intro _ r ρ τ p st K hS hw h hfl;simp[zkM]at hfl
 | grp c w ops dst a b s ih1 ih2=>intro _ r ρ τ p st K hS hw h hfl;simp[zkM]at hfl
theorem zij(hg:GlR E gl)(hpc:zbt E gl.md pc)(c:PC) : ∀ {ρ':Type} {r:ρ'} {ρ:Nat->Nat} {τ:Nat->Option Nat} {p:PSt} {st:St} {K:PEx->PSt->Option ρ'},Sim ρ τ p st->Wf p->yC gl pc c p K=some r ->
  ∃ x p',K x p'=some r /\ ∃ st' ρ1 τ1,execL E (xz c) st=some (zam x,st')/\Goes ρ τ p st ρ1 τ1 p' st':=by
 induction c with
 | skip=>intro _ r ρ τ p st K hS hw h;exact⟨.nrm,p,h,st,ρ,τ,zq7 st,.refl hS⟩
 | exit id=>intro _ r ρ τ p st K hS hw h;exact⟨.ext id,p,h,st,ρ,τ,zq8 id st,.refl hS⟩
 | ret=>intro _ r ρ τ p st K hS hw h;exact⟨.ret,p,h,st,ρ,τ,zt3 st,.refl hS⟩
 | reg ops keep=>intro _ r ρ τ p st K hS hw h;simp only[yC]at h;obtain⟨p1,h1,st1,ρ1,τ1,h2,h3⟩:=XM hg hpc _ hS hw h;exact⟨.nrm,_,h1,_,ρ1,τ1,by simp only[xz,ztD,h2];rfl,h3.trans hw (K6 h3.sim keep)⟩
 | drw a0 a1 b keep=>
  intro _ r ρ τ p st K hS hw h;simp only[yC]at h;obtain⟨p1,h1,st1,ρ1,τ1,h2,h3⟩:=XM hg hpc _ hS hw h;split at h1<;>try contradiction
  next hst=>have hw1:=h3.wf hw;obtain⟨p2,h4,st2,h5,τ2,h6,h7⟩:=zw6 hg hpc _ (zlY h3.sim) st1.nx ⟨zwS p1,zoL hw1,zR _,zR _,fun i l hi hτ=>absurd (h3.sim.lin i l hτ).1 (Nat.not_lt.2 hi)⟩ hst h1;have h8:=zrh h3.sim h6 h7;obtain⟨p3,h9,st3,ρ3,τ3,h10,h11⟩:=XM hg hpc _ h8.sim (h8.wf hw1) h4;exact⟨.nrm,_,h9,_,ρ3,τ3,by simp only[xz,zeb,runDrw,runB,runFl,h2,h5,h10];rfl,h3.trans hw (h8.trans hw1 (h11.trans (h8.wf hw1) (K6 h11.sim keep)))⟩
 | drq a0 a1 b keep=>intro _ r ρ τ p st K hS hw h;simp only[yC]at h;obtain⟨p1,h1,st1,ρ1,τ1,h2,h3⟩:=XM hg hpc _ hS hw h;have hw1:=h3.wf hw;obtain⟨p2,h4,st2,ρ2,τ2,h5,h6⟩:=zuP hg hpc _ h3.sim hw1 h1;have hw2:=h6.wf hw1;obtain⟨p3,h9,st3,ρ3,τ3,h10,h11⟩:=XM hg hpc _ h6.sim hw2 h4;exact⟨.nrm,_,h9,_,ρ3,τ3,by simp only[xz,zeb,runDrw,runB,runFl,h2,h5,h10];rfl,h3.trans hw (h6.trans hw1 (h11.trans hw2 (K6 h11.sim keep)))⟩
 | drf a0 t ag sz a k b1 b keep=>
  intro _ r ρ τ p st K hS hw h;simp only[yC]at h;obtain⟨p0,h1,st0,ρ0,τ0,h2,h3⟩:=XM hg hpc _ hS hw h;have hw0:=h3.wf hw;obtain⟨p1,h4,st1,ρ1,τ1,h5,h6,_⟩:=zbX hg hpc h3.sim hw0 h1;have hw1:=h6.wf hw0;split at h4<;>try contradiction
  next k' off hga=>
   split at h4<;>try contradiction
   next hst=>
    simp only[zG,Bool.not_eq_true']at hst;obtain⟨⟨⟨⟨hkk,hta⟩,hdt⟩,hda⟩,hfl⟩:=hst;obtain rfl:=zJ hkk;split at h4<;>try contradiction
    next p2 hp2=>
     have hsim2:=zwY h6.sim hp2;have hw2:=zsk hw1 hp2;obtain⟨c,hc,hp2e⟩:=K1 hp2;rw[jX,zB]at hga;obtain⟨⟨fl,d⟩,hgf,hd⟩:=hga;simp only at hd;subst hd;obtain⟨e,he1,he2⟩:=h6.sim.tm a fl _ hgf;obtain⟨_,rfl⟩:=he2;have he1:get st1.tm a=some (.ptr (ρ1 k) off):=he1
     -- what was loaded
     have hst1 : ∃ v,st1=st0.set (some t) (some v)/\vB st0 ag sz (.ptr (ρ1 k) off)=some v:=by
      simp only[opC,yO,opR,opX,opD,zB,zA]at h5;obtain⟨rv,⟨pr,⟨dd,hdd,vv,hvv,rfl⟩,rfl⟩,hh⟩:=h5;injection hh with hh;have h7:get st1.tm a=get st0.tm a:=by rw[<- hh,jW,zBt (by intro e;injection e with e;subst e;simp at hta)]
      have h8:dd = .ptr (ρ1 k) off:=by have:get st0.tm a=some dd:=hdd;rw[<- h7,he1]at this;injection this with this;exact this.symm
      subst h8;exact⟨vv,hh.symm,hvv⟩
     obtain⟨v,hv1,hv2⟩:=hst1;have hgt:get st1.tm t=some v:=by rw[hv1,jW,zBu rfl]
     have hld:vB st1 ag sz (.ptr (ρ1 k) off)=some v:=by rw[zlt (s:=st0) (by rw[hv1];rfl)];exact hv2
     obtain⟨p3,h7,st3,ρ3,τ3,h8,h9⟩:=zAu (Y:=vX a0++[⟨some t,.load ag sz (.s a),none⟩]) hg hpc b1 hsim2 hw2 h4 hfl hdt hda ⟨_,by rw[hp2e];exact zCd (getElem?_lt hc),rfl⟩ rfl he1 hld hgt;have h10:=zpd hw1 hp2 h9;obtain⟨p4,h11,st4,ρ4,τ4,h12,h13⟩:=XM hg hpc _ h10.sim (h10.wf hw1) h7;refine⟨.nrm,_,h11,_,ρ4,τ4,?_,h3.trans hw (h6.trans hw0 (h10.trans hw1 (h13.trans (h10.wf hw1) (K6 h13.sim keep))))⟩;have hstill:runStill E (zz E) [⟨some t,.load ag sz (.s a),none⟩] st0=some st1:=by simp only[runStill,h5];rw[zBu (by rw[hv1];rfl)]
     have hlo:jy [⟨some t,.load ag sz (.s a),none⟩]=[⟨some t,.load ag sz (.s a),none⟩]:=rfl;simp only[xz,zeb,runDrw,h2,hstill,runB,hlo,h8,h12];rfl
 | seq a b iha ihb=>
  intro _ r ρ τ p st K hS hw h;simp only[yC]at h;obtain⟨x,p1,h1,st1,ρ1,τ1,h2,h3⟩:=iha hS hw h;cases x with
  | nrm=>obtain⟨x,p2,h4,st2,ρ2,τ2,h5,h6⟩:=ihb h3.sim (h3.wf hw) h1;exact⟨x,p2,h4,st2,ρ2,τ2,by simp only[xz,zdF,h2,zam];exact h5,h3.trans hw h6⟩
  | ext i=>exact⟨.ext i,p1,h1,st1,ρ1,τ1,by simp only[xz,zdF,h2,zam],h3⟩
  | ret=>exact⟨.ret,p1,h1,st1,ρ1,τ1,by simp only[xz,zdF,h2,zam],h3⟩
 | cond c a b iha ihb=>
  intro _ r ρ τ p st K hS hw h;simp only[yC]at h;split at h<;>try contradiction
  next cv hc=>
   rw[zA]at h;obtain⟨cb,hcb,h⟩:=h;obtain⟨e,he,hr⟩:=xD (E:=E) hg hS hc;have:=Yg hcb hr;subst this;split at h
   ·next hb=>
    subst hb;obtain⟨x,p1,h1,st1,ρ1,τ1,h2,h3⟩:=iha hS hw h;exact⟨x,p1,h1,st1,ρ1,τ1,by simp only[xz,ziZ,he];exact h2,h3⟩
   ·next hb=>
    have hb:cb=false:=by simpa using hb
    subst hb;obtain⟨x,p1,h1,st1,ρ1,τ1,h2,h3⟩:=ihb hS hw h;exact⟨x,p1,h1,st1,ρ1,τ1,by simp only[xz,ziZ,he];exact h2,h3⟩
 | blk id c ih=>
  intro _ r ρ τ p st K hS hw h;simp only[yC]at h;obtain⟨x,p1,h1,st1,ρ1,τ1,h2,h3⟩:=ih hS hw h;cases x with
  | nrm=>exact⟨.nrm,p1,h1,st1,ρ1,τ1,by simp only[xz,KK,h2,zam,zmN],h3⟩
  | ret=>exact⟨.ret,p1,h1,st1,ρ1,τ1,by simp only[xz,KK,h2,zam,zmN],h3⟩
  | ext i=>
   simp only at h1;split at h1
   ·next hb=>
    have hb:=zJ hb;exact⟨.nrm,p1,h1,st1,ρ1,τ1,by simp only[xz,KK,h2,zam,zmN,hb,zBu],h3⟩
   ·next hb=>
    have hne:i≠id:=fun e=>by subst e;rw[Nat.beq_refl]at hb;contradiction
    exact⟨.ext i,p1,h1,st1,ρ1,τ1,by simp only[xz,KK,h2,zam,zmN,zBt hne],h3⟩
 | cut hd xs c ih=>
  intro _ r ρ τ p st K hS hw h;simp only[yC]at h;obtain⟨v0,h1,h2⟩:=znF hS h;split at h1<;>try contradiction
  next pv hpv=>
   obtain⟨τ1,hin⟩:=h2 pv hpv;rw[zA]at h1;obtain⟨o,ho,h1⟩:=h1;obtain⟨x,p1,h3,st1,ρ1,τ2,h4,h5⟩:=ih hin.sim hin.wf ho;split at h3<;>try contradiction
   next j sh hx=>obtain⟨v,h6,_,h7⟩:=zmy hS hin h5 h3;injection h6 with h6;subst h6;obtain⟨_,h8⟩:=zpE (r:=r) (p:=p) (v:=v) (K:=K) hx;obtain⟨q,hq,h9⟩:=h8 h1;obtain⟨τ3,h10⟩:=h7 q hq;exact⟨x,q,h9,st1,ρ1,τ3,h4,h10⟩
 | loop hd xs c ih=>
  intro ρ' r ρ τ p st K hS hw h;simp only[yC]at h;obtain⟨v0,h1,h2⟩:=znF hS h;rw[zA]at h1;obtain⟨o,ho,h1⟩:=h1;obtain⟨n,hn⟩:=VI.1 ho;clear ho h;have key : ∀ (n:Nat) (v:Nat->V) (ρ1:Nat->Nat) (st1:St),(∀ pv,dec true hd p v=some pv -> ∃ τ1,In ρ τ p st ρ1 τ1 pv st1)->ja (fun v:Nat->V=>match dec true hd p v with
    | some pv=>yC gl pc c pv fun x p'=>match x with
     | .nrm=>Kt true hd p' fun v'=>some (.inl v')
     | .ext i=>match Zy xs (.ext i) 0 with | some (j,sh)=>Kt true sh p' fun v'=>some (.inr (j,v')) | none=>none
     | .ret=>match Zy xs .ret 0 with | some (j,sh)=>Kt true sh p' fun v'=>some (.inr (j,v')) | none=>none
    | none=>none) n v=some o -> ∃ x q,K x q=some r /\ ∃ st' ρ2 τ2,execL E (.loop (xz c)) st1=some (zam x,st')/\Goes ρ τ p st ρ2 τ2 q st':=by
   intro n;induction n with
   | zero=>intro v ρ1 st1 _ h;simp[ja]at h
   | succ n ihn=>
    intro v ρ1 st1 hin h;simp only[ja]at h;cases hdv:dec true hd p v with
    | none=>rw[hdv]at h;contradiction
    | some pv=>
     obtain⟨τ1,hin⟩:=hin pv hdv;rw[hdv]at h;simp only at h;have leave : ∀ {x:PEx} {p1:PSt} {st2:St} {ρ2:Nat->Nat} {τ2:Nat->Option Nat} {j:Nat} {sh:Sh} {b:Nat×(Nat->V)},x ≠ .nrm->execL E (xz c) st1=some (zam x,st2)->Goes ρ1 τ1 pv st1 ρ2 τ2 p1 st2->Zy xs x 0=some (j,sh) ->
       (Kt true sh p1 fun v'=>some (Sum.inr (α:=Nat->V) (j,v')))=some (.inr b)->b=o -> ∃ x q,K x q=some r /\ ∃ st' ρ2 τ2,execL E (.loop (xz c)) st1=some (zam x,st')/\Goes ρ τ p st ρ2 τ2 q st':=by
      intro x p1 st2 ρ2 τ2 j sh b hx h4 h5 hf h6 hb;subst hb;obtain⟨v,h7,_,h8⟩:=zmy hS hin h5 h6;injection h7 with h7;injection h7 with h7;subst h7;obtain⟨_,h9⟩:=zpE (r:=r) (p:=p) (v:=v) (K:=K) hf;obtain⟨q,hq,h10⟩:=h9 h1;obtain⟨τ3,h11⟩:=h8 q hq;refine⟨x,q,h10,st2,ρ2,τ3,?_,h11⟩;rw[zh3,h4];cases x with
      | nrm=>exact(hx rfl).elim
      | ext i=>rfl
      | ret=>rfl
     split at h
     ·next a' he=>
      obtain⟨x,p1,h3,st2,ρ2,τ2,h4,h5⟩:=ih hin.sim hin.wf he;cases x with
      | nrm=>simp only at h3;obtain⟨v',h6,h7,_⟩:=zmy hS hin h5 h3;injection h6 with h6;injection h6 with h6;subst h6;obtain⟨x,q,h8,st',ρ3,τ3,h9,h10⟩:=ihn v' ρ2 st2 h7 h;refine⟨x,q,h8,st',ρ3,τ3,?_,h10⟩;rw[zh3,h4];exact h9
      | ext i=>
       simp only at h3;split at h3<;>try contradiction
       obtain⟨v',h6,_⟩:=zb3 h3;simp at h6
      | ret=>
       simp only at h3;split at h3<;>try contradiction
       obtain⟨v',h6,_⟩:=zb3 h3;simp at h6
     ·next b he=>
      obtain⟨x,p1,h3,st2,ρ2,τ2,h4,h5⟩:=ih hin.sim hin.wf he;injection h with h;cases x with
      | nrm=>simp only at h3;obtain⟨v',h6,_⟩:=zb3 h3;simp at h6
      | ext i=>
       simp only at h3;split at h3<;>try contradiction
       next j sh hf=>exact leave (by simp) h4 h5 hf h3 h
      | ret=>
       simp only at h3;split at h3<;>try contradiction
       next j sh hf=>exact leave (by simp) h4 h5 hf h3 h
     ·contradiction
  exact key n v0 ρ st h2 hn
end
end
section
section
variable {ρ:Type}
theorem ju{α:Type}(b:Bool)(k:Option α)(f:α->Option ρ):(tst b k).bind f=tst b (k.bind f):=by cases b<;>rfl
def zbB(x:V)(i n:Nat):Option (List PS):=qv x i n some
theorem ziu(x:V)(n:Nat) : ∀ (i:Nat) {ρ:Type} (K:List PS->Option ρ),qv x i n K=(zbB x i n).bind K:=by
 unfold zbB;induction n with
 | zero=>intro i _ K;rfl
 | succ n ih=>intro i _ K;simp only[qv];rw[zE];congr 1;funext c;rw[ih (i+1) (fun l=>K (.v c::l)),ih (i+1) (fun l=>some (PS.v c::l)),zE];rfl
theorem W5(x:V)(i n:Nat)(K:List PS->Option ρ):qv x i n K=(zbB x i n).bind K:=ziu x n i K
def zwv(n:Nat)(d:PD):Option (List PS):=vz n d some
theorem za5(n:Nat)(d:PD)(K:List PS->Option ρ):vz n d K=(zwv n d).bind K:=by
 unfold zwv;cases d with
 | agg ps=>simp only[vz];split<;>rfl
 | s q=>cases q<;>simp only[vz,W5,ju,zE,zD]<;>first | rfl | (split<;>rfl)
def zwB(gl:Gl)(p:PSt)(cells:List PS)(ps:List (Nat×Nat×X)):Option (List PS):=zbh gl p cells ps some
theorem zqp(gl:Gl)(p:PSt)(cells:List PS)(ps:List (Nat×Nat×X))(K:List PS->Option ρ):zbh gl p cells ps K=(zwB gl p cells ps).bind K:=by
 unfold zwB;induction ps generalizing cells K with
 | nil=>rfl
 | cons q r ih=>
  obtain⟨o,n,x⟩:=q;simp only[zbh];split
  ·split
   ·simp only[za5,zE];congr 1;funext c;exact ih _ _
   ·rfl
  ·rfl
def elD(sz:Nat)(els:List V)(o n:Nat)(x:V):Option (List V):=elK sz els o n x some
theorem zyb(sz:Nat)(els:List V)(o n:Nat)(x:V)(K:List V->Option ρ):elK sz els o n x K=(elD sz els o n x).bind K:=by
 unfold elD elK;split
 ·split
  ·rw[ju,zE];rfl
  ·rw[ju];rfl
 ·split
  ·rfl
  ·split
   ·split
    ·rw[ju];rfl
    ·rfl
   ·rfl
def zAm(gl:Gl)(p:PSt)(sz:Nat)(els:List V)(ps:List (Nat×Nat×X)):Option (List V):=zrp gl p sz els ps some
theorem zvh(gl:Gl)(p:PSt)(sz:Nat)(els:List V)(ps:List (Nat×Nat×X))(K:List V->Option ρ):zrp gl p sz els ps K=(zAm gl p sz els ps).bind K:=by
 unfold zAm;induction ps generalizing els K with
 | nil=>rfl
 | cons q r ih=>
  obtain⟨o,n,x⟩:=q;simp only[zrp];split
  ·split
   ·split
    ·simp only[zyb,zE];congr 1;funext c;exact ih _ _
    ·rfl
   ·rfl
  ·rfl
def slD(sz:Nat)(p:PSt)(d:PD):Option (List V):=slK sz p d some
theorem zsF(sz:Nat)(p:PSt)(d:PD)(K:List V->Option ρ):slK sz p d K=(slD sz p d).bind K:=by
 unfold slD;cases d with
 | agg ps=>rfl
 | s q=>cases q<;>simp only[slK,ju,zD]<;>first | rfl | (rw[zE];rfl) | (split<;>first | rfl | (split<;>rfl)) | simp
def zAp(sz:Nat)(p:PSt)(d:PD):Option (List V):=zrs sz p d some
theorem zwm(sz:Nat)(p:PSt)(d:PD)(K:List V->Option ρ):zrs sz p d K=(zAp sz p d).bind K:=by
 unfold zAp zrs;split
 ·rw[zE];rfl
 ·exact zsF sz p _ K
def zwo(p:PSt)(ag:Bool)(sz:Nat)(d:PD):Option PD:=ze4 p ag sz d some
theorem ztU(p:PSt)(ag:Bool)(sz:Nat)(d:PD)(K:PD->Option ρ):ze4 p ag sz d K=(zwo p ag sz d).bind K:=by
 unfold zwo;cases d with
 | agg ps=>rfl
 | s q=>
  cases q<;>simp only[ze4]<;>try rfl
  all_goals (repeat' split)<;>first | rfl | (simp only[ju,zE,zD]) | (simp only[ju,zE,zD];congr 1;funext x;split<;>rfl)
def zsJ(p:PSt)(sz:Nat)(a v:PD):Option PSt:=zbP p sz a v some
theorem zqq(p:PSt)(sz:Nat)(a v:PD)(K:PSt->Option ρ):zbP p sz a v K=(zsJ p sz a v).bind K:=by
 unfold zsJ;cases a with
 | agg ps=>rfl
 | s q=>
  cases q<;>simp only[zbP]<;>try rfl
  all_goals (repeat' split)<;>first | rfl | (simp only[W5,za5,ju,zE,zD])
def zyU(p:PSt)(sz bytes:Nat)(s:PD)(ys:List V):Option (PD×PSt):=zom p sz bytes s ys fun a b=>some (a,b)
theorem zu5(p:PSt)(sz bytes:Nat)(s:PD)(ys:List V)(K:PD->PSt->Option ρ):zom p sz bytes s ys K=(zyU p sz bytes s ys).bind fun q=>K q.1 q.2:=by
 unfold zyU;cases s with
 | agg ps=>rfl
 | s q=>
  cases q<;>simp only[zom]<;>try rfl
  all_goals (repeat' split)<;>first | rfl | (simp only[ju,zD];done) | (simp only[ju];done) | (simp only[ju];rfl) | (simp only[ju];congr 1;split<;>first | rfl | (split<;>rfl))
def zyC(p:PSt)(ys:List V)(j:Nat)(ks:List Nat):Option PSt:=zfs p ys j ks some
theorem zlr(p:PSt)(ys:List V)(j:Nat)(ks:List Nat)(K:PSt->Option ρ):zfs p ys j ks K=(zyC p ys j ks).bind K:=by
 unfold zyC;induction ks generalizing p j K with
 | nil=>rfl
 | cons k r ih=>
  simp only[zfs];split
  ·exact ih _ _ _
  ·split
   ·rw[zE];congr 1;funext y;exact ih _ _ _
   ·rfl
  ·rfl
def zew(pc:PcT)(f:Nat)(ds:List PD)(p:PSt):Option (PD×PSt):=XX pc f ds p fun a b=>some (a,b)
theorem zef(pc:PcT)(f:Nat)(ds:List PD)(p:PSt)(K:PD->PSt->Option ρ):XX pc f ds p K=(zew pc f ds p).bind fun q=>K q.1 q.2:=by
 unfold zew XX;split
 ·split
  ·rw[zE];congr 1;funext r;rw[zlr,zlr (K:=fun p''=>some (PD.s (.v r.1),p'')),zE];rfl
  ·rfl
 ·rfl
def WC(md:Nat->Md)(pc:PcT)(f:Nat)(ds:List PD)(p:PSt):Option (PD×PSt):=YF md pc f ds p fun a b=>some (a,b)
theorem zvu(e:Eff)(ds:List PD)(p:PSt)(K:PD->PSt->Option ρ):zo7 e ds p K=(zo7 e ds p fun a b=>some (a,b)).bind fun q=>K q.1 q.2:=by
 unfold zo7 tst
 (repeat' split)<;>first | rfl | (rw[zE];congr 1;done) | (rw[zE];congr 1;funext s;split<;>rfl)
theorem zla(md:Nat->Md)(pc:PcT)(f:Nat)(ds:List PD)(p:PSt)(K:PD->PSt->Option ρ):YF md pc f ds p K=(WC md pc f ds p).bind fun q=>K q.1 q.2:=by
 unfold WC YF;split
 ·exact zef _ _ _ _ _
 ·unfold J1;split
  ·rw[zE];congr 1;funext r;rw[zE];rfl
  ·rfl
 ·unfold zh1;split
  ·split
   ·split
    ·rw[zE];rfl
    ·rfl
   ·rfl
  ·split
   ·unfold tst;split
    ·rw[zE];rfl
    ·rfl
   ·rfl
  ·rfl
 ·unfold zhK zf4;split
  ·split
   ·split
    ·rw[zE];rfl
    ·rfl
   ·unfold tst;split
    ·split
     ·rw[zE];rfl
     ·rfl
    ·rfl
   ·rfl
  ·rfl
 ·split
  ·unfold J1 zf4;split
   ·split
    ·rw[zE];congr 1;funext r;rw[zE];rfl
    ·rfl
   ·unfold tst;split
    ·split
     ·rw[zE];congr 1;funext r;rw[zE];rfl
     ·rfl
    ·rfl
   ·rfl
  ·rfl
 ·exact zvu _ _ _ _
theorem zoB(p:PSt)(n sz:Nat)(l h m:Option V)(d:PD)(K:PD->Option ρ):zv6 p n sz l h m d K=(zv6 p n sz l h m d some).bind K:=by
 unfold zv6 tst
 (repeat' split)<;>first | rfl | (rw[zE];rfl)
def zvp(gl:Gl)(pc:PcT)(p:PSt)(o:O):Option (Option PD×PSt):=VF gl pc p o fun a b=>some (a,b)
theorem znr(gl:Gl)(pc:PcT)(p:PSt)(o:O)(K:Option PD->PSt->Option ρ):VF gl pc p o K=(zvp gl pc p o).bind fun q=>K q.1 q.2:=by
 unfold zvp;cases o<;>simp only[VF,zoB (K:=fun d=>K (some d) p),zoB (K:=fun d=>some (some d,p)),zqp,zvh,zsF,zwm,ztU,zqq,zu5,zla,zef]<;>first
  | rfl
  | ((repeat' split)<;>first | rfl | (simp only[zE,zD];done) | (simp only[zE];rfl) | (simp only[zE];congr 1;done) | (simp only[zE];congr 1;funext x;unfold tst;split<;>rfl) | (simp only[zE];congr 1;funext x;split<;>first | rfl | (simp only[zE,zD];done) | (split<;>first | rfl | (simp only[zE,zD];done) | (split<;>first | rfl | (unfold tst;split<;>rfl))) ))
end
end
section
def zoD(gl:Gl)(pc:PcT)(o:OpC)(p:PSt):Option PSt:=zhH gl pc o p some
theorem Vz(gl:Gl)(pc:PcT)(o:OpC)(p:PSt){ρ:Type}(K:PSt->Option ρ):zhH gl pc o p K=(zoD gl pc o p).bind K:=by
 unfold zoD zhH;simp only[znr];split
 ·rw[zE];congr 1;funext q;split<;>rfl
 ·split
  ·rw[zE];congr 1;funext c;split
   ·rw[zE];congr 1;funext q;split<;>rfl
   ·split<;>rfl
  ·rfl
def zpW(n:Nat)(d:PD):Option RowC:=zc2 n d some
theorem zfx(n:Nat)(d:PD){ρ:Type}(K:RowC->Option ρ):zc2 n d K=(zpW n d).bind K:=by
 unfold zpW zc2;simp only[za5];split
 ·split
  ·rw[ju];rfl
  ·rw[zE];rfl
 ·rw[zE];rfl
def zhu(gl:Gl)(pc:PcT)(l:PO)(p:PSt):Option PSt:=vC gl pc l p some
theorem jZ(gl:Gl)(pc:PcT)(l:PO) : ∀ (p:PSt) {ρ:Type} (K:PSt->Option ρ),vC gl pc l p K=(zhu gl pc l p).bind K:=by
 unfold zhu;induction l with
 | nil=>intro p _ K;rfl
 | one o s ih=>intro p _ K;simp only[vC,Vz,zE];congr 1;funext q;exact ih q K
 | box n dst x s ih=>
  intro p _ K;simp only[vC,zfx];split
  ·rw[zE];congr 1;funext c;split
   ·exact ih _ K
   ·rfl
  ·rfl
 | grp c w ops dst a b s ih1 ih2=>
  intro p _ K;simp only[vC];split
  ·split
   ·split
    ·split
     ·rw[zE];congr 1;funext c;rw[zE];congr 1;funext x;split
      ·exact ih2 _ K
      ·rfl
     ·rfl
    ·rfl
   ·rfl
  ·rfl
def zib(gl:Gl)(pc:PcT)(l:PO)(p:PSt):Option PSt:=Ja gl pc l p some
theorem zkG(gl:Gl)(pc:PcT)(l:PO) : ∀ (p:PSt) {ρ:Type} (K:PSt->Option ρ),Ja gl pc l p K=(zib gl pc l p).bind K:=by
 unfold zib;induction l with
 | nil=>intro p _ K;rfl
 | one o s ih=>
  intro p _ K;simp only[Ja,Vz];split
  ·split
   ·rw[zE];congr 1;funext q;exact ih q K
   ·rfl
  ·rfl
 | box n dst x s ih=>intro p _ K;rfl
 | grp c w ops dst a b s ih1 ih2=>intro p _ K;rfl
def zyV(m:Nat)(kd:Kd)(q:PS)(ids:List Nat):Option (List V×List Nat):=encS m kd q ids fun a b=>some (a,b)
theorem zpC(m:Nat)(kd:Kd)(q:PS)(ids:List Nat){ρ:Type}(K:List V->List Nat->Option ρ):encS m kd q ids K=(zyV m kd q ids).bind fun q=>K q.1 q.2:=by unfold zyV;cases kd<;>simp only[encS]<;>(repeat' split)<;>first | rfl | (rw[ju];rfl)
def zy5(m:Nat)(kds:List Kd)(qs:List PS)(ids:List Nat):Option (List V×List Nat):=ziI m kds qs ids fun a b=>some (a,b)
theorem zo5(m:Nat)(kds:List Kd) : ∀ (qs:List PS) (ids:List Nat) {ρ:Type} (K:List V->List Nat->Option ρ),ziI m kds qs ids K=(zy5 m kds qs ids).bind fun q=>K q.1 q.2:=by
 unfold zy5;induction kds with
 | nil=>intro qs ids _ K;cases qs<;>rfl
 | cons kd r ih=>
  intro qs ids _ K;cases qs with
  | nil=>rfl
  | cons q s=>simp only[ziI,zpC,zE];congr 1;funext a;rw[ih s a.2 (fun l' ids=>K (a.1++l') ids),ih s a.2 (fun l' ids=>some (a.1++l',ids)),zE];rfl
def zyW(strict:Bool)(m:Nat)(p:PSt)(sl:List (Nat×Kd))(ids:List Nat):Option (List V×List Nat):=zjP strict m p sl ids fun a b=>some (a,b)
theorem zv3(strict:Bool)(m:Nat)(p:PSt)(sl:List (Nat×Kd)) : ∀ (ids:List Nat) {ρ:Type} (K:List V->List Nat->Option ρ),zjP strict m p sl ids K=(zyW strict m p sl ids).bind fun q=>K q.1 q.2:=by
 unfold zyW;induction sl with
 | nil=>intro ids _ K;rfl
 | cons a r ih=>
  obtain⟨t,kd⟩:=a;intro ids _ K;simp only[zjP];split
  ·split
   ·split
    ·exact ih ids K
    ·rfl
   ·split
    ·rfl
    ·split
     ·simp only[zpC,zE];congr 1;funext a;rw[ih a.2 (fun l' ids=>K (a.1++l') ids),ih a.2 (fun l' ids=>some (a.1++l',ids)),zE];rfl
     ·split
      ·split
       ·next x _ =>
        rw[ih ids (fun l' ids=>K (.agg x::l') ids),ih ids (fun l' ids=>some (.agg x::l',ids)),zE];rfl
       ·rfl
      ·rfl
  ·rfl
def zyR(strict:Bool)(m:Nat)(rks:List RK)(rows:List Row)(ids:List Nat):Option (List V×List Nat):=encR strict m rks rows ids fun a b=>some (a,b)
theorem zwe(strict:Bool)(m:Nat)(rks:List RK) : ∀ (rows:List Row) (ids:List Nat) {ρ:Type} (K:List V->List Nat->Option ρ),encR strict m rks rows ids K=(zyR strict m rks rows ids).bind fun q=>K q.1 q.2:=by
 unfold zyR;induction rks with
 | nil=>
  intro rows ids _ K;cases rows with
  | nil=>rfl
  | cons _ _=>simp only[encR];split<;>rfl
 | cons rk r ih=>
  intro rows ids _ K;cases rows with
  | nil=>rfl
  | cons a s=>
   obtain⟨f,c⟩:=a;have pre : ∀ (l:List V) (ids:List Nat),encR strict m r s ids (fun l' ids=>K (l++l') ids)=(encR strict m r s ids fun l' ids=>some (l++l',ids)).bind fun q=>K q.1 q.2:=by intro l ids;rw[ih s ids (fun l' ids=>K (l++l') ids),ih s ids (fun l' ids=>some (l++l',ids)),zE];rfl
   have pre1 : ∀ (x:V) (ids:List Nat),encR strict m r s ids (fun l' ids=>K (x::l') ids)=(encR strict m r s ids fun l' ids=>some (x::l',ids)).bind fun q=>K q.1 q.2:=fun x ids=>pre [x] ids
   simp only[encR];split
   ·split
    ·exact ih s ids K
    ·rfl
   ·split
    ·rfl
    ·exact ih s ids K
   ·split
    ·rfl
    ·split
     ·split
      ·exact pre1 _ ids
      ·rfl
     ·split
      ·split
       ·exact pre1 _ ids
       ·rfl
      ·rfl
     ·rfl
   ·split
    ·rfl
    ·split
     ·simp only[zo5,zE];congr 1;funext a;exact pre a.1 a.2
     ·simp only[W5,zo5,zE];congr 1;funext ps;congr 1;funext a;exact pre a.1 a.2
     ·rfl
   ·split
    ·rfl
    ·split
     ·split
      ·exact pre1 _ ids
      ·rfl
     ·rfl
   ·split
    ·rfl
    ·split
     ·next x n=>exact pre [.str x,.int .i64 (n:Int)] ids
     ·rfl
   ·split
    ·rfl
    ·split
     ·split
      ·exact pre1 _ ids
      ·rfl
     ·rfl
def zwk(strict:Bool)(sh:Sh)(p:PSt):Option (Nat->V):=Kt strict sh p some
theorem zdo(strict:Bool)(sh:Sh)(p:PSt){ρ:Type}(K:(Nat->V)->Option ρ):Kt strict sh p K=(zwk strict sh p).bind K:=by unfold zwk Kt;simp only[zv3,zwe,zE];rfl
theorem znG(p:PSt)(v:Nat->V)(xs:List (PEx×Sh))(j:Nat){ρ:Type}(K:PEx->PSt->Option ρ):zeO p v K xs j=(zeO p v (fun a b=>some (a,b)) xs j).bind fun q=>K q.1 q.2:=by
 induction xs generalizing j with
 | nil=>rfl
 | cons a r ih=>
  obtain⟨x,sh⟩:=a;cases r with
  | nil=>simp only[zeO];split<;>rfl
  | cons b c=>
   simp only[zeO];split
   ·split<;>rfl
   ·exact ih _
noncomputable def YY(gl:Gl)(pc:PcT)(c:PC)(p:PSt):Option (PEx×PSt):=yC gl pc c p fun a b=>some (a,b)
theorem kK(gl:Gl)(pc:PcT)(c:PC) : ∀ (p:PSt) {ρ:Type} (K:PEx->PSt->Option ρ),yC gl pc c p K=(YY gl pc c p).bind fun q=>K q.1 q.2:=by
 unfold YY;induction c with
 | skip=>intro p _ K;rfl
 | exit id=>intro p _ K;rfl
 | ret=>intro p _ K;rfl
 | reg ops keep=>intro p _ K;simp only[yC,jZ,zE];rfl
 | drw a0 a1 b keep=>
  intro p _ K;simp only[yC,jZ,zE];congr 1;funext p0;split
  ·simp only[zE];rfl
  ·rfl
 | drq a0 a1 b keep=>intro p _ K;simp only[yC,jZ,zkG,zE];rfl
 | drf a0 t ag sz a k b1 b keep=>
  intro p _ K;simp only[yC,jZ,Vz,zE];congr 1;funext p0;congr 1;funext p1;split
  ·split
   ·split
    ·simp only[zE];rfl
    ·rfl
   ·rfl
  ·rfl
 | seq a b iha ihb=>
  intro p _ K;simp only[yC];refine(iha p _).trans ?_;refine Eq.trans ?_ (congrArg (fun z=>Option.bind z fun q:PEx×PSt=>K q.1 q.2) (iha p _).symm);simp only[zE];congr 1;funext q;obtain⟨x,p'⟩:=q;cases x with
  | nrm=>exact ihb p' K
  | ext i=>rfl
  | ret=>rfl
 | cond c a b iha ihb=>
  intro p _ K;simp only[yC];split
  ·rw[zE];congr 1;funext c;split
   ·exact iha p K
   ·exact ihb p K
  ·rfl
 | blk id c ih=>
  intro p _ K;simp only[yC];refine(ih p _).trans ?_;refine Eq.trans ?_ (congrArg (fun z=>Option.bind z fun q:PEx×PSt=>K q.1 q.2) (ih p _).symm);simp only[zE];congr 1;funext q;obtain⟨x,p'⟩:=q;cases x with
  | nrm=>rfl
  | ext i=>simp only;split<;>rfl
  | ret=>rfl
 | cut h xs c ih=>
  intro p _ K;simp only[yC];simp only[zdo,zE];congr 1;funext v0;split
  ·rw[zE];congr 1;funext o;exact znG _ _ _ _ K
  ·rfl
 | loop h xs c ih=>intro p _ K;simp only[yC];simp only[zdo,zE];congr 1;funext v0;congr 1;funext o;exact znG _ _ _ _ K
def Evt(P:Nat->Prop):Prop := ∃ n,∀ m,n<=m->P m
theorem Evt.and{P Q:Nat->Prop}(h:Evt P)(k:Evt Q):Evt fun m=>P m/\Q m:=by obtain⟨a,ha⟩:=h;obtain⟨b,hb⟩:=k;exact⟨Nat.max a b,fun m hm=>⟨ha m (zBK (Nat.le_max_left a b) hm),hb m (zBK (Nat.le_max_right a b) hm)⟩⟩
theorem Evt.mono{P Q:Nat->Prop}(h:Evt P)(k : ∀ m,P m->Q m):Evt Q:=by obtain⟨a,ha⟩:=h;exact⟨a,fun m hm=>k m (ha m hm)⟩
theorem Evt.all{P:Nat->Prop}(h : ∀ m,P m):Evt P:=⟨0,fun m _=>h m⟩
def Lim(pcs:Nat->PcT)(pc:PcT):Prop := ∀ f as pars r,pc f as pars=some r->Evt fun m=>pcs m f as pars=some r
section
variable {gl:Gl} {pcs:Nat->PcT} {pc:PcT}
theorem zbi(h:Lim pcs pc){f:Nat}{ds:List PD}{p:PSt}{z:PD×PSt}(hz:zew pc f ds p=some z):Evt fun m=>zew (pcs m) f ds p=some z:=by
 unfold zew XX at hz;split at hz<;>try contradiction
 next as ks p' h1=>
  split at hz<;>try contradiction
  next pars h2=>
   rw[zA]at hz;obtain⟨q,hq,hz⟩:=hz;refine(h f as pars q hq).mono fun m hm => ?_
   unfold zew XX;simp only[h1,h2,hm,zD];exact hz
theorem ztL(h:Lim pcs pc){md:Nat->Md}{f:Nat}{ds:List PD}{p:PSt}{z:PD×PSt}(hz:WC md pc f ds p=some z):Evt fun m=>WC md (pcs m) f ds p=some z:=by
 unfold WC YF at hz;split at hz
 ·next hf=>
  refine(zbi h hz).mono fun m hm => ?_
  unfold WC YF;simp only[hf];exact hm
 ·next sz hf=>
  unfold J1 at hz;split at hz<;>try contradiction
  next as p' h1=>
   rw[zA]at hz;obtain⟨q,hq,hz⟩:=hz;refine(h f _ _ q hq).mono fun m hm => ?_
   unfold WC YF;simp only[hf,J1,h1,hm,zD];exact hz
 ·next sz hf=>
  unfold zh1 at hz;split at hz<;>try contradiction
  ·next id sz' ys rest=>
   split at hz<;>try contradiction
   next hsz=>
    split at hz<;>try contradiction
    next xs hxs=>
     rw[zA]at hz;obtain⟨q,hq,hz⟩:=hz;refine(h f _ _ q hq).mono fun m hm => ?_
     unfold WC YF;simp only[hf,zh1,hsz,hxs,hm,zD];exact hz
  ·next ys rest=>
   split at hz<;>try contradiction
   next xs hxs=>
    obtain⟨hs,hz⟩:=yq hz;rw[zA]at hz;obtain⟨q,hq,hz⟩:=hz;refine(h f _ _ q hq).mono fun m hm => ?_
    unfold WC YF;simp only[hf,zh1,hxs,hm,hs,tst,zD];exact hz
 ·next hf=>
  unfold zhK zf4 at hz;split at hz<;>try contradiction
  next d ds=>
   split at hz<;>try contradiction
   ·next ys=>
    split at hz<;>try contradiction
    next as p' h1=>
     rw[zA]at hz;obtain⟨q,hq,hz⟩:=hz;refine(h f _ _ q hq).mono fun m hm => ?_
     unfold WC YF;simp only[hf,zhK,zf4,h1,hm,zD];exact hz
   ·next k sz off n c z=>
    obtain⟨hs,hz⟩:=yq hz;split at hz<;>try contradiction
    next as p' h1=>
     rw[zA]at hz;obtain⟨q,hq,hz⟩:=hz;refine(h f _ _ q hq).mono fun m hm => ?_
     unfold WC YF;simp only[hf,zhK,zf4,h1,hm,hs,tst,zD];exact hz
 ·next sz hf=>
  split at hz<;>try contradiction
  next d ds=>
   unfold J1 zf4 at hz;split at hz<;>try contradiction
   ·next ys=>
    split at hz<;>try contradiction
    next as p' h1=>
     rw[zA]at hz;obtain⟨q,hq,hz⟩:=hz;refine(h f _ _ q hq).mono fun m hm => ?_
     unfold WC YF;simp only[hf,J1,zf4,h1,hm,zD];exact hz
   ·next k sz off n c z=>
    obtain⟨hs,hz⟩:=yq hz;split at hz<;>try contradiction
    next as p' h1=>
     rw[zA]at hz;obtain⟨q,hq,hz⟩:=hz;refine(h f _ _ q hq).mono fun m hm => ?_
     unfold WC YF;simp only[hf,J1,zf4,h1,hm,hs,tst,zD];exact hz
 ·next e hf=>
  refine .all fun m => ?_
  unfold WC YF;simp only[hf];exact hz
theorem zo1(h:Lim pcs pc){p:PSt}{o:O}{z:Option PD×PSt}(hz:zvp gl pc p o=some z):Evt fun m=>zvp gl (pcs m) p o=some z:=by
 unfold zvp at hz ⊢;cases o<;>try exact .all fun m=>hz
 case call f xs=>
  simp only[VF,zla]at hz ⊢;split at hz<;>try contradiction
  next ds hds=>rw[zA]at hz;obtain⟨q,hq,hz⟩:=hz;exact(ztL h hq).mono fun m hm=>by rw[hm];exact hz
 case callv g xs=>
  simp only[VF,zef]at hz ⊢;split at hz<;>try contradiction
  ·split at hz<;>try contradiction
   next hlt=>
   split at hz<;>try contradiction
   next ds hds=>rw[zA]at hz;obtain⟨q,hq,hz⟩:=hz;exact(zbi h hq).mono fun m hm=>by rw[hm];exact hz
  ·split at hz<;>try contradiction
   next ds hds=>
    rw[zA]at hz;obtain⟨q,hq,hz⟩:=hz;split at hz<;>try contradiction
    next hq2=>
     split at hz<;>try contradiction
     next hlt=>
     rw[zA]at hz;obtain⟨q',hq',hz⟩:=hz;refine(zbi h hq').mono fun m hm => ?_
     rw[hq,zD,hq2];simp only[hlt,hm];exact hz
theorem zdO(h:Lim pcs pc){o:OpC}{p z:PSt}(hz:zoD gl pc o p=some z):Evt fun m=>zoD gl (pcs m) o p=some z:=by
 unfold zoD zhH at hz ⊢;simp only[znr]at hz ⊢;cases hgd:o.gd with
 | none=>simp only[hgd]at hz ⊢;rw[zA]at hz;obtain⟨q,hq,hz⟩:=hz;exact(zo1 h hq).mono fun m hm=>by rw[hm];exact hz
 | some tb=>
  obtain⟨t,b⟩:=tb;simp only[hgd]at hz ⊢;split at hz<;>try contradiction
  next c hc=>
   rw[zA]at hz;obtain⟨cb,hcb,hz⟩:=hz;simp only[hcb,zD];split at hz
   ·next hb=>
    rw[zA]at hz;obtain⟨q,hq,hz⟩:=hz;exact(zo1 h hq).mono fun m hm=>by rw[zBu hb,hm];exact hz
   ·next hb=>exact .all fun m=>by rw[zBt hb];exact hz
theorem jP(h:Lim pcs pc)(l:PO) : ∀ {p z:PSt},zhu gl pc l p=some z->Evt fun m=>zhu gl (pcs m) l p=some z:=by
 unfold zhu;induction l with
 | nil=>intro p z hz;exact .all fun m=>hz
 | one o s ih=>intro p z hz;simp only[vC,Vz]at hz ⊢;rw[zA]at hz;obtain⟨q,hq,hz⟩:=hz;exact((zdO h hq).and (ih hz)).mono fun m hm=>by rw[hm.1];exact hm.2
 | box n dst x s ih=>
  intro p z hz;simp only[vC,zfx]at hz ⊢;split at hz<;>try contradiction
  next d hd=>
   rw[zA]at hz;obtain⟨c,hc,hz⟩:=hz;split at hz<;>try contradiction
   next p1 hp1=>exact(ih hz).mono fun m hm=>by simp only[hc,zD,hp1];exact hm
 | grp c w ops dst a b s ih1 ih2=>
  intro p z hz;simp only[vC]at hz ⊢;simp only[jZ gl _ ops]at hz ⊢;split at hz<;>try contradiction
  split at hz<;>try contradiction
  split at hz<;>try contradiction
  split at hz<;>try contradiction
  next cv hc _ bd hb _ bv hbv _ hfr=>
   rw[zA]at hz;obtain⟨cb,hcb,hz⟩:=hz;rw[zA]at hz;obtain⟨x,hx,hz⟩:=hz;split at hz<;>try contradiction
   next p1 hp1=>
    have hx':Evt fun m=>((if cb=w then(zhu gl (pcs m) ops p.sealOf).bind fun p'=>match evH gl p' a with | some d=>d.pureV | none=>none else some bv):Option V)=some x:=by
     split at hx
     ·next hcw=>
      rw[zA]at hx;obtain⟨q,hq,hx⟩:=hx;exact(ih1 hq).mono fun m hm=>by unfold zhu;rw[zBu hcw,hm];exact hx
     ·next hcw=>exact .all fun m=>by rw[zBt hcw];exact hx
    refine(hx'.and (ih2 hz)).mono fun m hm => ?_
    simp only[hcb,zD];rw[zA];exact⟨x,hm.1,by rw[hp1];exact hm.2⟩
theorem zqZ(h:Lim pcs pc)(l:PO) : ∀ {p z:PSt},zib gl pc l p=some z->Evt fun m=>zib gl (pcs m) l p=some z:=by
 unfold zib;induction l with
 | nil=>intro p z hz;exact .all fun m=>hz
 | one o s ih=>
  intro p z hz;simp only[Ja,Vz]at hz ⊢;split at hz<;>try contradiction
  split at hz<;>try contradiction
  rw[zA]at hz;obtain⟨q,hq,hz⟩:=hz;exact((zdO h hq).and (ih hz)).mono fun m hm=>by rw[hm.1];exact hm.2
 | box n dst x s ih=>intro p z hz;simp[Ja]at hz
 | grp c w ops dst a b s ih1 ih2=>intro p z hz;simp[Ja]at hz
theorem zuK{α β:Type}{f:α->Option (α ⊕ β)}{fs:Nat->α->Option (α ⊕ β)}(h : ∀ a b,f a=some b->Evt fun m=>fs m a=some b){n:Nat}{a:α}{b:β}(hb:ja f n a=some b):Evt fun m=>ja (fs m) n a=some b:=by
 induction n generalizing a with
 | zero=>simp[ja]at hb
 | succ n ih=>
  simp only[ja]at hb ⊢;split at hb
  ·next a' he=>exact((h a _ he).and (ih hb)).mono fun m hm=>by rw[hm.1];exact hm.2
  ·next c he=>exact(h a _ he).mono fun m hm=>by rw[hm];exact hb
  ·contradiction
theorem zg1(h:Lim pcs pc)(c:PC) : ∀ {p:PSt} {z:PEx×PSt},YY gl pc c p=some z->Evt fun m=>YY gl (pcs m) c p=some z:=by
 unfold YY;induction c with
 | skip=>intro p z hz;exact .all fun m=>hz
 | exit id=>intro p z hz;exact .all fun m=>hz
 | ret=>intro p z hz;exact .all fun m=>hz
 | reg ops keep=>intro p z hz;simp only[yC,jZ]at hz ⊢;rw[zA]at hz;obtain⟨q,hq,hz⟩:=hz;exact(jP h _ hq).mono fun m hm=>by rw[hm];exact hz
 | drw a0 a1 b keep=>
  intro p z hz;simp only[yC,jZ]at hz ⊢;rw[zA]at hz;obtain⟨q,hq,hz⟩:=hz;split at hz<;>try contradiction
  next hst=>
   rw[zA]at hz;obtain⟨q1,hq1,hz⟩:=hz;rw[zA]at hz;obtain⟨q2,hq2,hz⟩:=hz;refine((jP h _ hq).and ((jP h _ hq1).and (jP h _ hq2))).mono fun m hm => ?_
   rw[hm.1];simp only[zD,hm.2.1,hm.2.2];exact hz
 | drq a0 a1 b keep=>
  intro p z hz;simp only[yC,jZ,zkG]at hz ⊢;rw[zA]at hz;obtain⟨q,hq,hz⟩:=hz;rw[zA]at hz;obtain⟨q1,hq1,hz⟩:=hz;rw[zA]at hz;obtain⟨q2,hq2,hz⟩:=hz;refine((jP h _ hq).and ((zqZ h _ hq1).and (jP h _ hq2))).mono fun m hm => ?_
  rw[hm.1];simp only[zD,hm.2.1,hm.2.2];exact hz
 | drf a0 t ag sz a k b1 b keep=>
  intro p z hz;simp only[yC,jZ,Vz]at hz ⊢;rw[zA]at hz;obtain⟨q,hq,hz⟩:=hz;rw[zA]at hz;obtain⟨q1,hq1,hz⟩:=hz;split at hz<;>try contradiction
  next k' off hk=>
   split at hz<;>try contradiction
   next hst=>
    split at hz<;>try contradiction
    next p2 hp2=>
     rw[zA]at hz;obtain⟨q2,hq2,hz⟩:=hz;rw[zA]at hz;obtain⟨q3,hq3,hz⟩:=hz;refine((jP h _ hq).and ((zdO h hq1).and ((jP h _ hq2).and (jP h _ hq3)))).mono fun m hm => ?_
     rw[hm.1];simp only[zD,hm.2.1,hk,hst,hp2,hm.2.2.1,hm.2.2.2];exact hz
 | seq a b iha ihb=>
  intro p z hz;simp only[yC]at hz ⊢;simp only[kK gl _ a]at hz ⊢;rw[zA]at hz;obtain⟨q,hq,hz⟩:=hz;obtain⟨x,p'⟩:=q;cases x with
  | nrm=>exact((iha hq).and (ihb hz)).mono fun m hm=>by unfold YY;rw[hm.1];exact hm.2
  | ext i=>exact(iha hq).mono fun m hm=>by unfold YY;rw[hm];exact hz
  | ret=>exact(iha hq).mono fun m hm=>by unfold YY;rw[hm];exact hz
 | cond c a b iha ihb=>
  intro p z hz;simp only[yC]at hz ⊢;split at hz<;>try contradiction
  next c hc=>
   rw[zA]at hz;obtain⟨cb,hcb,hz⟩:=hz;simp only[hcb,zD];split at hz
   ·next hb=>exact(iha hz).mono fun m hm=>by rw[zBu hb];exact hm
   ·next hb=>exact(ihb hz).mono fun m hm=>by rw[zBt hb];exact hm
 | blk id c ih=>intro p z hz;simp only[yC]at hz ⊢;simp only[kK gl _ c]at hz ⊢;rw[zA]at hz;obtain⟨q,hq,hz⟩:=hz;exact(ih hq).mono fun m hm=>by unfold YY;rw[hm];exact hz
 | cut hd xs c ih=>
  intro p z hz;simp only[yC]at hz ⊢;simp only[zdo,kK gl _ c]at hz ⊢;rw[zA]at hz;obtain⟨v0,hv0,hz⟩:=hz;simp only[hv0,zD];split at hz<;>try contradiction
  next pv hpv=>
   rw[zA]at hz;obtain⟨o,ho,hz⟩:=hz;rw[zA]at ho;obtain⟨q,hq,ho⟩:=ho;refine(ih hq).mono fun m hm => ?_
   unfold YY;rw[hm,zD];rw[zA];exact⟨o,ho,hz⟩
 | loop hd xs c ih=>
  intro p z hz;simp only[yC]at hz ⊢;simp only[zdo,kK gl _ c]at hz ⊢;rw[zA]at hz;obtain⟨v0,hv0,hz⟩:=hz;simp only[hv0,zD];rw[zA]at hz;obtain⟨o,ho,hz⟩:=hz;obtain⟨n,hn⟩:=VI.1 ho;refine(zuK (fs:=fun m v=>match dec true hd p v with
    | some pv=>(YY gl (pcs m) c pv).bind fun q=>match q.1 with
     | .nrm=>(zwk true hd q.2).bind fun v'=>some (.inl v')
     | .ext i=>match Zy xs (.ext i) 0 with | some (j,sh)=>(zwk true sh q.2).bind fun v'=>some (.inr (j,v')) | none=>none
     | .ret=>match Zy xs .ret 0 with | some (j,sh)=>(zwk true sh q.2).bind fun v'=>some (.inr (j,v')) | none=>none
    | none=>none) (fun v b hb => ?_) hn).mono fun m hm => ?_
  ·split at hb<;>try contradiction
   next pv hpv=>
    rw[zA]at hb;obtain⟨q,hq,hb⟩:=hb;refine(ih hq).mono fun m hm => ?_
    simp only[YY,hpv,hm,zD];exact hb
  ·rw[zA];exact⟨o,VI.2 ⟨n,hm⟩,hz⟩
end
end
section
mutual
theorem zcn : ∀ x:V,x.toD.pure=true
 | .bool _=>rfl
 | .int _ _=>rfl
 | .float _ _=>rfl
 | .str _=>rfl
 | .nilp=>rfl
 | .nilf=>rfl
 | .nili=>rfl
 | .sl xs=>by simp only[V.toD,D.pure,Bool.true_and];exact flatD_pure xs
 | .agg xs=>by simp only[V.toD,D.pure];exact toDL_pure xs
 | .tup xs=>by simp only[V.toD,D.pure];exact toDL_pure xs
 | .fn _ c=>by simp only[V.toD,D.pure];exact toDL_pure c
 | .iface _ x=>by simp only[V.toD,D.pure];exact zcn x
theorem toDL_pure : ∀ l:List V,pureL (toDL l)=true
 | []=>rfl
 | x::r=>by simp only[toDL,pureL,zcn x,toDL_pure r,Bool.and_self]
theorem flatD_pure : ∀ l:List V,pureL (flatD l)=true
 | []=>rfl
 | x::r=>by
  have h:pureL x.toD.cells=true:=by have:=zcn x;cases hx:x.toD<;>rw[hx]at this<;>simp_all [D.cells,pureL,D.pure]
  simp only[flatD,zkn,h,flatD_pure r,Bool.and_self]
end
theorem zgw(s:St)(l:List Nat):(frz s l).tip=s.tip:=by
 induction l generalizing s with
 | nil=>rfl
 | cons k r ih=>simp only[frz];split<;>rw[ih];rfl
theorem zz1{s:St}{l:List Nat}{m:Nat}(hl : ∀ k∈l,m<=k)(h:m<=s.lw):m<=(frz s l).lw:=by
 induction l generalizing s with
 | nil=>exact h
 | cons k r ih=>
  simp only[frz];have hk:=hl k zBY;split
  ·refine ih (fun j hj=>hl j (zP _ hj)) ?_;show m<=if k<s.lw then k else s.lw
   split<;>omega
  ·exact ih (fun j hj=>hl j (zP _ hj)) h
section
variable {ρ:Nat->Nat} {τ:Nat->Option Nat} {p:PSt} {st:St} {ρ':Type} {r:ρ'}
theorem zpw{c:Cx}{q:PS}{e:D}(hr:RS c q e){x:V}(ho:q.outV p=some x)(hc:c.rk=yj p.rows) : ∀ b∈e.refs,∃ k,k<c.m/\yj p.rows k≠none/\b=c.ρ k:=by
 cases q;case ref k sz off n cp z=>
  obtain⟨hk,_,hdd,_⟩:=hr;intro b hb;rcases hdd with⟨rfl,_⟩ | ⟨_,rfl,_⟩
  ·simp only[D.refs,zS,List.not_mem_nil,or_false]at hb;refine⟨k,hk,?_,hb⟩;simp only[PS.outV]at ho;split at ho<;>try contradiction
   next fz szr xs hrr=>obtain⟨rr,h1,h2⟩:=qu hrr;rw[YR h1 h2];simp
  ·simp[D.refs,refsL]at hb
 case uref k sz n=>
  obtain⟨hk,⟨cp,_,rfl⟩,_⟩:=hr;intro b hb;simp only[D.refs,zS,List.not_mem_nil,or_false]at hb;refine⟨k,hk,?_,hb⟩;simp only[PS.outV]at ho;split at ho<;>try contradiction
  next fz szr xs hrr=>obtain⟨rr,h1,h2⟩:=qu hrr;rw[YR h1 h2];simp
 all_goals
  have:=PS.pure_ok hr ho;rw[(zpe this (fun _=>none)).2];intro b hb;simp at hb
theorem zuq{c:Cx}{ps:List PS}{es:List D}(hr:RSL c ps es){l:List V}(ho:zbQ p ps=some l)(hc:c.rk=yj p.rows) : ∀ b∈refsL es,∃ k,k<c.m/\yj p.rows k≠none/\b=c.ρ k:=by
 induction ps generalizing es l with
 | nil=>cases es with
  | nil=>intro b hb;simp[refsL]at hb
  | cons _ _=>exact hr.elim
 | cons q r ih=>cases es with
  | nil=>exact hr.elim
  | cons d s=>
   simp only[zbQ]at ho;split at ho<;>try contradiction
   split at ho<;>try contradiction
   next x hx _ l' hl=>
    intro b hb;simp only[refsL,zBO]at hb;rcases hb with hb | hb
    ·exact zpw hr.1 hx hc b hb
    ·exact ih hr.2 hl b hb
theorem zta{c:Cx}{q:PD}{e:D}(hr:RP c q e){x:V}(ho:q.outV p=some x)(hc:c.rk=yj p.rows) : ∀ b∈e.refs,∃ k,k<c.m/\yj p.rows k≠none/\b=c.ρ k:=by
 cases q with
 | s q=>exact zpw hr ho hc
 | agg ps=>
  obtain⟨es,rfl,h1,_⟩:=hr;simp only[PD.outV]at ho;split at ho<;>try contradiction
  next l hl=>exact zuq h1 hl hc
theorem zmi(hS:Sim ρ τ p st){res:List R}{K:List V->Option ρ'}(h:zhi p res K=some r) :
  ∃ l,K l=some r /\ ∃ es,jI st res=some es/\clL st.mem es=toDL l /\ ∀ b∈refsL es,∃ k,k<p.rows.length/\yj p.rows k≠none/\b=ρ k:=by
 induction res generalizing K with
 | nil=>exact⟨[],h,[],rfl,rfl,fun b hb=>by simp[refsL]at hb⟩
 | cons a s ih=>
  have fin : ∀ {d:PD} {e:D} {x:V},RP (zy ρ τ p st) d e->d.outV p=some x->zhi p s (fun l=>K (x::l))=some r ->
    ∃ l,K l=some r /\ ∃ es,jI st s=some es/\clL st.mem (e::es)=toDL l /\ ∀ b∈refsL (e::es),∃ k,k<p.rows.length/\yj p.rows k≠none/\b=ρ k:=by
   intro d e x hr hx hh;obtain⟨l,h1,es,h2,h3,h4⟩:=ih hh;refine⟨x::l,h1,es,h2,by simp only[clL,toDL,zsc hS hr hx,h3],fun b hb => ?_⟩;simp only[refsL,zBO]at hb;rcases hb with hb | hb
   ·exact zta hr hx rfl b hb
   ·exact h4 b hb
  cases a with
  | tmp t=>
   simp only[zhi]at h;split at h<;>try contradiction
   split at h<;>try contradiction
   next d hd _ x hx=>rw[jX,zB]at hd;obtain⟨⟨f,d'⟩,h1,rfl⟩:=hd;obtain⟨e,he,hr⟩:=hS.tm t f d' h1;obtain⟨l,h2,es,h3,h4,h5⟩:=fin hr hx h;exact⟨l,h2,e::es,by simp[jI,he,h3],h4,h5⟩
  | cell t ag sz=>
   simp only[zhi]at h;split at h<;>try contradiction
   next d hd=>
    rw[jX,zB]at hd;obtain⟨⟨f,d'⟩,h1,rfl⟩:=hd;obtain⟨e,he,hr⟩:=hS.tm t f d' h1;obtain⟨v,h2,w,h3,h4⟩:=zoE hS hr h;split at h2<;>try contradiction
    next x hx=>obtain⟨l,h5,es,h6,h7,h8⟩:=fin h4 hx h2;exact⟨l,h5,w::es,by simp[jI,he,h3,h6],h7,h8⟩
theorem Xx(as:List PA)(i t:Nat):xb (J0 i as) t=if i<=t then(as[t-i]?).map fun a=>(false,zAP a)else none:=by
 induction as generalizing i with
 | nil=>simp[J0,xb]
 | cons a r ih=>
  simp only[J0,xb];cases hb:i.beq t with
  | true=>have:=zJ hb;subst this;simp
  | false=>
   have hne:i≠t:=fun e=>by subst e;rw[Nat.beq_refl]at hb;contradiction
   simp only;rw[ih];by_cases h:i<=t
   ·rw[zBu h,zBu (by omega),show t-i=(t-(i+1))+1 by omega,zN]
   ·rw[zBt h,zBt (by omega)]
theorem zrY{ρ:Nat->Nat}{n:Nat}{as:List PA}{ds:List D}(h:RAL ρ n as ds){i:Nat}{a:PA}(hi:as[i]?=some a) : ∃ d,ds[i]?=some d/\RA ρ n a d:=by
 induction as generalizing ds i with
 | nil=>simp at hi
 | cons b r ih=>cases ds with
  | nil=>exact h.elim
  | cons d s=>cases i with
   | zero=>simp at hi;subst hi;exact⟨d,by simp,h.1⟩
   | succ i=>simpa using ih h.2 (by simpa using hi)
theorem VM(pars:List (Bool×Nat×V))(k:Nat):(kV pars)[k]?=(pars[k]?).map fun e=>⟨e.1,zbY e.2.1 e.2.2⟩:=by
 induction pars generalizing k with
 | nil=>simp[kV]
 | cons e r ih=>obtain⟨a,b,c⟩:=e;cases k<;>simp_all [kV]
theorem ztK(pars:List (Bool×Nat×V)):(kV pars).length=pars.length:=by
 induction pars with
 | nil=>rfl
 | cons e r ih=>obtain⟨a,b,c⟩:=e;simp_all [kV]
theorem ztP(pars:List (Bool×Nat×V))(k:Nat):yj (kV pars) k=none:=by
 cases h:(kV pars)[k]? with
 | none=>simp only[yj,h]
 | some rw'=>have h':=h;rw[VM,zB]at h';obtain⟨e,_,rfl⟩:=h';exact zd7 h (Ku _ _).1
theorem zqj{j0:Nat}{pars:List (Bool×Nat×V)}{ys:List V}(h:YA p j0 pars=some ys) : ∀ (j:Nat) (e:Bool×Nat×V),pars[j]?=some e -> ∃ y c,ys[j]?=some y/\zad p (j0+j)=some c/\zhW c=some (e.2.1,y):=by
 induction pars generalizing j0 ys with
 | nil=>intro j e hj;simp at hj
 | cons a r ih=>
  obtain⟨f,n,x0⟩:=a;simp only[YA]at h;split at h<;>try contradiction
  split at h<;>try contradiction
  split at h<;>try contradiction
  split at h<;>try contradiction
  next c hc _ n' x hx _ hn _ l hl=>
   injection h with h;subst h;have hn:=zJ hn;subst hn;intro j e hj;cases j with
   | zero=>simp at hj;subst hj;exact⟨x,c,by simp,hc,hx⟩
   | succ j=>obtain⟨y,c',h1,h2,h3⟩:=ih hl j e (by simpa using hj);exact⟨y,c',by simpa using h1,by rw[<- Nat.add_assoc,Nat.add_right_comm];exact h2,h3⟩
def Md.isRaw:Md->Bool
 | .raw _=>true
 | _=>false
def Md.isGv:Md->Bool
 | .gv _=>true
 | _=>false
def zto(pn:Bool)(md:Md)(f:Nat):Bool:=match pn with | true=>(match md with | .pl=>Nat.ble zo f | _=>false) | false=>Nat.blt f zo
def zsb(E:Env)(md:Nat->Md)(tab:Nat->Nat->Option PFn):Prop := ∀ f k fn,tab f k=some fn->E.ext f=none/\E.dfr f=none/\zto fn.pn (md f) f=true /\ ∃ np,E.fn f=some ⟨np,fn.res,(md f).isRaw,(md f).isGv,xz fn.body⟩
theorem zsK{pn:Bool}{md:Md}{f:Nat}(h:zto pn md f=true)(hm:md ≠ .pl):f<zo:=by
 unfold zto at h;cases pn with
 | false=>simpa using h
 | true=>cases md<;>simp at h hm
theorem zgZ{f:Nat}(h:f<zo)(d:D):kW f d=d:=by unfold kW;rw[zBt (by omega)]
theorem zs6{f:Nat}(h:zo<=f)(d:D):kW f d = .tup [.bool true,d]:=by unfold kW;rw[zBu h]
def zvi(h:List D->List D->Option D)(g:List V->Option V):Md->Prop
 | .pl => ∀ ds xs y,g xs=some y->h ds (toDL xs)=some y.toD
 | .gv _=>True
 | .gvf sz => ∀ d ds xs,YM d=true->g xs=some (.sl [])->h (d::ds) (toDL xs)=some (.sl (.ln 0 sz) 0 [])
 | .ful => ∀ d ds xs y,YM d=true->g xs=some y->h (d::ds) (toDL xs)=some y.toD
 | .raw _=>True
 | .eff _=>True
def zx3(E:Env)(gl:Gl)(tab:Nat->Nat->Option PFn):Prop:=(∀ f k g,tab f k=none->gl.tx f=some g -> ∃ h,E.ext f=some (.fn h)/\zvi h g (gl.md f)) /\ ∀ f e,gl.md f = .eff e->E.ext f=some (.eff e)
theorem zpr(st:St)(y:V):told st y.toD=(y.toD,st):=by cases y<;>rfl
theorem zik{ρ:Nat->Nat}{n:Nat}{as:List PA}{ds:List D}(h:RAL ρ n as ds){xs:List V}(hx:zaG as=some xs):ds=toDL xs:=by
 induction as generalizing ds xs with
 | nil=>cases ds with
  | nil=>simp[zaG]at hx;subst hx;rfl
  | cons _ _=>exact h.elim
 | cons a r ih=>cases ds with
  | nil=>exact h.elim
  | cons d s=>
   cases a<;>simp only[zaG]at hx<;>try contradiction
   split at hx<;>try contradiction
   next l hl=>injection hx with hx;subst hx;have h1:d=_:=h.1;rw[toDL,h1,ih h.2 hl]
theorem zlh{g:List V->Option V}{as:List PA}{pars:List (Bool×Nat×V)}{q:V×List V}(hk:zii g as pars=some q):pars=[] /\ ∃ xs y,zaG as=some xs/\g xs=some y/\q=(y,[]):=by
 unfold zii at hk;split at hk<;>try contradiction
 split at hk<;>try contradiction
 next xs hxs=>rw[zA]at hk;obtain⟨y,hy,hk⟩:=hk;injection hk with hk;exact⟨rfl,xs,y,hxs,hy,hk.symm⟩
theorem zzm{E:Env}{f:Nat}{g:List V->Option V}{h:List D->List D->Option D}(hx:E.ext f=some (.fn h))(hg : ∀ ds xs y,g xs=some y->h ds (toDL xs)=some y.toD){as:List PA}{pars:List (Bool×Nat×V)}{q:V×List V}(hk:zii g as pars=some q)
  (ρ:Nat->Nat) (st:St) (ds:List D) (ha:RAL ρ pars.length as (clL st.mem ds)) : ∃ st',zz E f ds st=some (.ret q.1.toD,st')/\zhd ρ pars q.2 st (frz st (refsL ds)) st':=by
 unfold zii at hk;split at hk<;>try contradiction
 split at hk<;>try contradiction
 next xs hxs=>rw[zA]at hk;obtain⟨y,hy,hk⟩:=hk;injection hk with hk;subst hk;refine⟨frz st (refsL ds),?_,W9 _ _,(Fr.frz _ _).lo,by rw[QN];exact zR _,fun _ _ _=>rfl,fun l _=>by rw[zgw],fun m h _ _=>h,fun j e hj=>by simp at hj,fun _=>rfl⟩;rw[zem hx,zik ha hxs,hg _ xs y hy];simp only[zC,zpr]
theorem Fr.execL{E:Env}{c:C}{st st':St}{e:Ex}(h:execL E c st=some (e,st')):Fr st st':=by obtain⟨n,hn⟩:=execL_iff.1 h;refine Fr.exec (fun f ds st o st' h => ?_) hn;obtain⟨m,hm⟩:=wJ.1 h;exact Fq.call f ds st o st' hm
theorem zp3{m:Mem}{es:List D}{l:List V}(h:clL m es=toDL l):(one es).cl m=(zmT l).toD:=by
 match es,l,h with
 | [],[],_=>rfl
 | [d],[x],h=>simpa[clL,toDL,one,zmT]using h
 | d::d'::es,x::x'::l,h=>simp only[one,zmT,D.cl,V.toD,h]
 | [],_::_,h=>simp[clL,toDL]at h
 | _::_,[],h=>simp[clL,toDL]at h
 | [_],_::_::_,h=>simp[clL,toDL]at h
 | _::_::_,[_],h=>simp[clL,toDL]at h
theorem zn1(es:List D):(one es).refs=refsL es:=by
 match es with
 | []=>rfl
 | [d]=>simp[one,refsL]
 | d::d'::es=>simp[one,D.refs]
theorem zyv{E:Env}{gl:Gl}{pc:PcT}(hg:GlR E gl)(hpc:zbt E gl.md pc){f:Nat}{fn:PFn}{np:Nat}(hx:E.ext f=none)(hdf:E.dfr f=none)(hlow:zto fn.pn .pl f=true)(hf:E.fn f=some ⟨np,fn.res,false,false,xz fn.body⟩){as:List PA}{pars:List (Bool×Nat×V)}{q:V×List V}
  (h:yC gl pc fn.body (vA as pars) (zp0 fn.pn fn.res pars)=some q) (ρ:Nat->Nat) (st:St) (ds:List D) (ha:RAL ρ pars.length as (clL st.mem ds))
  (hp : ∀ (j:Nat) (e:Bool×Nat×V),pars[j]?=some e->ρ j<st.nx /\ ∃ o,(frz st (refsL ds)).mem (ρ j)=some o/\zqi e.2.1 e.2.2 o)
  (hi : ∀ i j,i<pars.length->j<pars.length->ρ i=ρ j->i=j) :
  ∃ st',zz E f ds st=some (.ret q.1.toD,st')/\zhd ρ pars q.2 st (frz st (refsL ds)) st':=by
 have hlen:(vA as pars).rows.length=pars.length:=ztK pars;have hnx:(frz st (refsL ds)).nx=st.nx:=QN _ _;have hS0:Sim ρ (fun _=>none) (vA as pars) (enter ⟨np,fn.res,false,false,xz fn.body⟩ ds st):=by
  refine⟨fun t fl d ht => ?_,fun k hk => ?_,fun k rw' hk => ?_,fun j k hj hk h => ?_,fun i l h=>by contradiction,fun i j l h=>by contradiction⟩
  ·have ht:xb (J0 0 as) t=some (fl,d):=ht;rw[Xx,zBu (Nat.zero_le _),Nat.sub_zero,zB]at ht;obtain⟨a,h1,h2⟩:=ht;simp only[zBC]at h2;obtain⟨rfl,rfl⟩:=h2;obtain⟨e,h3,h4⟩:=zrY ha h1;refine⟨e,?_,?_⟩
   ·show get (params 0 (clL st.mem ds)) t=some e;rw[QG,zBu (Nat.zero_le _),Nat.sub_zero];exact h3
   ·cases a with
    | v x=>have h4:e=x.toD:=h4;subst h4;exact Qd x
    | p j off=>exact⟨by show j<(vA as pars).rows.length;rw[hlen];exact h4.1,h4.2⟩
    | fn f' cap=>obtain⟨es,rfl,h5⟩:=h4;exact⟨es,rfl,by show RCL ρ (vA as pars).rows.length _ _;rw[hlen];exact h5⟩
    | o _ _=>exact h4.elim
    | g=>exact h4.elim
    | u=>exact h4.elim
  ·rw[hlen]at hk;obtain⟨e,he⟩:=YV hk;show ρ k<(frz st (refsL ds)).nx;rw[hnx];exact(hp k e he).1
  ·have hk:(kV pars)[k]?=some rw':=hk;rw[VM,zB]at hk;obtain⟨e,h1,rfl⟩:=hk;obtain⟨_,o,h2,h3⟩:=hp k e h1;exact⟨o,.inr h2,zsf h3⟩
  ·rw[hlen]at hj hk;exact hi j k hj hk h
 have hw0:Wf (vA as pars):=by
  refine⟨fun t d ht => ?_,fun k rw' hk _ => ?_⟩
  ·have ht:xb (J0 0 as) t=some (true,d):=ht;rw[Xx,zBu (Nat.zero_le _),zB]at ht;obtain⟨a,_,h2⟩:=ht;simp at h2
  ·have hk:(kV pars)[k]?=some rw':=hk;rw[VM,zB]at hk;obtain⟨e,_,rfl⟩:=hk;exact(Ku _ _).2
 obtain⟨x,p',h1,s,ρ1,τ1,h2,h3⟩:=zij hg hpc fn.body hS0 hw0 h
 -- what is told
 have refs : ∀ {es:List D},(∀ b∈refsL es,∃ k,k<p'.rows.length/\yj p'.rows k≠none/\b=ρ1 k) -> ∀ b∈refsL es,st.nx<=b:=by
  intro es h7 b hb;obtain⟨k,hk1,hk2,rfl⟩:=h7 b hb;rcases zBD k (vA as pars).rows.length with hk | hk
  ·exfalso;rcases h3.rk k hk with e | e
   ·rw[e]at hk2;exact hk2 (ztP pars k)
   ·exact hk2 e
  ·have:=h3.ρn k hk hk1;have hn0:(enter ⟨np,fn.res,false,false,xz fn.body⟩ ds st).nx=st.nx:=hnx;rw[hn0]at this;exact this
 obtain⟨ys,rd,hys,hq2,hcl,hrefs,hcall⟩ : ∃ (ys:List V) (rd:D),YA p' 0 pars=some ys/\q.2=ys/\rd.cl s.mem=q.1.toD/\(∀ b∈rd.refs,st.nx<=b) /\
   zz E f ds st=some (.ret (leave ⟨np,fn.res,false,false,xz fn.body⟩ (frz st (refsL ds)) s rd).1,(leave ⟨np,fn.res,false,false,xz fn.body⟩ (frz st (refsL ds)) s rd).2):=by
  cases hpn:fn.pn with
  | false=>
   rw[hpn]at h1 hlow;have hlt:f<zo:=by simpa[zto]using hlow
   have hfin:(x = .nrm\/x = .ret) /\ ∃ ys,YA p' 0 pars=some ys/\(zhi p' fn.res fun l=>some (zmT l,ys))=some q:=by
    cases x with
    | ext i=>simp[zp0,zyi]at h1
    | nrm=>
     refine⟨.inl rfl,?_⟩;simp only[zp0,zyi]at h1;split at h1<;>try contradiction
     next ys hys=>exact⟨ys,hys,h1⟩
    | ret=>
     refine⟨.inr rfl,?_⟩;simp only[zp0,zyi]at h1;split at h1<;>try contradiction
     next ys hys=>exact⟨ys,hys,h1⟩
   obtain⟨hxx,ys,hys,hres⟩:=hfin;obtain⟨l,h4,es,h5,h6,h7⟩:=zmi h3.sim hres;injection h4 with h4;subst h4;refine⟨ys,one es,hys,rfl,zp3 h6,by rw[zn1];exact refs h7,?_⟩;rw[J9 hx hdf hf];simp only[h2];rcases hxx with rfl | rfl<;>simp only[zam,jB,h5,zgZ hlt,zC]<;>rfl
  | true=>
   rw[hpn]at h1 hlow;have hle:zo<=f:=by simpa[zto]using hlow
   have ret:(x = .nrm\/x = .ret)->zp0 true fn.res pars .ret p'=some q -> ∃ (ys:List V) (rd:D),YA p' 0 pars=some ys/\q.2=ys/\rd.cl s.mem=q.1.toD/\(∀ b∈rd.refs,st.nx<=b) /\
     zz E f ds st=some (.ret (leave ⟨np,fn.res,false,false,xz fn.body⟩ (frz st (refsL ds)) s rd).1,(leave ⟨np,fn.res,false,false,xz fn.body⟩ (frz st (refsL ds)) s rd).2):=fun hxx h1=>by
    have hfin : ∃ ys,YA p' 0 pars=some ys/\(zhi p' fn.res fun l=>some (.tup [.bool true,zmT l],ys))=some q:=by
     simp only[zp0]at h1;split at h1<;>try contradiction
     next ys hys=>exact⟨ys,hys,h1⟩
    obtain⟨ys,hys,hres⟩:=hfin;obtain⟨l,h4,es,h5,h6,h7⟩:=zmi h3.sim hres;injection h4 with h4;subst h4;have hc:=zp3 h6;have hr:=zn1 es;refine⟨ys,.tup [.bool true,one es],hys,rfl,by simp only[D.cl,clL,hc,V.toD,toDL],by simp only[D.refs,refsL,hr,List.nil_append,List.append_nil];exact refs h7,?_⟩;rw[J9 hx hdf hf];simp only[h2];rcases hxx with rfl | rfl<;>simp only[zam,jB,h5,zs6 hle,zC]<;>rfl
   cases x with
   | nrm=>exact ret (.inl rfl) h1
   | ret=>exact ret (.inr rfl) h1
   | ext i=>
    simp only[zp0]at h1;split at h1<;>try contradiction
    next hi=>
     have hi:=zJ hi;subst hi;split at h1<;>try contradiction
     next ys hys=>obtain⟨l,h4,es,h5,h6,h7⟩:=zmi h3.sim h1;injection h4 with h4;subst h4;simp only[jI,zD,zA,zBB]at h5;obtain⟨d,hd,rfl⟩:=h5;have hc:d.cl s.mem=(zmT l).toD:=zp3 (es:=[d]) h6;refine⟨ys,.tup [.bool false,d],hys,rfl,by simp only[D.cl,clL,hc,V.toD,toDL],fun b hb=>refs h7 b (by simpa[D.refs,refsL]using hb),?_⟩;rw[J9 hx hdf hf];simp only[h2,zam,hd,zC];rw[zBu ⟨trivial,hle⟩];rfl
 have hfr:=Fr.execL h2;have hslo:s.lo=st.nx:=h3.lo;have hρ : ∀ j,j<pars.length->ρ1 j=ρ j:=fun j hj=>h3.ρs j (by rw[hlen];exact hj)
 have hmem : ∀ b,b<st.nx->(∀ (j:Nat) (e:Bool×Nat×V),pars[j]?=some e->ρ j=b->e.1=true)->s.mem b=(frz st (refsL ds)).mem b:=by intro b hb hr;refine h3.mem b (by show b<(frz st (refsL ds)).nx;rw[hnx];exact hb) (fun k rw' hk hkb => ?_);have hk:(kV pars)[k]?=some rw':=hk;rw[VM,zB]at hk;obtain⟨e,h8,rfl⟩:=hk;exact hr k e h8 hkb
 have htip : ∀ l,l<st.nx->s.tip l=st.tip l:=by intro l hl;rw[h3.tip l (by show l<(frz st (refsL ds)).nx;rw[hnx];exact hl) (fun i=>by simp)];show(frz st (refsL ds)).tip l=_;rw[zgw]
 have hlw : ∀ m,m<=st.nx->(∀ (j:Nat) (e:Bool×Nat×V),pars[j]?=some e->e.1=false->m<=ρ j)->m<=s.lw:=by
  intro m hm hr;refine h3.lw m hm (by show m<=(frz st (refsL ds)).nx;rw[hnx];exact hm) (fun k rw' hk hro => ?_) (fun i l h=>by contradiction);have hk':(kV pars)[k]?=some rw':=hk;rw[VM,zB]at hk';obtain⟨e,h8,rfl⟩:=hk';rcases hro with hro | hro
  ·exact hr k e h8 hro
  ·rw[(Ku _ _).1]at hro;contradiction
 have hpar : ∀ (j:Nat) (e:Bool×Nat×V),pars[j]?=some e -> ∃ y o,q.2[j]?=some y/\s.mem (ρ j)=some o/\zqi e.2.1 y o:=by intro j e hj;obtain⟨y,c,h8,h9,h10⟩:=zqj (hq2▸hys) j e hj;rw[zBE]at h9;obtain⟨o,ho,hrw⟩:=h3.sim.row h9 (ziY h10).2;rw[hρ j (getElem?_lt hj)]at ho;exact⟨y,o,h8,ho,zrL hrw h10⟩
 have hfmem : ∀ b,b<st.nx->(frz s rd.refs).mem b=s.mem b:=by intro b hb;exact zek _ _ _ (fun hm=>by have:=hrefs b hm;omega)
 have hflw : ∀ m,m<=st.nx->m<=s.lw->m<=(frz s rd.refs).lw:=fun m hm h=>zz1 (fun k hk=>zBK hm (hrefs k hk)) h
 have hpure:(rd.cl s.mem).pure=true:=by rw[hcl];exact zcn _
 by_cases hlo:(frz s rd.refs).lw<s.lo
 ·-- rows of the caller were touched
  refine⟨{ frz s rd.refs with tm:=(frz st (refsL ds)).tm,lo:=(frz st (refsL ds)).lo,lw:=if(frz s rd.refs).lw<(frz st (refsL ds)).lw then(frz s rd.refs).lw else(frz st (refsL ds)).lw },?_,W9 _ _,(Fr.frz _ _).lo,?_,fun b hb hr => ?_,fun l hl => ?_,fun m h8 h9 h10 => ?_,fun j e hj => ?_,fun hall => ?_⟩
  ·rw[hcall];simp only[leave,zF,zBw,hpure,Bool.true_and,zCb];rw[zBt (fun h=>h hlo),hcl]
  ·show st.nx<=(frz s rd.refs).nx;rw[QN];have:=h3.nx;have hn0:(enter ⟨np,fn.res,false,false,xz fn.body⟩ ds st).nx=st.nx:=hnx;rw[hn0]at this;exact this
  ·show(frz s rd.refs).mem b=_;rw[hfmem b hb];exact hmem b hb hr
  ·show(frz s rd.refs).tip l=_;rw[zgw];exact htip l hl
  ·show m<=if(frz s rd.refs).lw<(frz st (refsL ds)).lw then(frz s rd.refs).lw else(frz st (refsL ds)).lw
   have:=hflw m h9 (hlw m h9 h10);split<;>omega
  ·obtain⟨y,o,h8,h9,h10⟩:=hpar j e hj;exact⟨y,o,h8,by show(frz s rd.refs).mem (ρ j)=_;rw[hfmem _ (hp j e hj).1];exact h9,h10⟩
  ·exfalso;have:=hflw st.nx (zR _) (hlw st.nx (zR _) (fun j e hj he=>by rw[hall j e hj]at he;contradiction));omega
 ·refine⟨frz st (refsL ds),?_,W9 _ _,(Fr.frz _ _).lo,by rw[hnx];exact zR _,fun _ _ _=>rfl,fun l _=>by rw[zgw],fun m h _ _=>h,fun j e hj => ?_,fun _=>rfl⟩
  ·rw[hcall];simp only[leave,zF,zBw,hpure,Bool.true_and,zCb];rw[zBu hlo,hcl]
  ·obtain⟨y,o,h8,h9,h10⟩:=hpar j e hj;refine⟨y,o,h8,?_,h10⟩;have hlt:=(hp j e hj).1;have hl1:(frz s rd.refs).lw<=s.lw:=(Fr.frz s _).lw;have:s.mem (ρ j)=(enter ⟨np,fn.res,false,false,xz fn.body⟩ ds st).mem (ρ j):=hfr.mem (ρ j) (by show ρ j<(frz st (refsL ds)).nx;rw[hnx];exact hlt) (by omega);rw[<- h9,this];rfl
theorem zxq{sz:Nat}{res:List R}{x:PEx}{q:V×List V}(h:zuk sz res x p=some q):(x = .nrm\/x = .ret) /\ ∃ t d xs,res=[.tmp t]/\zja p.tm t=some (.s d)/\((∃ id,d = .own id sz xs)\/d = .full xs/\yi sz xs=true)/\q=(.sl xs,[]):=by
 have hx:x = .nrm\/x = .ret:=by
  cases x with
  | ext i=>simp[zuk]at h
  | nrm=>exact .inl rfl
  | ret=>exact .inr rfl
 have h':zuk sz res .nrm p=some q:=by rcases hx with rfl | rfl<;>exact h
 refine⟨hx,?_⟩;clear h;simp only[zuk]at h';split at h'<;>try contradiction
 next t=>
  split at h'<;>try contradiction
  next id sz' xs hp=>
   split at h'<;>try contradiction
   next hz=>injection h' with h';have hz:=zJ hz;subst hz;exact⟨t,_,xs,rfl,hp,.inl ⟨id,rfl⟩,h'.symm⟩
  next xs hp=>obtain⟨hz,h'⟩:=yq h';injection h' with h';exact⟨t,_,xs,rfl,hp,.inr ⟨rfl,hz⟩,h'.symm⟩
theorem zxL{res:List R}{x:PEx}{q:V×List V}(h:zuj res x p=some q):(x = .nrm\/x = .ret) /\ ∃ t d y,res=[.tmp t]/\zja p.tm t=some d/\d.pureV=some y/\q=(y,[]):=by
 have hx:x = .nrm\/x = .ret:=by
  cases x with
  | ext i=>simp[zuj]at h
  | nrm=>exact .inl rfl
  | ret=>exact .inr rfl
 have h':zuj res .nrm p=some q:=by rcases hx with rfl | rfl<;>exact h
 refine⟨hx,?_⟩;clear h;simp only[zuj]at h';split at h'<;>try contradiction
 next t=>
  split at h'<;>try contradiction
  next d hp=>
   split at h'<;>try contradiction
   next y hy=>injection h' with h';exact⟨t,d,y,rfl,hp,hy,h'.symm⟩
theorem zzd{E:Env}{gl:Gl}{pc:PcT}(hg:GlR E gl)(hpc:zbt E gl.md pc){f:Nat}{fn:PFn}{np:Nat}(hx:E.ext f=none)(hdf:E.dfr f=none)(hlt:f<zo)(hf:E.fn f=some ⟨np,fn.res,false,true,xz fn.body⟩){sz:Nat}{as:List PA}{q:V×List V}
  (h:yC gl pc fn.body (vA as []) (zuk sz fn.res)=some q) (ρ:Nat->Nat) (st:St) (ds:List D) (ha:RAL ρ 0 as (clL st.mem ds)) :
  ∃ ys cs,q.1 = .sl ys/\cl0L cs=flatD ys/\yi sz ys=true /\ ∃ g st',zz E f ds st=some (.ret (.sl g ys.length cs),st') /\
  (g = .full/\st'=frz st (refsL ds)\/g = .ln (frz st (refsL ds)).nx sz/\st'={ frz st (refsL ds)with tip:=upd (frz st (refsL ds)).tip (frz st (refsL ds)).nx ys.length,nx:=(frz st (refsL ds)).nx+1 }):=by
 have hnx:(frz st (refsL ds)).nx=st.nx:=QN _ _;have hS0:Sim ρ (fun _=>none) (vA as []) (enter ⟨np,fn.res,false,true,xz fn.body⟩ ds st):=by
  refine⟨fun t fl d ht => ?_,fun k hk => ?_,fun k rw' hk => ?_,fun j k hj hk h => ?_,fun i l h=>by contradiction,fun i j l h=>by contradiction⟩
  ·have ht:xb (J0 0 as) t=some (fl,d):=ht;rw[Xx,zBu (Nat.zero_le _),Nat.sub_zero,zB]at ht;obtain⟨a,h1,h2⟩:=ht;simp only[zBC]at h2;obtain⟨rfl,rfl⟩:=h2;obtain⟨e,h3,h4⟩:=zrY ha h1;refine⟨e,?_,?_⟩
   ·show get (params 0 (clL st.mem ds)) t=some e;rw[QG,zBu (Nat.zero_le _),Nat.sub_zero];exact h3
   ·cases a with
    | v x=>have h4:e=x.toD:=h4;subst h4;exact Qd x
    | p j off=>exact absurd h4.1 (Nat.not_lt_zero _)
    | fn f' cap=>obtain⟨es,rfl,h5⟩:=h4;exact⟨es,rfl,h5⟩
    | o _ _=>exact h4.elim
    | g=>exact h4.elim
    | u=>exact h4.elim
  ·exact absurd hk (Nat.not_lt_zero _)
  ·simp[vA,kV]at hk
  ·exact absurd hj (Nat.not_lt_zero _)
 have hw0:Wf (vA as []):=by
  refine⟨fun t d ht => ?_,fun k rw' hk _ => ?_⟩
  ·have ht:xb (J0 0 as) t=some (true,d):=ht;rw[Xx,zBu (Nat.zero_le _),zB]at ht;obtain⟨a,_,h2⟩:=ht;simp at h2
  ·simp[vA,kV]at hk
 obtain⟨x,p',h1,s,ρ1,τ1,h2,h3⟩:=zij hg hpc fn.body hS0 hw0 h;obtain⟨hxx,t,d0,xs,hres,hp,hdd,rfl⟩:=zxq h1;rw[jX,zB]at hp;obtain⟨⟨fl,d⟩,hp,hd⟩:=hp;have hd:d = .s d0:=hd;subst hd;obtain⟨e,he,hre⟩:=h3.sim.tm t fl _ hp;obtain⟨g,cs,rfl,hcs,hsz,hg2⟩ : ∃ g cs,e = .sl g xs.length cs/\cl0L cs=flatD xs/\yi sz xs=true/\(g = .full \/ ∃ id l,g = .ln l sz/\τ1 id=some l/\s.tip l=some xs.length):=by
  rcases hdd with⟨id,rfl⟩ | ⟨rfl,hz⟩
  ·obtain⟨g,cs,rfl,hcs,hsz,hid,hg2⟩:=hre;exact⟨g,cs,rfl,hcs,hsz,hg2.imp (fun h=>h) (fun⟨l,h1,h2,h3⟩=>⟨_,l,h1,h2,h3⟩)⟩
  ·obtain⟨cs,rfl,hcs⟩:=hre;exact⟨.full,cs,rfl,hcs,hz,.inl rfl⟩
 obtain⟨hcl,hrf⟩:=zwy hcs s.mem;have hslo:s.lo=st.nx:=h3.lo;have hlw : ¬ s.lw<s.lo:=by have:=h3.lw st.nx (zR _) (by show st.nx<=(frz st (refsL ds)).nx;rw[hnx];exact zR _) (fun k rw' hk _=>by simp[vA,kV]at hk) (fun i l h=>by contradiction);omega
 have hpure:pureL (clL s.mem cs)=true:=by rw[hcl];exact flatD_pure xs
 have hr:jI s fn.res=some [.sl g xs.length cs]:=by rw[hres];simp only[jI,he,zD]
 have hcall:zz E f ds st=some (.ret (leave ⟨np,fn.res,false,true,xz fn.body⟩ (frz st (refsL ds)) s (.sl g xs.length cs)).1,(leave ⟨np,fn.res,false,true,xz fn.body⟩ (frz st (refsL ds)) s (.sl g xs.length cs)).2):=by rw[J9 hx hdf hf];simp only[h2];rcases hxx with rfl | rfl<;>simp only[zam,jB,hr,zgZ hlt,zC]<;>rfl
 refine⟨xs,flatD xs,rfl,flatD_cl0 xs,hsz,?_⟩;rcases hg2 with rfl | ⟨id,l,rfl,hτ,htip⟩
 ·refine⟨.full,frz st (refsL ds),?_,.inl ⟨rfl,rfl⟩⟩;rw[hcall];simp only[leave,zBv,hrf,frz];rw[zBu ⟨hpure,hlw⟩,hcl]
 ·have hl:s.lo<=l:=by
   rcases h3.τn id l hτ with⟨j,hj⟩ | hj
   ·contradiction
   ·have hj:(frz st (refsL ds)).nx<=l:=hj;omega
  have htip:s.tip l=some xs.length:=htip;refine⟨_,_,?_,.inr ⟨rfl,rfl⟩⟩;rw[hcall];simp only[leave,zBv,hrf,frz];rw[zBu ⟨htip,hpure,hlw,hl⟩,hcl]
def zzD:Tg->Option Nat
 | .ln l _=>some l
 | _=>none
theorem zzj{E:Env}{gl:Gl}{pc:PcT}(hg:GlR E gl)(hpc:zbt E gl.md pc){f:Nat}{fn:PFn}{np:Nat}(hx:E.ext f=none)(hdf:E.dfr f=none)(hlt:f<zo)(hf:E.fn f=some ⟨np,fn.res,true,false,xz fn.body⟩){sz:Nat}{ys xs:List V}{q:V×List V}
  (h:yC gl pc fn.body (vA (.o sz ys::xs.map PA.v) []) (zuj fn.res)=some q) (st:St) (g:Tg) (cs es:List D) (hcs:cl0L cs=flatD ys) (hsz:yi sz ys=true) (ht:zw5 sz ys.length st g) (hes:cl0L es=toDL xs) :
  ∃ d st',zz E f (.sl g ys.length cs::es) st=some (.ret d,st')/\d.cl0=q.1.toD/\zsB sz g st st':=by
 obtain⟨τ0,hτd⟩ : ∃ τ0:Nat->Option Nat,∀ i,τ0 i=if i=0 then zzD g else none:=⟨_,fun _=>rfl⟩
 have hτ0 : ∀ i l,τ0 i=some l->i=0/\g = .ln l sz/\l<st.nx:=by
  intro i l h;rw[hτd]at h;split at h<;>try contradiction
  next hi=>
   rcases ht with rfl | ⟨l',rfl,h1,h2⟩
   ·simp[zzD]at h
   ·simp only[zzD,zBB]at h;subst h;exact⟨hi,rfl,h1⟩
 have hS0:Sim (fun k=>k) τ0 (vA (.o sz ys::xs.map PA.v) []) (enter ⟨np,fn.res,true,false,xz fn.body⟩ (.sl g ys.length cs::es) st):=by
  refine⟨fun t fl d htt => ?_,fun k hk => ?_,fun k rw' hk => ?_,fun j k hj hk h => ?_,fun i l h => ?_,fun i j l h k => ?_⟩
  ·have htt:xb (J0 0 (.o sz ys::xs.map PA.v)) t=some (fl,d):=htt;rw[Xx,zBu (Nat.zero_le _),Nat.sub_zero,zB]at htt;obtain⟨a,h1,h2⟩:=htt;simp only[zBC]at h2;obtain⟨rfl,rfl⟩:=h2;have hget:get (params 0 (.sl g ys.length cs::es)) t=(.sl g ys.length cs::es)[t]?:=by rw[QG,zBu (Nat.zero_le _),Nat.sub_zero]
   cases t with
   | zero=>
    simp at h1;subst h1;refine⟨.sl g ys.length cs,hget,g,cs,rfl,hcs,hsz,zCf _,?_⟩;rcases ht with h | ⟨l,h,h1,h2⟩
    ·exact .inl h
    ·exact .inr ⟨l,h,by show τ0 0=_;rw[hτd,zBu rfl,h];rfl,h2⟩
   | succ t=>
    simp only[zN,zBU,zB]at h1;obtain⟨x,h1,rfl⟩:=h1;have h3:(cl0L es)[t]?=some x.toD:=by rw[hes,zcM,h1];rfl
    rw[XL,zB]at h3;obtain⟨e,h4,h5⟩:=h3;exact⟨e,hget.trans (by simpa using h4),h5⟩
  ·exact absurd hk (Nat.not_lt_zero _)
  ·simp[vA,kV]at hk
  ·exact absurd hj (Nat.not_lt_zero _)
  ·obtain⟨h1,_,h2⟩:=hτ0 i l h;exact⟨by subst h1;exact zCf _,h2⟩
  ·exact(hτ0 i l h).1.trans (hτ0 j l k).1.symm
 have hw0:Wf (vA (.o sz ys::xs.map PA.v) []):=by
  refine⟨fun t d htt => ?_,fun k rw' hk _ => ?_⟩
  ·have htt:xb (J0 0 (.o sz ys::xs.map PA.v)) t=some (true,d):=htt;rw[Xx,zBu (Nat.zero_le _),zB]at htt;obtain⟨a,_,h2⟩:=htt;simp at h2
  ·simp[vA,kV]at hk
 obtain⟨x,p',h1,s,ρ1,τ1,h2,h3⟩:=zij hg hpc fn.body hS0 hw0 h;obtain⟨hxx,t,d,y,hres,hp,hy,rfl⟩:=zxL h1;rw[jX,zB]at hp;obtain⟨⟨fl,d'⟩,hp,hd⟩:=hp;have hd:d'=d:=hd;subst hd;obtain⟨e,he,hr⟩:=h3.sim.tm t fl _ hp;have hr2:jI s fn.res=some [e]:=by rw[hres];simp only[jI,he,zD]
 refine⟨e,{ s with tm:=st.tm,lo:=st.lo,lw:=if s.lw<st.lw then s.lw else st.lw },?_,PD.pure_ok hr hy,rfl,rfl,h3.nx,fun b hb => ?_,fun l hl hne => ?_,fun m hm1 hm2 hm3 => ?_⟩
 ·rw[J9 hx hdf hf];simp only[h2];rcases hxx with rfl | rfl<;>simp only[zam,jB,hr2,zgZ hlt,zC]<;>rfl
 ·exact h3.mem b hb (fun k rw' hk _=>by simp[vA,kV]at hk)
 ·exact h3.tip l hl (fun i h=>hne (hτ0 i l h).2.1)
 ·have:=h3.lw m hm2 hm2 (fun k rw' hk _=>by simp[vA,kV]at hk) (fun i l h=>hm3 l (hτ0 i l h).2.1);show m<=if s.lw<st.lw then s.lw else st.lw
  split<;>omega
theorem zhS{E:Env}{gl:Gl}{tab:Nat->Nat->Option PFn}(hg:GlR E gl)(ht:zsb E gl.md tab)(hx0:zx3 E gl tab)(n:Nat):zbt E gl.md (pcN gl tab n):=by
 induction n with
 | zero=>exact⟨fun f as pars r h=>by simp[pcN]at h,fun f sz ds _ as q h=>by simp[pcN]at h,fun f sz ys xs q _ h=>by simp[pcN]at h,fun f as q _ h=>by simp[pcN]at h,fun f sz d ds _ _ as q h=>by simp[pcN]at h,hx0.2⟩
 | succ n ih=>
  have noG : ∀ {ρ:Nat->Nat} {n:Nat} {as:List PA} {st:St} {ds:List D},RAL ρ n (.g::as) (clL st.mem ds)->False:=by
   intro ρ n as st ds ha;cases hd:clL st.mem ds with
   | nil=>rw[hd]at ha;exact ha.elim
   | cons _ _=>rw[hd]at ha;exact ha.1.elim
  have noU : ∀ {ρ:Nat->Nat} {n:Nat} {as:List PA} {st:St} {ds:List D},RAL ρ n (.u::as) (clL st.mem ds)->False:=by
   intro ρ n as st ds ha;cases hd:clL st.mem ds with
   | nil=>rw[hd]at ha;exact ha.elim
   | cons _ _=>rw[hd]at ha;exact ha.1.elim
  have noO : ∀ {ρ:Nat->Nat} {n sz:Nat} {xs:List V} {as:List PA} {st:St} {ds:List D},RAL ρ n (.o sz xs::as) (clL st.mem ds)->False:=by
   intro ρ n sz xs as st ds ha;cases hd:clL st.mem ds with
   | nil=>rw[hd]at ha;exact ha.elim
   | cons _ _=>rw[hd]at ha;exact ha.1.elim
  refine⟨fun f as pars r h ρ st ds ha hp hi => ?_,fun f sz ds hm as q h ρ st ha => ?_,fun f sz ys xs q hm h st g cs es hcs hsz htt hes => ?_,fun f as q hm h ρ st d ds hd ha => ?_,fun f sz d ds hm hd as q h ρ st ha => ?_,hx0.2⟩
  ·simp only[pcN]at h;split at h;case h_2 hfn=>
    split at h<;>try contradiction
    next g hgx=>
     obtain⟨k,hk,hgk⟩:=hx0.1 f _ g hfn hgx;unfold XZ at h;split at h
     ·next hm=>rw[hm]at hgk;exact zzm hk hgk h ρ st ds ha
     ·contradiction
     ·split at h<;>try contradiction
      exact(noG ha).elim
     ·split at h<;>try contradiction
      exact(noU ha).elim
     ·contradiction
     ·contradiction
   next fn hfn=>
    obtain⟨hx,hdf,hlow,np,hf⟩:=ht f _ fn hfn;unfold XH at h;split at h
    ·next hm=>
     rw[hm]at hf hlow;exact zyv hg ih hx hdf hlow hf h ρ st ds ha hp hi
    ·split at h<;>try contradiction
     exact(noG ha).elim
    ·split at h<;>try contradiction
     exact(noO ha).elim
    ·contradiction
    ·contradiction
    ·contradiction
  ·simp only[pcN]at h;split at h;case h_2 hfn=>
    split at h<;>try contradiction
    simp only[hm,XZ]at h;contradiction
   next fn hfn=>obtain⟨hx,hdf,hlow,np,hf⟩:=ht f _ fn hfn;rw[hm]at hf hlow;simp only[hm,XH]at h;exact zzd hg ih hx hdf (zsK hlow (by simp)) hf h ρ st ds ha
  ·simp only[pcN]at h;split at h;case h_2 hfn=>
    split at h<;>try contradiction
    simp only[hm,XZ]at h;contradiction
   next fn hfn=>
    obtain⟨hx,hdf,hlow,np,hf⟩:=ht f _ fn hfn;rw[hm]at hf hlow;simp only[hm,XH]at h;split at h<;>try contradiction
    exact zzj hg ih hx hdf (zsK hlow (by simp)) hf h st g cs es hcs hsz htt hes
  ·simp only[pcN]at h;split at h;case h_2 hfn=>
    split at h<;>try contradiction
    next g hgx=>obtain⟨k,hk,hgk⟩:=hx0.1 f _ g hfn hgx;simp only[hm,XZ]at h;rw[hm]at hgk;obtain⟨_,xs,y,h1,h2,rfl⟩:=zlh h;rw[zem hk,zik ha h1,hgk d ds xs y hd h2];simp only[zC,zpr]
   next fn hfn=>simp only[hm,XH]at h;contradiction
  ·simp only[pcN]at h;split at h;case h_2 hfn=>
    split at h<;>try contradiction
    next g hgx=>
     obtain⟨k,hk,hgk⟩:=hx0.1 f _ g hfn hgx;simp only[hm,XZ]at h;rw[hm]at hgk;rw[zA]at h;obtain⟨q',hq',h⟩:=h;obtain⟨_,xs,y,h1,h2,rfl⟩:=zlh hq';split at h<;>try contradiction
     next hy=>have hy:y = .sl []:=hy;subst hy;injection h with h;subst h;refine⟨[],[],rfl,rfl,rfl,.ln (frz st (refsL (d::ds))).nx sz,{ frz st (refsL (d::ds))with tip:=upd (frz st (refsL (d::ds))).tip (frz st (refsL (d::ds))).nx 0,nx:=(frz st (refsL (d::ds))).nx+1 },?_,.inr ⟨rfl,rfl⟩⟩;rw[zem hk,zik ha h1,hgk d ds xs hd h2];rfl
   next fn hfn=>simp only[hm,XH]at h;contradiction
theorem KB{gl:Gl}{pc pc':PcT}(h : ∀ f as pars r,pc f as pars=some r->pc' f as pars=some r){c:PC}{p:PSt}{K:PEx->PSt->Option ρ'}{r:ρ'}(hr:yC gl pc c p K=some r):yC gl pc' c p K=some r:=by
 rw[kK,zA]at hr ⊢;obtain⟨q,hq,hr⟩:=hr;have hl:Lim (fun _=>pc') pc:=fun f as pars r hh => .all fun _=>h f as pars r hh
 obtain⟨n,hn⟩:=zg1 hl c hq;exact⟨q,hn n (zR n),hr⟩
theorem zhM{gl:Gl}{pc pc':PcT}(h : ∀ f as pars r,pc f as pars=some r->pc' f as pars=some r){fn:PFn}{md:Md}{as:List PA}{pars:List (Bool×Nat×V)}{r:V×List V}(hr:XH gl pc fn md as pars=some r):XH gl pc' fn md as pars=some r:=by
 unfold XH at hr ⊢;split at hr
 ·exact KB h hr
 ·split at hr<;>try contradiction
  split at hr<;>try contradiction
  exact KB h hr
 ·split at hr<;>try contradiction
  split at hr<;>try contradiction
  split at hr<;>try contradiction
  next hz=>exact KB h hr
 ·contradiction
 ·contradiction
 ·contradiction
theorem zzU{gl:Gl}{tab:Nat->Nat->Option PFn}(n:Nat) : ∀ f as pars r,pcN gl tab n f as pars=some r->pcN gl tab (n+1) f as pars=some r:=by
 induction n with
 | zero=>intro f as pars r h;simp[pcN]at h
 | succ n ih=>
  intro f as pars r h;simp only[pcN]at h ⊢;split at h
  ·exact zhM ih h
  ·exact h
theorem zrz{gl:Gl}{tab:Nat->Nat->Option PFn}{n m:Nat}(hnm:n<=m) : ∀ f as pars r,pcN gl tab n f as pars=some r->pcN gl tab m f as pars=some r:=by
 induction hnm with
 | refl=>intro f as pars r h;exact h
 | step _ ih=>intro f as pars r h;exact zzU _ f as pars r (ih f as pars r h)
theorem Ys{gl:Gl}{tab:Nat->Nat->Option PFn}{f:Nat}{as:List PA}{pars:List (Bool×Nat×V)}{r:V×List V}:pcL gl tab f as pars=some r ↔ ∃ n,pcN gl tab n f as pars=some r:=by
 unfold pcL;constructor
 ·intro h;split at h
  ·next hx=>
   injection h with h;exact⟨_,by rw[<- h];exact hx.choose_spec.choose_spec⟩
  ·contradiction
 ·rintro⟨n,hn⟩;have hx : ∃ n r,pcN gl tab n f as pars=some r:=⟨n,r,hn⟩
  rw[dif_pos hx];have h1:=zrz (Nat.le_max_left n hx.choose) f as pars _ hn;have h2:=zrz (Nat.le_max_right n hx.choose) f as pars _ hx.choose_spec.choose_spec;rw[h1]at h2;injection h2 with h2;rw[<- h2]
theorem zxg(gl:Gl)(tab:Nat->Nat->Option PFn):Lim (pcN gl tab) (pcL gl tab):=by intro f as pars r h;obtain⟨n,hn⟩:=Ys.1 h;exact⟨n,fun m hm=>zrz hm f as pars r hn⟩
theorem zsM{gl:Gl}{pcs:Nat->PcT}{pc:PcT}(hl:Lim pcs pc){fn:PFn}{md:Md}{as:List PA}{pars:List (Bool×Nat×V)}{r:V×List V}(hr:XH gl pc fn md as pars=some r) : ∃ n,XH gl (pcs n) fn md as pars=some r:=by
 have key : ∀ {p:PSt} {K:PEx->PSt->Option (V×List V)},yC gl pc fn.body p K=some r -> ∃ n,yC gl (pcs n) fn.body p K=some r:=by intro p K h;rw[kK,zA]at h;obtain⟨q,hq,h⟩:=h;obtain⟨n,hn⟩:=zg1 hl fn.body hq;exact⟨n,by rw[kK,hn n (zR n)];exact h⟩
 unfold XH at hr;split at hr
 ·obtain⟨n,hn⟩:=key hr;exact⟨n,hn⟩
 ·split at hr<;>try contradiction
  split at hr<;>try contradiction
  obtain⟨n,hn⟩:=key hr;exact⟨n,hn⟩
 ·split at hr<;>try contradiction
  split at hr<;>try contradiction
  split at hr<;>try contradiction
  next hz=>obtain⟨n,hn⟩:=key hr;exact⟨n,by simp only[XH,hz];exact hn⟩
 ·contradiction
 ·contradiction
 ·contradiction
theorem zz5{gl:Gl}{tab:Nat->Nat->Option PFn}{f:Nat}{fn:PFn}(as:List PA)(pars:List (Bool×Nat×V))(hf:tab f pars.length=some fn):pcL gl tab f as pars=XH gl (pcL gl tab) fn (gl.md f) as pars:=by
 apply Zk;intro r;constructor
 ·intro h;obtain⟨n,hn⟩:=Ys.1 h;cases n with
  | zero=>simp[pcN]at hn
  | succ n=>simp only[pcN,hf]at hn;exact zhM (fun f as pars r h=>Ys.2 ⟨n,h⟩) hn
 ·intro h;obtain⟨n,hn⟩:=zsM (zxg gl tab) h;exact Ys.2 ⟨n+1,by simp only[pcN,hf];exact hn⟩
theorem zb5{gl:Gl}{tab:Nat->Nat->Option PFn}{f:Nat}{g:List V->Option V}(as:List PA)(pars:List (Bool×Nat×V))(hf:tab f pars.length=none)(hg:gl.tx f=some g):pcL gl tab f as pars=XZ g (gl.md f) as pars:=by
 apply Zk;intro r;rw[Ys];constructor
 ·rintro⟨n,hn⟩;cases n with
  | zero=>simp[pcN]at hn
  | succ n=>simp only[pcN,hf,hg]at hn;exact hn
 ·intro h;exact⟨1,by simp only[pcN,hf,hg];exact h⟩
theorem zzI{E:Env}{gl:Gl}{tab:Nat->Nat->Option PFn}(hg:GlR E gl)(ht:zsb E gl.md tab)(hx:zx3 E gl tab):zbt E gl.md (pcL gl tab):=by
 refine⟨fun f as pars r h => ?_,fun f sz ds hm as q h => ?_,fun f sz ys xs q hm h => ?_,fun f as q hm h => ?_,fun f sz d ds hm hd as q h => ?_,hx.2⟩
 ·obtain⟨n,hn⟩:=Ys.1 h;exact(zhS hg ht hx n).n f as pars r hn
 ·obtain⟨n,hn⟩:=Ys.1 h;exact(zhS hg ht hx n).g f sz ds hm as q hn
 ·obtain⟨n,hn⟩:=Ys.1 h;exact(zhS hg ht hx n).w f sz ys xs q hm hn
 ·obtain⟨n,hn⟩:=Ys.1 h;exact(zhS hg ht hx n).f f as q hm hn
 ·obtain⟨n,hn⟩:=Ys.1 h;exact(zhS hg ht hx n).h f sz d ds hm hd as q hn
end
theorem pq{gl:Gl}{tab:Nat->Nat->Option PFn}{f:Nat}{fn:PFn}{as:List PA}{pars:List (Bool×Nat×V)}{r:Option (V×List V)}(hf:tab f pars.length=some fn)(h:XH gl (pcL gl tab) fn (gl.md f) as pars=r) :
  pcL gl tab f as pars=r:=(zz5 as pars hf).trans h
theorem zw7{E:Env}{md:Nat->Md}{f:Nat}{fn:PFn}(h:E.fn f=some ⟨((E.fn f).map Fn.np).getD 0,fn.res,(md f).isRaw,(md f).isGv,xz fn.body⟩) :
  ∃ np,E.fn f=some ⟨np,fn.res,(md f).isRaw,(md f).isGv,xz fn.body⟩:=⟨_,h⟩
end
section
def Z8(P:Program)(t:TypeId):Bool:=match P.underlying t with
 | some (.struct _) | some (.array _ _)=>true
 | _=>false
def mkV(P:Program)(t:TypeId)(cs:List V):V:=match Z8 P t with
 | true => .agg cs
 | false=>cs.headD .nilp
def TyL(f:TypeId->List V->Prop):List TypeId->List V->Prop
 | [],cs=>cs=[]
 | t::r,cs => ∃ x y,f t x/\TyL f r y/\cs=x++y
def Ty(P:Program):Nat->TypeId->List V->Prop
 | 0,_,_=>False
 | n+1,t,cs=>match P.underlying t with
  | some .bool => ∃ b,cs=[.bool b]
  | some (.int k) => ∃ z,(Lit.int k z).wf=true/\cs=[.int k z]
  | some (.float k) => ∃ b,(Lit.float k b).wf=true/\cs=[.float k b]
  | some .string => ∃ s:List UInt8,s.length<=maxLen/\cs=[.str s]
  | some (.slice e) => ∃ xs:List (List V),xs.length<=maxLen/\(∀ x∈xs,Ty P n e x)/\cs=[.sl (xs.map (mkV P e))]
  | some (.struct fs)=>TyL (Ty P n) (fs.toList.map (·.type)) cs
  | some (.array m e)=>TyL (Ty P n) (List.replicate m e) cs
  | _=>False
def J7(P:Program)(tot:Nat):Nat->List Field->Bool
 | o,[]=>Nat.beq o tot
 | o,f::r=>Nat.beq f.offset o&&J7 P tot (o+P.cellsOf f.type) r
def zrP(P:Program)(ts:List TypeId):Bool:=ts.all fun t=>match P.underlying t with
 | some .bool | some (.int _) | some (.float _) | some .string=>Nat.beq (P.cellsOf t) 1
 | some (.slice e)=>Nat.beq (P.cellsOf t) 1&&ts.contains e&&(Z8 P e||Nat.beq (P.cellsOf e) 1)
 | some (.struct fs)=>J7 P (P.cellsOf t) 0 fs.toList&&fs.toList.all fun f=>ts.contains f.type
 | some (.array m e)=>Nat.beq (P.cellsOf t) (m*P.cellsOf e)&&ts.contains e
 | _=>false
theorem RepL.one{S:G}{d:D}{v:Value}(h:Rep S d v):RepL S [d] [v]:=by
 refine⟨rfl,fun j d' v' hd hv => ?_⟩;cases j with
 | zero=>simp at hd hv;subst hd hv;exact h
 | succ j=>simp at hd
theorem zfK{x y:List V}:yE (x++y)=(yE x&&yE y):=by
 induction x with
 | nil=>rfl
 | cons a r ih=>simp[yE,ih,Bool.and_assoc]
theorem zuH{x:V}(h:x.one=true):x.toD.cells=[x.toD]:=by cases x<;>first | rfl | (simp[V.one]at h)
theorem zul{P:Program}{e:TypeId}{xs:List V}(h1:yE xs=true)(h:Z8 P e=true\/xs.length=1):(mkV P e xs).toD.cells=toDL xs:=by
 unfold mkV;cases ha:Z8 P e with
 | true=>simp[V.toD,D.cells]
 | false=>
  rw[ha]at h;have h:=h.resolve_left (by simp)
  match xs,h with
  | [x],_=>simp[yE]at h1;simp[toDL,zuH h1]
theorem zqN{w:World}{a:Addr}{n:Nat}{cs:List Value}(h:w.cells? 0 a n=some cs):cs.length=n /\ ∀ r,r<n->w.cell? (a.add r)=cs[r]?:=by
 unfold World.cells? at h;rw[zBu (Nat.zero_le _)]at h;have hlen : ∀ (l:List Nat) (ys:List Value),l.mapM (fun i=>w.cell? (a.add i))=some ys->ys.length=l.length:=by
  intro l;induction l with
  | nil=>intro ys hm;simp at hm;subst hm;rfl
  | cons x l ih=>intro ys hm;simp only[List.mapM_cons,Option.bind_eq_bind,zA,Option.pure_def,zBB]at hm;obtain⟨y,hy,zs,hz,rfl⟩:=hm;simp[ih zs hz]
 have hl:=hlen _ _ h;simp at hl;refine⟨hl,fun r hr => ?_⟩;have key : ∀ (l:List Nat) (ys:List Value),l.mapM (fun i=>w.cell? (a.add i))=some ys -> ∀ (j i:Nat),l[j]?=some i->w.cell? (a.add i)=ys[j]?:=by
  intro l;induction l with
  | nil=>intro ys _ j i hj;simp at hj
  | cons x l ih=>
   intro ys hm j i hj;simp only[List.mapM_cons,Option.bind_eq_bind,zA,Option.pure_def,zBB]at hm;obtain⟨y,hy,zs,hz,rfl⟩:=hm;cases j with
   | zero=>simp at hj;subst hj;simpa using hy
   | succ j=>simp at hj;simpa using ih zs hz j i hj
 exact key _ _ h r r (by simp[hr])
theorem zv1(b off i:Nat):(⟨b,off,none⟩:Addr).add i=⟨b,off+i,none⟩:=by
 unfold Addr.add;split
 ·next h=>subst h;rfl
 ·rfl
theorem zuw(x y:List V):flatD (x++y)=flatD x++flatD y:=by
 induction x with
 | nil=>rfl
 | cons a r ih=>simp[flatD,ih]
section
variable {H:Type} {enc:TypeId×Value->H} {P:Program} {W:World} {held:Bool} {spare:Nat->Bool} {ts:List TypeId}
def Opens(P:Program)(W:World)(n:Nat)(t:TypeId)(cs:List Value)(xs:List V):Prop:=
 Ty P n t xs/\RepL (G0 W) (toDL xs) cs/\cs.length=P.cellsOf t/\yE xs=true
theorem zno{n:Nat}(ih : ∀ t cs (x:DataW H×List MemPlace),t∈ts->DataW.trod enc P W 0 spare held n t cs=some x -> ∃ xs,Opens P W n t cs xs)(tot:Nat)(cs:List Value)(hcs:cs.length=tot) :
  ∀ (fs:List Field) (o:Nat),J7 P tot o fs=true->(∀ f∈fs,f.type∈ts)->(∀ f∈fs,∃ x,DataW.trod enc P W 0 spare held n f.type ((cs.drop f.offset).take (P.cellsOf f.type))=some x) ->
   ∃ xs,TyL (Ty P n) (fs.map (·.type)) xs/\RepL (G0 W) (toDL xs) (cs.drop o)/\yE xs=true:=by
 intro fs;induction fs with
 | nil=>intro o hc _ _;simp only[J7]at hc;have hc:=zJ hc;refine⟨[],rfl,?_,rfl⟩;rw[List.drop_of_length_le (by omega)];exact RepL.nil _
 | cons f r ihf=>
  intro o hc ht hx;simp only[J7,zG]at hc;have ho:=zJ hc.1;obtain⟨x,hx1⟩:=hx f (by simp);obtain⟨xs,h1,h2,h3,h4⟩:=ih _ _ _ (ht f (by simp)) hx1;obtain⟨ys,k1,k2,k3⟩:=ihf _ hc.2 (fun g hg=>ht g (by simp[hg])) (fun g hg=>hx g (by simp[hg]));refine⟨xs++ys,⟨xs,ys,h1,k1,rfl⟩,?_,by rw[zfK,h4,k3];rfl⟩;rw[YJ];have e:cs.drop o=(cs.drop f.offset).take (P.cellsOf f.type)++cs.drop (o+P.cellsOf f.type):=by rw[ho,<- List.drop_drop,List.take_append_drop]
  rw[e];exact h2.app k2
theorem znQ{n:Nat}{e:TypeId}(he:e∈ts)(ih : ∀ t cs (x:DataW H×List MemPlace),t∈ts->DataW.trod enc P W 0 spare held n t cs=some x -> ∃ xs,Opens P W n t cs xs)(cs:List Value) :
  ∀ (k o:Nat),cs.length=(o+k)*P.cellsOf e->(∀ i,o<=i->i<o+k -> ∃ x,DataW.trod enc P W 0 spare held n e ((cs.drop (i*P.cellsOf e)).take (P.cellsOf e))=some x) ->
   ∃ xs,TyL (Ty P n) (List.replicate k e) xs/\RepL (G0 W) (toDL xs) (cs.drop (o*P.cellsOf e))/\yE xs=true:=by
 intro k;induction k with
 | zero=>intro o hc _;refine⟨[],rfl,?_,rfl⟩;rw[List.drop_of_length_le (by rw[hc];exact zR _)];exact RepL.nil _
 | succ k ihk=>
  intro o hc hx;obtain⟨x,hx1⟩:=hx o (zR _) (by omega);obtain⟨xs,h1,h2,h3,h4⟩:=ih _ _ _ he hx1;obtain⟨ys,k1,k2,k3⟩:=ihk (o+1) (by rw[hc];congr 1;omega) (fun i h1 h2=>hx i (by omega) (by omega));refine⟨xs++ys,⟨xs,ys,h1,k1,rfl⟩,?_,by rw[zfK,h4,k3];rfl⟩;rw[YJ];have e2:cs.drop (o*P.cellsOf e)=(cs.drop (o*P.cellsOf e)).take (P.cellsOf e)++cs.drop ((o+1)*P.cellsOf e):=by rw[Nat.succ_mul,<- List.drop_drop,List.take_append_drop]
  rw[e2];exact h2.app k2
theorem zqR{k:FloatKind}{n:Nat}{t:TypeId}{cs:List Value}{x:DataW H×List MemPlace}(ht:P.underlying t=some (.float k))(h:DataW.trod enc P W 0 spare held n t cs=some x) : ∃ b,cs=[.float k b]/\(Lit.float k b).wf=true:=by
 cases n with
 | zero=>simp[DataW.trod]at h
 | succ n=>unfold DataW.trod at h;rw[ht]at h;split at h<;>simp_all
theorem opens(hT:zrP P ts=true) : ∀ (n:Nat) (t:TypeId) (cs:List Value) (x:DataW H×List MemPlace),t∈ts->DataW.trod enc P W 0 spare held n t cs=some x -> ∃ xs,Opens P W n t cs xs:=by
 intro n;induction n with
 | zero=>intro t cs x _ h;simp[DataW.trod]at h
 | succ n ih=>
  intro t cs x ht h;have hc:=List.all_eq_true.1 hT t ht;unfold Opens Ty;cases hu:P.underlying t with
  | none=>simp[hu]at hc
  | some u=>
   cases u<;>simp only[hu]at hc ⊢ <;> first | (exfalso;simp at hc;done) | skip
   case bool=>obtain⟨b,rfl,_⟩:=DataW.trod_bool hu h;exact⟨[.bool b],⟨b,rfl⟩,RepL.one (.bool b),(zJ hc).symm,rfl⟩
   case int k=>obtain⟨z,rfl,_,hw⟩:=DataW.trod_int hu h;exact⟨[.int k z],⟨z,hw,rfl⟩,RepL.one (.int k z),(zJ hc).symm,rfl⟩
   case float k=>obtain⟨z,rfl,hw⟩:=zqR hu h;exact⟨[.float k z],⟨z,hw,rfl⟩,RepL.one (.float k z),(zJ hc).symm,rfl⟩
   case string=>
    obtain⟨z,rfl,_,hw⟩:=DataW.trod_string hu h;refine⟨[.str z.data.toList],⟨_,?_,rfl⟩,RepL.one ?_,(zJ hc).symm,rfl⟩
    ·simpa using hw
    ·exact Rep.str _
   case struct fs=>
    obtain⟨ys,m,hm,_,hcs,hl,hf⟩:=DataW.trod_struct hu h;injection hm with hm;subst hm;simp only[zG,List.all_eq_true]at hc;obtain⟨xs,h1,h2,h3⟩:=zno ih _ cs hcs fs.toList 0 hc.1 (fun f hf=>by simpa using hc.2 f hf) (fun f hf'=>by
     obtain⟨i,hi⟩:=List.mem_iff_getElem?.1 hf';have hi2:fs[i]?=some f:=by simpa using hi
     have hlt:i<fs.size:=(Array.getElem?_eq_some_iff.1 hi2).1;rw[hf i f hi2,zL (by omega)];exact⟨_,rfl⟩)
    exact⟨xs,h1,by simpa using h2,hcs,h3⟩
   case array m e=>
    obtain⟨ys,m',hm,_,hcs,hl,hf⟩:=DataW.trod_array hu h;injection hm with hm;subst hm;simp only[zG]at hc;have hsz:=zJ hc.1;obtain⟨xs,h1,h2,h3⟩:=znQ (e:=e) (by simpa using hc.2) ih cs m 0 (by rw[hcs,hsz,zBE]) (fun i _ hi=>by rw[hf i (by omega),zL (by omega)];exact⟨_,rfl⟩);exact⟨xs,h1,by simpa using h2,hcs,h3⟩
   case slice e=>
    simp only[zG,zCc]at hc;have hsz:=zJ hc.1.1;rcases DataW.trod_slice hu h with⟨rfl,_⟩ | ⟨a,len,cap,elems,rest,m,hm,rfl,_,_,hlc,hcap,hel,hE,_,_⟩
    ·exact⟨[.sl []],⟨[],by simp,by simp,rfl⟩,RepL.one (.sl .no 0 [] none 0 0 0 (fun _=>undef) (zR _) (.inl rfl) (fun j hj=>by simp at hj) (fun j d hj=>by simp at hj) (.inl rfl) trivial),hsz.symm,rfl⟩
    ·injection hm with hm;subst hm;have each : ∀ i,∃ p:List Value×List V,i<len->W.cells? 0 (a.add (i*P.cellsOf e)) (P.cellsOf e)=some p.1/\Opens P W n e p.1 p.2:=by
      intro i;by_cases hi:i<len
      ·have h1:=hE i hi;rw[zL (by omega),zA]at h1;obtain⟨cs,h2,h3⟩:=h1;obtain⟨xs,h4⟩:=ih e cs _ (by simpa using hc.1.2) h3;exact⟨(cs,xs),fun _=>⟨h2,h4⟩⟩
      ·exact⟨([],[]),fun h=>(hi h).elim⟩
     obtain⟨f,hf⟩:=Classical.axiomOfChoice each;have hcell : ∀ i,i<len->((f i).2.length=1\/Z8 P e=true):=by
      intro i hi;rcases hc.2 with h | h
      ·exact .inr h
      ·have h5:=(hf i hi).2.2.1.1;have h6:=(hf i hi).2.2.2.1;rw[xW]at h5;have:=zJ h;exact .inl (by omega)
     have hall : ∀ m,m<=len->RepL (G0 W) (flatD ((List.range m).map fun i=>mkV P e (f i).2)) ((List.range m).flatMap fun i=>(f i).1)/\((List.range m).flatMap fun i=>(f i).1).length=m*P.cellsOf e:=by
      intro m;induction m with
      | zero=>intro _;exact⟨RepL.nil _,by simp⟩
      | succ m ihm=>
       intro hm;obtain⟨k1,k2⟩:=ihm (by omega);obtain⟨_,k3,k4,k5,k6⟩:=hf m (by omega);rw[List.range_succ,List.map_append,zuw,List.flatMap_append];refine⟨k1.app ?_,by rw[zZ,k2,Nat.succ_mul];simp[k5]⟩;have:flatD ([m].map fun i=>mkV P e (f i).2)=toDL (f m).2:=by simp[flatD,zul k6 (hcell m (by omega)).symm]
       rw[this];simpa using k4
     obtain⟨hr,hlen⟩:=hall len (zR _);have hcl : ∀ m,m<=len -> ∀ j,j<m*P.cellsOf e->W.cell? (a.add j)=((List.range m).flatMap fun i=>(f i).1)[j]?:=by
      intro m;induction m with
      | zero=>intro _ j hj;simp at hj
      | succ m ihm=>
       intro hm j hj;have k2:=(hall m (by omega)).2;rw[List.range_succ,List.flatMap_append,List.getElem?_append,k2];rw[Nat.succ_mul]at hj;split
       ·next h=>exact ihm (by omega) j h
       ·next h=>
        have k3:=(zqN (hf m (by omega)).1).2 (j-m*P.cellsOf e) (by omega);have e1:(a.add (m*P.cellsOf e)).add (j-m*P.cellsOf e)=a.add j:=by
         unfold Addr.add;by_cases h0:m*P.cellsOf e=0
         ·rw[zBu h0,h0,Nat.sub_zero]
         ·rw[zBt h0];by_cases h1:j-m*P.cellsOf e=0
          ·rw[zBu h1,zBt (by omega)];have:j=m*P.cellsOf e:=by omega
           rw[this]
          ·rw[zBt h1,zBt (by omega)];simp only[Addr.mk.injEq,and_true,true_and];omega
        rw[e1]at k3;rw[k3];simp
     have hspot:len*P.cellsOf e=0\/a=⟨a.block,a.off,none⟩:=by
      by_cases h0:len*P.cellsOf e=0
      ·exact .inl h0
      ·have k3:=hcl len (zR _) 0 (by omega);rw[zL (by omega)]at k3;refine .inr ?_;have k4:W.cell? a=some _:=k3;unfold World.cell? at k4;obtain⟨bl,of,sp⟩:=a;split at k4
       ·split at k4
        ·simp at k4
        ·next h=>cases sp with
         | none=>rfl
         | some _=>simp at h
       ·simp at k4
     have hfl:(flatD ((List.range len).map fun i=>mkV P e (f i).2)).length=len*P.cellsOf e:=by rw[<- hr.1,hlen]
     have hus : ∀ j,j<len*P.cellsOf e->W.cell? ⟨a.block,a.off+j,none⟩=some (((List.range len).flatMap fun i=>(f i).1).getD j undef):=by intro j hj;have h1:=hspot.resolve_left (by omega);have h2:=hcl len (zR _) j hj;rw[h1,zv1]at h2;rw[h2,List.getD_eq_getElem?_getD,zL (by omega)];rfl
     refine⟨[.sl ((List.range len).map fun i=>mkV P e (f i).2)],⟨(List.range len).map fun i=>(f i).2,by simp;omega,?_,by simp[List.map_map,Function.comp_def]⟩,RepL.one ?_,hsz.symm,rfl⟩
     ·intro y hy;obtain⟨i,hi,rfl⟩:=List.mem_map.1 hy;exact(hf i (by simpa using hi)).2.1
     ·have e1:(V.sl ((List.range len).map fun i=>mkV P e (f i).2)).toD = .sl .no len (flatD ((List.range len).map fun i=>mkV P e (f i).2)):=by simp[V.toD]
      rw[e1];refine .sl .no len _ (some a) cap a.block a.off (fun j=>((List.range len).flatMap fun i=>(f i).1).getD j undef) hlc ?_ (fun j hj=>hus j (by omega)) (fun j d hd => ?_) ?_ trivial
      ·rcases hspot with h | h
       ·exact .inl (List.eq_nil_of_length_eq_zero (by omega))
       ·exact .inr (by rw[<- h])
      ·have hj:j<len*P.cellsOf e:=by rw[<- hfl];exact(List.getElem?_eq_some_iff.1 hd).1
       refine hr.2 j d _ hd ?_;rw[List.getD_eq_getElem?_getD,zL (by omega)];rfl
      ·rw[hfl];rcases zBk (W:=W) (b:=a.block) (off:=a.off) (n:=len*P.cellsOf e) (fun j hj=>⟨_,hus j hj⟩)with h | h
       ·exact .inl (List.eq_nil_of_length_eq_zero (by omega))
       ·exact .inr h
end
end
section
theorem zA7{ρ:Nat->Nat}{np:Nat}(xs:List V):RAL ρ np (xs.map .v) (toDL xs):=by
 induction xs with
 | nil=>trivial
 | cons x r ih=>exact⟨rfl,ih⟩
theorem zzG{E:Env}{gl:Gl}{tab:Nat->Nat->Option PFn}(hg:GlR E gl)(ht:zsb E gl.md tab)(hx:zx3 E gl tab){f:Nat}{xs:List V}{r:V}(h:pcL gl tab f (xs.map .v) []=some (r,[])) : ∃ st',zz E f (toDL xs) St0=some (.ret r.toD,st'):=by obtain⟨st',h1,_⟩:=(zzI hg ht hx).n f _ _ _ h (fun _=>0) St0 (toDL xs) (by rw[(zv5 (toDL_cl0 xs) St0.mem).1];exact zA7 xs) (fun j e he=>by simp at he) (fun i j hi=>by simp at hi);exact⟨st',h1⟩
theorem Opens.arg{P:Program}{W:World}{n:Nat}{t:TypeId}{v:Value}{xs:List V}(h:Opens P W n t v.cells.toList xs)(hv:Z8 P t=true -> ∃ a,v = .agg a)(hc:Z8 P t=true\/(P.cellsOf t=1 /\ ∀ a,v ≠ .agg a)):Rep (G0 W) (mkV P t xs).toD v:=by
 obtain⟨_,hr,hl,h1⟩:=h;unfold mkV;cases ha:Z8 P t with
 | true=>obtain⟨a,rfl⟩:=hv ha;simp only[V.toD];exact .agg _ _ (by simpa[Value.cells]using hr.1) (fun j d w hd hw=>hr.2 j d w hd (by simpa[Value.cells]using hw))
 | false=>
  rw[ha]at hc;obtain⟨hc1,hna⟩:=hc.resolve_left (by simp);have hcs:v.cells.toList=[v]:=by cases v<;>first | rfl | exact(hna _ rfl).elim
  rw[hcs]at hr;have hxl:=hr.1;rw[xW]at hxl
  match xs,hxl with
  | [x],_=>exact hr.2 0 _ _ rfl rfl
end
section
def zeU(bw n m:Nat)(i:Int):Bool:=decide (0<=i)&&decide (i<=n)&&decide (0<m)&&decide ((n+m)*bw<=140737488355328)&&decide (n+m<=140737488355328)
def YK(sz bw:Nat):List V->Option V
 | [.sl xs,.int .i64 i,.sl vs]=>tst (yi sz xs&&yi sz vs&&zeU bw xs.length vs.length i) (some (.sl (xs.take i.toNat++vs++xs.drop i.toNat)))
 | _=>none
def Vv(sz bw:Nat):List D->List D->Option D
 | d::_,[.sl _ n xs,.int .i64 i,.sl _ m vs]=>tst (YM d&&Nat.beq xs.length (n*sz)&&Nat.beq vs.length (m*sz)&&yd xs&&yd vs&&zeU bw n m i) (some (.sl .no (n+m) (xs.take (i.toNat*sz)++vs++xs.drop (i.toNat*sz))))
 | _,_=>none
def zbq(bw:Nat)(n:Int):Bool:=decide (0<=n)&&decide (n.toNat*bw<=140737488355328)&&decide (n<=140737488355328)
def Ko(bw:Nat):List V->Option V
 | [.sl [],.int .i64 n]=>tst (zbq bw n) (some (.sl []))
 | _=>none
def zdY(sz bw:Nat):List D->List D->Option D
 | d::_,[.sl _ 0 [],.int .i64 n]=>tst (YM d&&zbq bw n) (some (.sl (.ln 0 sz) 0 []))
 | _,_=>none
theorem zcW{sz:Nat}{xs:List V}(h:yi sz xs=true):yd (flatD xs)=true:=kZ h (flatD_cl0 xs)
theorem zcm(sz bw:Nat):zvi (Vv sz bw) (YK sz bw) .ful:=by
 intro d ds xs y hd h;unfold YK at h;split at h<;>try contradiction
 next xs i vs=>
  obtain⟨hc,h⟩:=yq h;injection h with h;subst h;simp only[zG]at hc;obtain⟨⟨h1,h2⟩,h3⟩:=hc;have e1:=xg h1;have e2:=xg h2;simp only[toDL,V.toD,Vv,hd,e1,e2,Nat.beq_refl,zcW h1,zcW h2,h3,Bool.and_self,tst];rw[qn h1,qS h1,<- va,<- va];have hl:i.toNat<=xs.length:=by simp[zeU]at h3;omega
  have:(xs.take i.toNat++vs++xs.drop i.toNat).length=xs.length+vs.length:=by simp only[zZ,zBI,zBJ];omega
  rw[this]
theorem zhw(sz bw:Nat):zvi (zdY sz bw) (Ko bw) (.gvf sz):=by
 intro d ds xs hd h;unfold Ko at h;split at h<;>try contradiction
 next n=>obtain⟨hc,h⟩:=yq h;simp only[toDL,V.toD,zdY,hd,hc,flatD,zBH,Bool.and_self,tst]
end
section
def JC(P:Program)(f:TypeId->DataW Unit->Option (List Value)):List TypeId->List (DataW Unit)->Option (List Value)
 | [],[]=>some []
 | t::r,d::ds=>match f t d with
  | some x=>match JC P f r ds with | some y=>some (x++y) | none=>none
  | none=>none
 | _,_=>none
def lits(P:Program):Nat->TypeId->DataW Unit->Option (List Value)
 | 0,_,_=>none
 | n+1,t,d=>match P.underlying t,d with
  | some .bool,.lit (.bool b)=>some [.bool b]
  | some (.int k),.lit (.int k' z)=>if k'=k then some [.int k z]else none
  | some (.struct fs),.agg ds=>if J7 P (P.cellsOf t) 0 fs.toList=true then JC P (lits P n) (fs.toList.map (·.type)) ds else none
  | some (.array m e),.agg ds=>if P.cellsOf t=m*P.cellsOf e then JC P (lits P n) (List.replicate m e) ds else none
  | _,_=>none
theorem JK{α β:Type}{f:α->Option β}{a:α}{l:List α}{ys:List β}(h:(a::l).mapM f=some ys) : ∃ y r,f a=some y/\l.mapM f=some r/\ys=y::r:=by simp only[List.mapM_cons,Option.bind_eq_bind,zA,Option.pure_def,zBB]at h;obtain⟨y,hy,zs,hz,rfl⟩:=h;exact⟨y,zs,hy,hz,rfl⟩
section
variable {P:Program} {w:World} {sp:Nat->Bool} {held:Bool}
theorem zpo{f:TypeId->DataW Unit->Option (List Value)}{tr:TypeId->List Value->Option (DataW Unit×List MemPlace)}(ih : ∀ t d vs,f t d=some vs -> ∀ cs p,tr t cs=some (d,p)->cs=vs)(tot:Nat)(cs:List Value)(hcs:cs.length=tot) :
  ∀ (fs:List Field) (o:Nat) (xs:List (DataW Unit×List MemPlace)) (vs:List Value),J7 P tot o fs=true->fs.mapM (fun f=>tr f.type ((cs.drop f.offset).take (P.cellsOf f.type)))=some xs->JC P f (fs.map (·.type)) (xs.map (·.1))=some vs->cs.drop o=vs:=by
 intro fs;induction fs with
 | nil=>intro o xs vs hc hm hl;have hc:=zJ hc;simp only[List.mapM_nil,Option.pure_def,zBB]at hm;subst hm;simp only[List.map_nil,JC,zBB]at hl;rw[<- hl,zQ (by omega)]
 | cons g r ihr=>
  intro o xs vs hc hm hl;simp only[J7,zG]at hc;have ho:=zJ hc.1;obtain⟨y,ys,hy,hys,rfl⟩:=JK hm;simp only[List.map_cons,JC]at hl;cases h1:f g.type y.1 with
  | none=>rw[h1]at hl;contradiction
  | some v1=>
   rw[h1]at hl;cases h2:JC P f (r.map (·.type)) (ys.map (·.1))with
   | none=>rw[h2]at hl;contradiction
   | some v2=>rw[h2]at hl;obtain rfl:=Option.some.inj hl;have e1:=ih _ _ _ h1 _ _ hy;have e2:=ihr _ _ _ hc.2 hys h2;rw[ho]at e1;rw[<- e1,<- e2,<- List.drop_drop,List.take_append_drop]
theorem zqn{f:TypeId->DataW Unit->Option (List Value)}{tr:TypeId->List Value->Option (DataW Unit×List MemPlace)}(ih : ∀ t d vs,f t d=some vs -> ∀ cs p,tr t cs=some (d,p)->cs=vs)(e:TypeId)(c:Nat)(cs:List Value) :
  ∀ (m i:Nat) (xs:List (DataW Unit×List MemPlace)) (vs:List Value),cs.length=(i+m)*c->(List.range' i m).mapM (fun i=>tr e ((cs.drop (i*c)).take c))=some xs->JC P f (List.replicate m e) (xs.map (·.1))=some vs->cs.drop (i*c)=vs:=by
 intro m;induction m with
 | zero=>intro i xs vs hc hm hl;simp only[List.range'_zero,List.mapM_nil,Option.pure_def,zBB]at hm;subst hm;simp only[List.replicate_zero,List.map_nil,JC,zBB]at hl;rw[<- hl,zQ (by rw[hc];simp)]
 | succ m ihm=>
  intro i xs vs hc hm hl;rw[List.range'_succ]at hm;obtain⟨y,ys,hy,hys,rfl⟩:=JK hm;rw[List.replicate_succ,List.map_cons]at hl;simp only[JC]at hl;cases h1:f e y.1 with
  | none=>rw[h1]at hl;contradiction
  | some v1=>
   rw[h1]at hl;cases h2:JC P f (List.replicate m e) (ys.map (·.1))with
   | none=>rw[h2]at hl;contradiction
   | some v2=>rw[h2]at hl;obtain rfl:=Option.some.inj hl;have e1:=ih _ _ _ h1 _ _ hy;have e2:=ihm (i+1) _ _ (by rw[hc];congr 1;omega) hys h2;rw[<- e1,<- e2,zBW,Nat.one_mul,<- List.drop_drop,List.take_append_drop]
theorem zt1 : ∀ (n:Nat) (t:TypeId) (d:DataW Unit) (vs:List Value),lits P n t d=some vs -> ∀ (fuel:Nat) (cs:List Value) (p:List MemPlace),DataW.trod (fun _=>()) P w 0 sp held fuel t cs=some (d,p)->cs=vs:=by
 intro n;induction n with
 | zero=>intro t d vs h;simp[lits]at h
 | succ n ih=>
  intro t d vs h fuel cs p ht;cases fuel with
  | zero=>simp[DataW.trod]at ht
  | succ fuel=>
   have ih' : ∀ t d vs,lits P n t d=some vs -> ∀ cs p,DataW.trod (fun _=>()) P w 0 sp held fuel t cs=some (d,p)->cs=vs:=fun t d vs h cs p hp=>ih t d vs h fuel cs p hp
   unfold lits at h;unfold DataW.trod at ht;cases hu:P.underlying t with
   | none=>rw[hu]at h;simp at h
   | some u=>
    rw[hu]at h ht;cases u with
    | bool=>
     match d,h with
     | .lit (.bool b),h=>
      obtain rfl:=Option.some.inj h
      match cs,ht with
      | [.bool b'],ht=>simp at ht;rw[ht.1]
    | int k=>
     match d,h with
     | .lit (.int k' z),h=>
      simp only at h;split at h
      ·next hk=>
       obtain rfl:=Option.some.inj h
       match cs,ht with
       | [.int k2 z2],ht=>
        simp only at ht;split at ht
        ·next h2=>simp at ht;rw[h2.1,ht.1.2]
        ·contradiction
      ·contradiction
    | struct fs=>
     match d,h with
     | .agg ds,h=>
      simp only at h ht;split at h
      ·next hc=>
       split at ht
       ·next hl=>
        rw[zB]at ht;obtain⟨xs,hm,hx⟩:=ht;simp only[zBC,DataW.agg.injEq]at hx;obtain⟨rfl,_⟩:=hx;exact zpo ih' _ cs hl _ 0 xs vs hc hm h
       ·contradiction
      ·contradiction
    | array m e=>
     match d,h with
     | .agg ds,h=>
      simp only at h ht;split at h
      ·next hc=>
       split at ht
       ·next hl=>
        rw[zB]at ht;obtain⟨xs,hm,hx⟩:=ht;simp only[zBC,DataW.agg.injEq]at hx;obtain⟨rfl,_⟩:=hx;rw[List.range_eq_range']at hm;have:=zqn ih' e (P.cellsOf e) cs m 0 xs vs (by rw[hl,hc];simp) hm h;simpa using this
       ·contradiction
      ·contradiction
    | _=>simp at h
end
def vOf:Value->V
 | .int k n => .int k n
 | .bool b => .bool b
 | _ => .nilp
def zpZ:Value->Bool
 | .int _ _=>true
 | .bool _=>true
 | _=>false
theorem zxN(S:G){v:Value}(h:zpZ v=true):Rep S (vOf v).toD v:=by cases v<;>first | exact .int _ _ | exact .bool _ | contradiction
theorem zsp{P:Program}{w:World} : ∀ {l:List (String×DataW Unit)} {ps:List MemPlace},DataW.LaidVars P w l ps -> ∀ {name:String} {d:DataW Unit},(name,d)∈l -> ∃ g t cs fuel p,P.globalNamed name=some g/\(P.globals[g]?).map (·.type)=some t/\w.var? P name=some cs/\DataW.trod (fun _=>()) P w 0 (fun _=>true) false fuel t cs.toList=some (d,p)
 | [],_,_,_,_,hm=>by simp at hm
 | (n,d)::r,ps,h,name,d',hm=>by
  obtain⟨g,t,cs,fuel,p,q,h1,h2,h3,h4,h5,_⟩:=h;rcases List.mem_cons.1 hm with e | hm
  ·obtain⟨rfl,rfl⟩:=Prod.mk.inj e;exact⟨g,t,cs,fuel,p,h1,h2,h3,h4⟩
  ·exact zsp h5 hm
theorem zsG{P:Program}{W:World}{laid:List (String×DataW Unit)}(h:laidMet P laid W){name:String}{d:DataW Unit}(hm:(name,d)∈laid){g:Nat}{t:TypeId}(hg:P.globalNamed name=some g)(ht:(P.globals[g]?).map (·.type)=some t){n:Nat}{vs:List Value}(hl:lits P n t d=some vs)(hp:vs.all zpZ=true){xs:List V}(hx:xs=vs.map vOf):Rep (G0 W) (.el (toDL xs)) (.pointer (some ⟨g,0,none⟩)):=by
 obtain⟨ps,hps,_⟩:=h;obtain⟨g',t',cs,fuel,p,h1,h2,h3,h4⟩:=zsp hps hm;obtain rfl:g=g':=Option.some.inj (hg.symm.trans h1);obtain rfl:t=t':=Option.some.inj (ht.symm.trans h2);have hcs:=zt1 n t d vs hl fuel cs.toList p h4;have hblk : ∃ e f,W.heap[g]?=some (.cells cs e f):=by
  unfold World.var? at h3;rw[hg]at h3;simp only[zD]at h3;split at h3
  ·next c e f hh=>obtain rfl:=Option.some.inj h3;exact⟨e,f,hh⟩
  ·contradiction
 obtain⟨e,f,hh⟩:=hblk;have hsz:cs.size=vs.length:=by rw[<- hcs];simp
 have hxl:(toDL xs).length=vs.length:=by rw[xW,hx,List.length_map]
 refine .el (toDL xs) g 0 (fun j=>vs[j]?.getD (.bool false)) (fun j hj => ?_) (fun j d hd => ?_) (.inr ?_)
 ·rw[hxl]at hj;have hv:vs[j]?=some vs[j]:=zL hj;have hc:cs[0+j]?=some vs[j]:=by rw[zBE,<- zCh,hcs,hv]
  show W.cell? ⟨g,0+j,none⟩=_;simp only[World.cell?,hh,hv,Option.getD_some,hc];rfl
 ·rw[zcM,hx,zBU]at hd;cases hv:vs[j]? with
  | none=>rw[hv]at hd;contradiction
  | some v=>rw[hv]at hd;obtain rfl:=Option.some.inj hd;show Rep (G0 W) (vOf v).toD ((some v).getD (.bool false));exact zxN _ (List.all_eq_true.1 hp v (List.mem_of_getElem? hv))
 ·show 0+(toDL xs).length<=(match W.heap[g]? with | some (.cells c _ _)=>c.size | _=>0);rw[hh,hxl];simp[hsz]
end
end Go.Ev
