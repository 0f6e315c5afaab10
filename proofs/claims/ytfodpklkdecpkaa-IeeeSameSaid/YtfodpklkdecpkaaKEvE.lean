/- The machines Ev and Pv, part 5: an abstract machine over the translated code, proved sound once. -/
import Derived.Test.YtfodpklkdecpkaaKEvD
import Derived.ChangeSlices
import Derived.OpenShut
set_option linter.all false
open Option renaming bind_eq_some_iff->zA,map_eq_some_iff->zB,map_some->zC,bind_some->zD
open Bool renaming false_eq_true->zF,and_eq_true->zG
open Nat renaming eq_of_beq_eq_true->zJ,le_refl->zR
open List renaming getElem?_eq_getElem->zL,getElem?_cons_succ->zN,mem_cons_of_mem->zP,mem_cons->zS,length_append->zZ
namespace Go.Ev
section
mutual
theorem toD_pure : ∀ x:V,x.toD.pure=true
 | .bool _=>rfl
 | .int _ _=>rfl
 | .float _ _=>rfl
 | .str _=>rfl
 | .nilp=>rfl
 | .nilf=>rfl
 | .nili=>rfl
 | .sl xs=>by simp only[V.toD,D.pure,Bool.true_and];exact flatD_pure xs
 | .agg xs=>by simp only[V.toD,D.pure];exact toDL_pure xs
 | .tup xs=>by simp only[V.toD,D.pure];exact toDL_pure xs
 | .fn _ c=>by simp only[V.toD,D.pure];exact toDL_pure c
 | .iface _ x=>by simp only[V.toD,D.pure];exact toD_pure x
theorem toDL_pure : ∀ l:List V,pureL (toDL l)=true
 | []=>rfl
 | x::r=>by simp only[toDL,pureL,toD_pure x,toDL_pure r,Bool.and_self]
theorem flatD_pure : ∀ l:List V,pureL (flatD l)=true
 | []=>rfl
 | x::r=>by
  have h:pureL x.toD.cells=true:=by have:=toD_pure x;cases hx:x.toD<;>rw[hx]at this<;>simp_all [D.cells,pureL,D.pure]
  simp only[flatD,pureL_app,h,flatD_pure r,Bool.and_self]
end
theorem tip_frz(s:St)(l:List Nat):(frz s l).tip=s.tip:=by
 induction l generalizing s with
 | nil=>rfl
 | cons k r ih=>simp only[frz];split<;>rw[ih];rfl
theorem frz_lw{s:St}{l:List Nat}{m:Nat}(hl : ∀ k∈l,m<=k)(h:m<=s.lw):m<=(frz s l).lw:=by
 induction l generalizing s with
 | nil=>exact h
 | cons k r ih=>
  simp only[frz];have hk:=hl k zz;split
  ·refine ih (fun j hj=>hl j (zP _ hj)) ?_;show m<=if k<s.lw then k else s.lw
   split<;>omega
  ·exact ih (fun j hj=>hl j (zP _ hj)) h
section
variable {ρ:Nat->Nat} {τ:Nat->Option Nat} {p:PSt} {st:St} {ρ':Type} {r:ρ'}
theorem refs_row{c:Cx}{q:PS}{e:D}(hr:RS c q e){x:V}(ho:q.outV p=some x)(hc:c.rk=rkOf p.rows) : ∀ b∈e.refs,∃ k,k<c.m/\rkOf p.rows k≠none/\b=c.ρ k:=by
 cases q;case ref k sz off n cp z=>
  obtain⟨hk,_,hdd,_⟩:=hr;intro b hb;rcases hdd with⟨rfl,_⟩ | ⟨_,rfl,_⟩
  ·simp only[D.refs,zS,List.not_mem_nil,or_false]at hb;refine⟨k,hk,?_,hb⟩;simp only[PS.outV]at ho;split at ho<;>try contradiction
   next fz szr xs hrr=>obtain⟨rr,h1,h2⟩:=rowR_some hrr;rw[rk_arr h1 h2];simp
  ·simp[D.refs,refsL]at hb
 case uref k sz n=>
  obtain⟨hk,⟨cp,_,rfl⟩,_⟩:=hr;intro b hb;simp only[D.refs,zS,List.not_mem_nil,or_false]at hb;refine⟨k,hk,?_,hb⟩;simp only[PS.outV]at ho;split at ho<;>try contradiction
  next fz szr xs hrr=>obtain⟨rr,h1,h2⟩:=rowR_some hrr;rw[rk_arr h1 h2];simp
 all_goals
  have:=PS.pure_ok hr ho;rw[(cl_of this (fun _=>none)).2];intro b hb;simp at hb
theorem refsL_row{c:Cx}{ps:List PS}{es:List D}(hr:RSL c ps es){l:List V}(ho:outL p ps=some l)(hc:c.rk=rkOf p.rows) : ∀ b∈refsL es,∃ k,k<c.m/\rkOf p.rows k≠none/\b=c.ρ k:=by
 induction ps generalizing es l with
 | nil=>cases es with
  | nil=>intro b hb;simp[refsL]at hb
  | cons _ _=>exact hr.elim
 | cons q r ih=>cases es with
  | nil=>exact hr.elim
  | cons d s=>
   simp only[outL]at ho;split at ho<;>try contradiction
   split at ho<;>try contradiction
   next x hx _ l' hl=>
    intro b hb;simp only[refsL,zr]at hb;rcases hb with hb | hb
    ·exact refs_row hr.1 hx hc b hb
    ·exact ih hr.2 hl b hb
theorem refsP_row{c:Cx}{q:PD}{e:D}(hr:RP c q e){x:V}(ho:q.outV p=some x)(hc:c.rk=rkOf p.rows) : ∀ b∈e.refs,∃ k,k<c.m/\rkOf p.rows k≠none/\b=c.ρ k:=by
 cases q with
 | s q=>exact refs_row hr ho hc
 | agg ps=>
  obtain⟨es,rfl,h1,_⟩:=hr;simp only[PD.outV]at ho;split at ho<;>try contradiction
  next l hl=>exact refsL_row h1 hl hc
theorem resK_ok(hS:Sim ρ τ p st){res:List R}{K:List V->Option ρ'}(h:resK p res K=some r) :
  ∃ l,K l=some r /\ ∃ es,resOf st res=some es/\clL st.mem es=toDL l /\ ∀ b∈refsL es,∃ k,k<p.rows.length/\rkOf p.rows k≠none/\b=ρ k:=by
 induction res generalizing K with
 | nil=>exact⟨[],h,[],rfl,rfl,fun b hb=>by simp[refsL]at hb⟩
 | cons a s ih=>
  have fin : ∀ {d:PD} {e:D} {x:V},RP (cxOf ρ τ p st) d e->d.outV p=some x->resK p s (fun l=>K (x::l))=some r ->
    ∃ l,K l=some r /\ ∃ es,resOf st s=some es/\clL st.mem (e::es)=toDL l /\ ∀ b∈refsL (e::es),∃ k,k<p.rows.length/\rkOf p.rows k≠none/\b=ρ k:=by
   intro d e x hr hx hh;obtain⟨l,h1,es,h2,h3,h4⟩:=ih hh;refine⟨x::l,h1,es,h2,by simp only[clL,toDL,outV_ok hS hr hx,h3],fun b hb => ?_⟩;simp only[refsL,zr]at hb;rcases hb with hb | hb
   ·exact refsP_row hr hx rfl b hb
   ·exact h4 b hb
  cases a with
  | tmp t=>
   simp only[resK]at h;split at h<;>try contradiction
   split at h<;>try contradiction
   next d hd _ x hx=>rw[getF_getP,zB]at hd;obtain⟨⟨f,d'⟩,h1,rfl⟩:=hd;obtain⟨e,he,hr⟩:=hS.tm t f d' h1;obtain⟨l,h2,es,h3,h4,h5⟩:=fin hr hx h;exact⟨l,h2,e::es,by simp[resOf,he,h3],h4,h5⟩
  | cell t ag sz=>
   simp only[resK]at h;split at h<;>try contradiction
   next d hd=>
    rw[getF_getP,zB]at hd;obtain⟨⟨f,d'⟩,h1,rfl⟩:=hd;obtain⟨e,he,hr⟩:=hS.tm t f d' h1;obtain⟨v,h2,w,h3,h4⟩:=loadK_ok hS hr h;split at h2<;>try contradiction
    next x hx=>obtain⟨l,h5,es,h6,h7,h8⟩:=fin h4 hx h2;exact⟨l,h5,w::es,by simp[resOf,he,h3,h6],h7,h8⟩
theorem argsT_get(as:List PA)(i t:Nat):getF (argsT i as) t=if i<=t then(as[t-i]?).map fun a=>(false,argD a)else none:=by
 induction as generalizing i with
 | nil=>simp[argsT,getF]
 | cons a r ih=>
  simp only[argsT,getF];cases hb:i.beq t with
  | true=>have:=zJ hb;subst this;simp
  | false=>
   have hne:i≠t:=fun e=>by subst e;rw[Nat.beq_refl]at hb;contradiction
   simp only;rw[ih];by_cases h:i<=t
   ·rw[zb h,zb (by omega),show t-i=(t-(i+1))+1 by omega,zN]
   ·rw[za h,za (by omega)]
theorem RAL_get{ρ:Nat->Nat}{n:Nat}{as:List PA}{ds:List D}(h:RAL ρ n as ds){i:Nat}{a:PA}(hi:as[i]?=some a) : ∃ d,ds[i]?=some d/\RA ρ n a d:=by
 induction as generalizing ds i with
 | nil=>simp at hi
 | cons b r ih=>cases ds with
  | nil=>exact h.elim
  | cons d s=>cases i with
   | zero=>simp at hi;subst hi;exact⟨d,by simp,h.1⟩
   | succ i=>simpa using ih h.2 (by simpa using hi)
theorem parsR_get(pars:List (Bool×Nat×V))(k:Nat):(parsR pars)[k]?=(pars[k]?).map fun e=>⟨e.1,parC e.2.1 e.2.2⟩:=by
 induction pars generalizing k with
 | nil=>simp[parsR]
 | cons e r ih=>obtain⟨a,b,c⟩:=e;cases k<;>simp_all [parsR]
theorem parsR_len(pars:List (Bool×Nat×V)):(parsR pars).length=pars.length:=by
 induction pars with
 | nil=>rfl
 | cons e r ih=>obtain⟨a,b,c⟩:=e;simp_all [parsR]
theorem parsR_arr(pars:List (Bool×Nat×V))(k:Nat):rkOf (parsR pars) k=none:=by
 cases h:(parsR pars)[k]? with
 | none=>simp only[rkOf,h]
 | some rw'=>have h':=h;rw[parsR_get,zB]at h';obtain⟨e,_,rfl⟩:=h';exact rkOf_none h (parC_arr _ _).1
theorem parsOut_ok{j0:Nat}{pars:List (Bool×Nat×V)}{ys:List V}(h:parsOut p j0 pars=some ys) : ∀ (j:Nat) (e:Bool×Nat×V),pars[j]?=some e -> ∃ y c,ys[j]?=some y/\rowR p (j0+j)=some c/\rowV c=some (e.2.1,y):=by
 induction pars generalizing j0 ys with
 | nil=>intro j e hj;simp at hj
 | cons a r ih=>
  obtain⟨f,n,x0⟩:=a;simp only[parsOut]at h;split at h<;>try contradiction
  split at h<;>try contradiction
  split at h<;>try contradiction
  split at h<;>try contradiction
  next c hc _ n' x hx _ hn _ l hl=>
   injection h with h;subst h;have hn:=zJ hn;subst hn;intro j e hj;cases j with
   | zero=>simp at hj;subst hj;exact⟨x,c,by simp,hc,hx⟩
   | succ j=>obtain⟨y,c',h1,h2,h3⟩:=ih hl j e (by simpa using hj);exact⟨y,c',by simpa using h1,by rw[<- Nat.add_assoc,Nat.add_right_comm];exact h2,h3⟩
def Md.isRaw:Md->Bool
 | .raw _=>true
 | _=>false
def Md.isGv:Md->Bool
 | .gv _=>true
 | _=>false
def lowF(pn:Bool)(md:Md)(f:Nat):Bool:=match pn with | true=>(match md with | .pl=>Nat.ble panN f | _=>false) | false=>Nat.blt f panN
def TabOk(E:Env)(md:Nat->Md)(tab:Nat->Nat->Option PFn):Prop := ∀ f k fn,tab f k=some fn->E.ext f=none/\E.dfr f=none/\lowF fn.pn (md f) f=true /\ ∃ np,E.fn f=some ⟨np,fn.res,(md f).isRaw,(md f).isGv,erase fn.body⟩
theorem lowF_ne{pn:Bool}{md:Md}{f:Nat}(h:lowF pn md f=true)(hm:md ≠ .pl):f<panN:=by
 unfold lowF at h;cases pn with
 | false=>simpa using h
 | true=>cases md<;>simp at h hm
theorem wrap_low{f:Nat}(h:f<panN)(d:D):wrapD f d=d:=by unfold wrapD;rw[za (by omega)]
theorem wrap_high{f:Nat}(h:panN<=f)(d:D):wrapD f d = .tup [.bool true,d]:=by unfold wrapD;rw[zb h]
def Tells(h:List D->List D->Option D)(g:List V->Option V):Md->Prop
 | .pl => ∀ ds xs y,g xs=some y->h ds (toDL xs)=some y.toD
 | .gv _=>True
 | .gvf sz => ∀ d ds xs,roomless d=true->g xs=some (.sl [])->h (d::ds) (toDL xs)=some (.sl (.ln 0 sz) 0 [])
 | .ful => ∀ d ds xs y,roomless d=true->g xs=some y->h (d::ds) (toDL xs)=some y.toD
 | .raw _=>True
 | .eff _=>True
def TxOk(E:Env)(gl:Gl)(tab:Nat->Nat->Option PFn):Prop:=(∀ f k g,tab f k=none->gl.tx f=some g -> ∃ h,E.ext f=some (.fn h)/\Tells h g (gl.md f)) /\ ∀ f e,gl.md f = .eff e->E.ext f=some (.eff e)
theorem told_toD(st:St)(y:V):told st y.toD=(y.toD,st):=by cases y<;>rfl
theorem valsA_ok{ρ:Nat->Nat}{n:Nat}{as:List PA}{ds:List D}(h:RAL ρ n as ds){xs:List V}(hx:valsA as=some xs):ds=toDL xs:=by
 induction as generalizing ds xs with
 | nil=>cases ds with
  | nil=>simp[valsA]at hx;subst hx;rfl
  | cons _ _=>exact h.elim
 | cons a r ih=>cases ds with
  | nil=>exact h.elim
  | cons d s=>
   cases a<;>simp only[valsA]at hx<;>try contradiction
   split at hx<;>try contradiction
   next l hl=>injection hx with hx;subst hx;have h1:d=_:=h.1;rw[toDL,h1,ih h.2 hl]
theorem extK_some{g:List V->Option V}{as:List PA}{pars:List (Bool×Nat×V)}{q:V×List V}(hk:extK g as pars=some q):pars=[] /\ ∃ xs y,valsA as=some xs/\g xs=some y/\q=(y,[]):=by
 unfold extK at hk;split at hk<;>try contradiction
 split at hk<;>try contradiction
 next xs hxs=>rw[zA]at hk;obtain⟨y,hy,hk⟩:=hk;injection hk with hk;exact⟨rfl,xs,y,hxs,hy,hk.symm⟩
theorem ext_ok{E:Env}{f:Nat}{g:List V->Option V}{h:List D->List D->Option D}(hx:E.ext f=some (.fn h))(hg : ∀ ds xs y,g xs=some y->h ds (toDL xs)=some y.toD){as:List PA}{pars:List (Bool×Nat×V)}{q:V×List V}(hk:extK g as pars=some q)
  (ρ:Nat->Nat) (st:St) (ds:List D) (ha:RAL ρ pars.length as (clL st.mem ds)) : ∃ st',callL E f ds st=some (.ret q.1.toD,st')/\CallGoes ρ pars q.2 st (frz st (refsL ds)) st':=by
 unfold extK at hk;split at hk<;>try contradiction
 split at hk<;>try contradiction
 next xs hxs=>rw[zA]at hk;obtain⟨y,hy,hk⟩:=hk;injection hk with hk;subst hk;refine⟨frz st (refsL ds),?_,tm_frz _ _,(Fr.frz _ _).lo,by rw[nx_frz];exact zR _,fun _ _ _=>rfl,fun l _=>by rw[tip_frz],fun m h _ _=>h,fun j e hj=>by simp at hj,fun _=>rfl⟩;rw[callL_ext hx,valsA_ok ha hxs,hg _ xs y hy];simp only[zC,told_toD]
theorem Fr.execL{E:Env}{c:C}{st st':St}{e:Ex}(h:execL E c st=some (e,st')):Fr st st':=by obtain⟨n,hn⟩:=execL_iff.1 h;refine Fr.exec (fun f ds st o st' h => ?_) hn;obtain⟨m,hm⟩:=callL_iff.1 h;exact Fq.call f ds st o st' hm
theorem one_cl{m:Mem}{es:List D}{l:List V}(h:clL m es=toDL l):(one es).cl m=(oneV l).toD:=by
 match es,l,h with
 | [],[],_=>rfl
 | [d],[x],h=>simpa[clL,toDL,one,oneV]using h
 | d::d'::es,x::x'::l,h=>simp only[one,oneV,D.cl,V.toD,h]
 | [],_::_,h=>simp[clL,toDL]at h
 | _::_,[],h=>simp[clL,toDL]at h
 | [_],_::_::_,h=>simp[clL,toDL]at h
 | _::_::_,[_],h=>simp[clL,toDL]at h
theorem one_refs(es:List D):(one es).refs=refsL es:=by
 match es with
 | []=>rfl
 | [d]=>simp[one,refsL]
 | d::d'::es=>simp[one,D.refs]
theorem body_ok{E:Env}{gl:Gl}{pc:PcT}(hg:GlR E gl)(hpc:PcOk E gl.md pc){f:Nat}{fn:PFn}{np:Nat}(hx:E.ext f=none)(hdf:E.dfr f=none)(hlow:lowF fn.pn .pl f=true)(hf:E.fn f=some ⟨np,fn.res,false,false,erase fn.body⟩){as:List PA}{pars:List (Bool×Nat×V)}{q:V×List V}
  (h:pexecK gl pc fn.body (enterP as pars) (finP fn.pn fn.res pars)=some q) (ρ:Nat->Nat) (st:St) (ds:List D) (ha:RAL ρ pars.length as (clL st.mem ds))
  (hp : ∀ (j:Nat) (e:Bool×Nat×V),pars[j]?=some e->ρ j<st.nx /\ ∃ o,(frz st (refsL ds)).mem (ρ j)=some o/\RPar e.2.1 e.2.2 o)
  (hi : ∀ i j,i<pars.length->j<pars.length->ρ i=ρ j->i=j) :
  ∃ st',callL E f ds st=some (.ret q.1.toD,st')/\CallGoes ρ pars q.2 st (frz st (refsL ds)) st':=by
 have hlen:(enterP as pars).rows.length=pars.length:=parsR_len pars;have hnx:(frz st (refsL ds)).nx=st.nx:=nx_frz _ _;have hS0:Sim ρ (fun _=>none) (enterP as pars) (enter ⟨np,fn.res,false,false,erase fn.body⟩ ds st):=by
  refine⟨fun t fl d ht => ?_,fun k hk => ?_,fun k rw' hk => ?_,fun j k hj hk h => ?_,fun i l h=>by contradiction,fun i j l h=>by contradiction⟩
  ·have ht:getF (argsT 0 as) t=some (fl,d):=ht;rw[argsT_get,zb (Nat.zero_le _),Nat.sub_zero,zB]at ht;obtain⟨a,h1,h2⟩:=ht;simp only[zi]at h2;obtain⟨rfl,rfl⟩:=h2;obtain⟨e,h3,h4⟩:=RAL_get ha h1;refine⟨e,?_,?_⟩
   ·show get (params 0 (clL st.mem ds)) t=some e;rw[get_params,zb (Nat.zero_le _),Nat.sub_zero];exact h3
   ·cases a with
    | v x=>have h4:e=x.toD:=h4;subst h4;exact toD_cl0 x
    | p j off=>exact⟨by show j<(enterP as pars).rows.length;rw[hlen];exact h4.1,h4.2⟩
    | fn f' cap=>obtain⟨es,rfl,h5⟩:=h4;exact⟨es,rfl,by show RCL ρ (enterP as pars).rows.length _ _;rw[hlen];exact h5⟩
    | o _ _=>exact h4.elim
    | g=>exact h4.elim
    | u=>exact h4.elim
  ·rw[hlen]at hk;obtain⟨e,he⟩:=get_lt hk;show ρ k<(frz st (refsL ds)).nx;rw[hnx];exact(hp k e he).1
  ·have hk:(parsR pars)[k]?=some rw':=hk;rw[parsR_get,zB]at hk;obtain⟨e,h1,rfl⟩:=hk;obtain⟨_,o,h2,h3⟩:=hp k e h1;exact⟨o,.inr h2,parC_ok h3⟩
  ·rw[hlen]at hj hk;exact hi j k hj hk h
 have hw0:Wf (enterP as pars):=by
  refine⟨fun t d ht => ?_,fun k rw' hk _ => ?_⟩
  ·have ht:getF (argsT 0 as) t=some (true,d):=ht;rw[argsT_get,zb (Nat.zero_le _),zB]at ht;obtain⟨a,_,h2⟩:=ht;simp at h2
  ·have hk:(parsR pars)[k]?=some rw':=hk;rw[parsR_get,zB]at hk;obtain⟨e,_,rfl⟩:=hk;exact(parC_arr _ _).2
 obtain⟨x,p',h1,s,ρ1,τ1,h2,h3⟩:=pexec_ok hg hpc fn.body hS0 hw0 h
 -- what is told
 have refs : ∀ {es:List D},(∀ b∈refsL es,∃ k,k<p'.rows.length/\rkOf p'.rows k≠none/\b=ρ1 k) -> ∀ b∈refsL es,st.nx<=b:=by
  intro es h7 b hb;obtain⟨k,hk1,hk2,rfl⟩:=h7 b hb;rcases zj k (enterP as pars).rows.length with hk | hk
  ·exfalso;rcases h3.rk k hk with e | e
   ·rw[e]at hk2;exact hk2 (parsR_arr pars k)
   ·exact hk2 e
  ·have:=h3.ρn k hk hk1;have hn0:(enter ⟨np,fn.res,false,false,erase fn.body⟩ ds st).nx=st.nx:=hnx;rw[hn0]at this;exact this
 obtain⟨ys,rd,hys,hq2,hcl,hrefs,hcall⟩ : ∃ (ys:List V) (rd:D),parsOut p' 0 pars=some ys/\q.2=ys/\rd.cl s.mem=q.1.toD/\(∀ b∈rd.refs,st.nx<=b) /\
   callL E f ds st=some (.ret (leave ⟨np,fn.res,false,false,erase fn.body⟩ (frz st (refsL ds)) s rd).1,(leave ⟨np,fn.res,false,false,erase fn.body⟩ (frz st (refsL ds)) s rd).2):=by
  cases hpn:fn.pn with
  | false=>
   rw[hpn]at h1 hlow;have hlt:f<panN:=by simpa[lowF]using hlow
   have hfin:(x = .nrm\/x = .ret) /\ ∃ ys,parsOut p' 0 pars=some ys/\(resK p' fn.res fun l=>some (oneV l,ys))=some q:=by
    cases x with
    | ext i=>simp[finP,finK]at h1
    | nrm=>
     refine⟨.inl rfl,?_⟩;simp only[finP,finK]at h1;split at h1<;>try contradiction
     next ys hys=>exact⟨ys,hys,h1⟩
    | ret=>
     refine⟨.inr rfl,?_⟩;simp only[finP,finK]at h1;split at h1<;>try contradiction
     next ys hys=>exact⟨ys,hys,h1⟩
   obtain⟨hxx,ys,hys,hres⟩:=hfin;obtain⟨l,h4,es,h5,h6,h7⟩:=resK_ok h3.sim hres;injection h4 with h4;subst h4;refine⟨ys,one es,hys,rfl,one_cl h6,by rw[one_refs];exact refs h7,?_⟩;rw[callL_fn hx hdf hf];simp only[h2];rcases hxx with rfl | rfl<;>simp only[exOf,resC,h5,wrap_low hlt,zC]<;>rfl
  | true=>
   rw[hpn]at h1 hlow;have hle:panN<=f:=by simpa[lowF]using hlow
   have ret:(x = .nrm\/x = .ret)->finP true fn.res pars .ret p'=some q -> ∃ (ys:List V) (rd:D),parsOut p' 0 pars=some ys/\q.2=ys/\rd.cl s.mem=q.1.toD/\(∀ b∈rd.refs,st.nx<=b) /\
     callL E f ds st=some (.ret (leave ⟨np,fn.res,false,false,erase fn.body⟩ (frz st (refsL ds)) s rd).1,(leave ⟨np,fn.res,false,false,erase fn.body⟩ (frz st (refsL ds)) s rd).2):=fun hxx h1=>by
    have hfin : ∃ ys,parsOut p' 0 pars=some ys/\(resK p' fn.res fun l=>some (.tup [.bool true,oneV l],ys))=some q:=by
     simp only[finP]at h1;split at h1<;>try contradiction
     next ys hys=>exact⟨ys,hys,h1⟩
    obtain⟨ys,hys,hres⟩:=hfin;obtain⟨l,h4,es,h5,h6,h7⟩:=resK_ok h3.sim hres;injection h4 with h4;subst h4;have hc:=one_cl h6;have hr:=one_refs es;refine⟨ys,.tup [.bool true,one es],hys,rfl,by simp only[D.cl,clL,hc,V.toD,toDL],by simp only[D.refs,refsL,hr,List.nil_append,List.append_nil];exact refs h7,?_⟩;rw[callL_fn hx hdf hf];simp only[h2];rcases hxx with rfl | rfl<;>simp only[exOf,resC,h5,wrap_high hle,zC]<;>rfl
   cases x with
   | nrm=>exact ret (.inl rfl) h1
   | ret=>exact ret (.inr rfl) h1
   | ext i=>
    simp only[finP]at h1;split at h1<;>try contradiction
    next hi=>
     have hi:=zJ hi;subst hi;split at h1<;>try contradiction
     next ys hys=>obtain⟨l,h4,es,h5,h6,h7⟩:=resK_ok h3.sim h1;injection h4 with h4;subst h4;simp only[resOf,zD,zA,zh]at h5;obtain⟨d,hd,rfl⟩:=h5;have hc:d.cl s.mem=(oneV l).toD:=one_cl (es:=[d]) h6;refine⟨ys,.tup [.bool false,d],hys,rfl,by simp only[D.cl,clL,hc,V.toD,toDL],fun b hb=>refs h7 b (by simpa[D.refs,refsL]using hb),?_⟩;rw[callL_fn hx hdf hf];simp only[h2,exOf,hd,zC];rw[zb ⟨trivial,hle⟩];rfl
 have hfr:=Fr.execL h2;have hslo:s.lo=st.nx:=h3.lo;have hρ : ∀ j,j<pars.length->ρ1 j=ρ j:=fun j hj=>h3.ρs j (by rw[hlen];exact hj)
 have hmem : ∀ b,b<st.nx->(∀ (j:Nat) (e:Bool×Nat×V),pars[j]?=some e->ρ j=b->e.1=true)->s.mem b=(frz st (refsL ds)).mem b:=by intro b hb hr;refine h3.mem b (by show b<(frz st (refsL ds)).nx;rw[hnx];exact hb) (fun k rw' hk hkb => ?_);have hk:(parsR pars)[k]?=some rw':=hk;rw[parsR_get,zB]at hk;obtain⟨e,h8,rfl⟩:=hk;exact hr k e h8 hkb
 have htip : ∀ l,l<st.nx->s.tip l=st.tip l:=by intro l hl;rw[h3.tip l (by show l<(frz st (refsL ds)).nx;rw[hnx];exact hl) (fun i=>by simp)];show(frz st (refsL ds)).tip l=_;rw[tip_frz]
 have hlw : ∀ m,m<=st.nx->(∀ (j:Nat) (e:Bool×Nat×V),pars[j]?=some e->e.1=false->m<=ρ j)->m<=s.lw:=by
  intro m hm hr;refine h3.lw m hm (by show m<=(frz st (refsL ds)).nx;rw[hnx];exact hm) (fun k rw' hk hro => ?_) (fun i l h=>by contradiction);have hk':(parsR pars)[k]?=some rw':=hk;rw[parsR_get,zB]at hk';obtain⟨e,h8,rfl⟩:=hk';rcases hro with hro | hro
  ·exact hr k e h8 hro
  ·rw[(parC_arr _ _).1]at hro;contradiction
 have hpar : ∀ (j:Nat) (e:Bool×Nat×V),pars[j]?=some e -> ∃ y o,q.2[j]?=some y/\s.mem (ρ j)=some o/\RPar e.2.1 y o:=by intro j e hj;obtain⟨y,c,h8,h9,h10⟩:=parsOut_ok (hq2▸hys) j e hj;rw[zk]at h9;obtain⟨o,ho,hrw⟩:=h3.sim.row h9 (rowV_arr h10).2;rw[hρ j (getElem?_lt hj)]at ho;exact⟨y,o,h8,ho,rowV_ok hrw h10⟩
 have hfmem : ∀ b,b<st.nx->(frz s rd.refs).mem b=s.mem b:=by intro b hb;exact frz_other _ _ _ (fun hm=>by have:=hrefs b hm;omega)
 have hflw : ∀ m,m<=st.nx->m<=s.lw->m<=(frz s rd.refs).lw:=fun m hm h=>frz_lw (fun k hk=>zp hm (hrefs k hk)) h
 have hpure:(rd.cl s.mem).pure=true:=by rw[hcl];exact toD_pure _
 by_cases hlo:(frz s rd.refs).lw<s.lo
 ·-- rows of the caller were touched
  refine⟨{ frz s rd.refs with tm:=(frz st (refsL ds)).tm,lo:=(frz st (refsL ds)).lo,lw:=if(frz s rd.refs).lw<(frz st (refsL ds)).lw then(frz s rd.refs).lw else(frz st (refsL ds)).lw },?_,tm_frz _ _,(Fr.frz _ _).lo,?_,fun b hb hr => ?_,fun l hl => ?_,fun m h8 h9 h10 => ?_,fun j e hj => ?_,fun hall => ?_⟩
  ·rw[hcall];simp only[leave,zF,zd,hpure,Bool.true_and,zH];rw[za (fun h=>h hlo),hcl]
  ·show st.nx<=(frz s rd.refs).nx;rw[nx_frz];have:=h3.nx;have hn0:(enter ⟨np,fn.res,false,false,erase fn.body⟩ ds st).nx=st.nx:=hnx;rw[hn0]at this;exact this
  ·show(frz s rd.refs).mem b=_;rw[hfmem b hb];exact hmem b hb hr
  ·show(frz s rd.refs).tip l=_;rw[tip_frz];exact htip l hl
  ·show m<=if(frz s rd.refs).lw<(frz st (refsL ds)).lw then(frz s rd.refs).lw else(frz st (refsL ds)).lw
   have:=hflw m h9 (hlw m h9 h10);split<;>omega
  ·obtain⟨y,o,h8,h9,h10⟩:=hpar j e hj;exact⟨y,o,h8,by show(frz s rd.refs).mem (ρ j)=_;rw[hfmem _ (hp j e hj).1];exact h9,h10⟩
  ·exfalso;have:=hflw st.nx (zR _) (hlw st.nx (zR _) (fun j e hj he=>by rw[hall j e hj]at he;contradiction));omega
 ·refine⟨frz st (refsL ds),?_,tm_frz _ _,(Fr.frz _ _).lo,by rw[hnx];exact zR _,fun _ _ _=>rfl,fun l _=>by rw[tip_frz],fun m h _ _=>h,fun j e hj => ?_,fun _=>rfl⟩
  ·rw[hcall];simp only[leave,zF,zd,hpure,Bool.true_and,zH];rw[zb hlo,hcl]
  ·obtain⟨y,o,h8,h9,h10⟩:=hpar j e hj;refine⟨y,o,h8,?_,h10⟩;have hlt:=(hp j e hj).1;have hl1:(frz s rd.refs).lw<=s.lw:=(Fr.frz s _).lw;have:s.mem (ρ j)=(enter ⟨np,fn.res,false,false,erase fn.body⟩ ds st).mem (ρ j):=hfr.mem (ρ j) (by show ρ j<(frz st (refsL ds)).nx;rw[hnx];exact hlt) (by omega);rw[<- h9,this];rfl
theorem finG_ok{sz:Nat}{res:List R}{x:PEx}{q:V×List V}(h:finG sz res x p=some q):(x = .nrm\/x = .ret) /\ ∃ t d xs,res=[.tmp t]/\getP p.tm t=some (.s d)/\((∃ id,d = .own id sz xs)\/d = .full xs/\szOk sz xs=true)/\q=(.sl xs,[]):=by
 have hx:x = .nrm\/x = .ret:=by
  cases x with
  | ext i=>simp[finG]at h
  | nrm=>exact .inl rfl
  | ret=>exact .inr rfl
 have h':finG sz res .nrm p=some q:=by rcases hx with rfl | rfl<;>exact h
 refine⟨hx,?_⟩;clear h;simp only[finG]at h';split at h'<;>try contradiction
 next t=>
  split at h'<;>try contradiction
  next id sz' xs hp=>
   split at h'<;>try contradiction
   next hz=>injection h' with h';have hz:=zJ hz;subst hz;exact⟨t,_,xs,rfl,hp,.inl ⟨id,rfl⟩,h'.symm⟩
  next xs hp=>obtain⟨hz,h'⟩:=tst_some h';injection h' with h';exact⟨t,_,xs,rfl,hp,.inr ⟨rfl,hz⟩,h'.symm⟩
theorem finW_ok{res:List R}{x:PEx}{q:V×List V}(h:finW res x p=some q):(x = .nrm\/x = .ret) /\ ∃ t d y,res=[.tmp t]/\getP p.tm t=some d/\d.pureV=some y/\q=(y,[]):=by
 have hx:x = .nrm\/x = .ret:=by
  cases x with
  | ext i=>simp[finW]at h
  | nrm=>exact .inl rfl
  | ret=>exact .inr rfl
 have h':finW res .nrm p=some q:=by rcases hx with rfl | rfl<;>exact h
 refine⟨hx,?_⟩;clear h;simp only[finW]at h';split at h'<;>try contradiction
 next t=>
  split at h'<;>try contradiction
  next d hp=>
   split at h'<;>try contradiction
   next y hy=>injection h' with h';exact⟨t,d,y,rfl,hp,hy,h'.symm⟩
theorem body_g{E:Env}{gl:Gl}{pc:PcT}(hg:GlR E gl)(hpc:PcOk E gl.md pc){f:Nat}{fn:PFn}{np:Nat}(hx:E.ext f=none)(hdf:E.dfr f=none)(hlt:f<panN)(hf:E.fn f=some ⟨np,fn.res,false,true,erase fn.body⟩){sz:Nat}{as:List PA}{q:V×List V}
  (h:pexecK gl pc fn.body (enterP as []) (finG sz fn.res)=some q) (ρ:Nat->Nat) (st:St) (ds:List D) (ha:RAL ρ 0 as (clL st.mem ds)) :
  ∃ ys cs,q.1 = .sl ys/\cl0L cs=flatD ys/\szOk sz ys=true /\ ∃ g st',callL E f ds st=some (.ret (.sl g ys.length cs),st') /\
  (g = .full/\st'=frz st (refsL ds)\/g = .ln (frz st (refsL ds)).nx sz/\st'={ frz st (refsL ds)with tip:=upd (frz st (refsL ds)).tip (frz st (refsL ds)).nx ys.length,nx:=(frz st (refsL ds)).nx+1 }):=by
 have hnx:(frz st (refsL ds)).nx=st.nx:=nx_frz _ _;have hS0:Sim ρ (fun _=>none) (enterP as []) (enter ⟨np,fn.res,false,true,erase fn.body⟩ ds st):=by
  refine⟨fun t fl d ht => ?_,fun k hk => ?_,fun k rw' hk => ?_,fun j k hj hk h => ?_,fun i l h=>by contradiction,fun i j l h=>by contradiction⟩
  ·have ht:getF (argsT 0 as) t=some (fl,d):=ht;rw[argsT_get,zb (Nat.zero_le _),Nat.sub_zero,zB]at ht;obtain⟨a,h1,h2⟩:=ht;simp only[zi]at h2;obtain⟨rfl,rfl⟩:=h2;obtain⟨e,h3,h4⟩:=RAL_get ha h1;refine⟨e,?_,?_⟩
   ·show get (params 0 (clL st.mem ds)) t=some e;rw[get_params,zb (Nat.zero_le _),Nat.sub_zero];exact h3
   ·cases a with
    | v x=>have h4:e=x.toD:=h4;subst h4;exact toD_cl0 x
    | p j off=>exact absurd h4.1 (Nat.not_lt_zero _)
    | fn f' cap=>obtain⟨es,rfl,h5⟩:=h4;exact⟨es,rfl,h5⟩
    | o _ _=>exact h4.elim
    | g=>exact h4.elim
    | u=>exact h4.elim
  ·exact absurd hk (Nat.not_lt_zero _)
  ·simp[enterP,parsR]at hk
  ·exact absurd hj (Nat.not_lt_zero _)
 have hw0:Wf (enterP as []):=by
  refine⟨fun t d ht => ?_,fun k rw' hk _ => ?_⟩
  ·have ht:getF (argsT 0 as) t=some (true,d):=ht;rw[argsT_get,zb (Nat.zero_le _),zB]at ht;obtain⟨a,_,h2⟩:=ht;simp at h2
  ·simp[enterP,parsR]at hk
 obtain⟨x,p',h1,s,ρ1,τ1,h2,h3⟩:=pexec_ok hg hpc fn.body hS0 hw0 h;obtain⟨hxx,t,d0,xs,hres,hp,hdd,rfl⟩:=finG_ok h1;rw[getF_getP,zB]at hp;obtain⟨⟨fl,d⟩,hp,hd⟩:=hp;have hd:d = .s d0:=hd;subst hd;obtain⟨e,he,hre⟩:=h3.sim.tm t fl _ hp;obtain⟨g,cs,rfl,hcs,hsz,hg2⟩ : ∃ g cs,e = .sl g xs.length cs/\cl0L cs=flatD xs/\szOk sz xs=true/\(g = .full \/ ∃ id l,g = .ln l sz/\τ1 id=some l/\s.tip l=some xs.length):=by
  rcases hdd with⟨id,rfl⟩ | ⟨rfl,hz⟩
  ·obtain⟨g,cs,rfl,hcs,hsz,hid,hg2⟩:=hre;exact⟨g,cs,rfl,hcs,hsz,hg2.imp (fun h=>h) (fun⟨l,h1,h2,h3⟩=>⟨_,l,h1,h2,h3⟩)⟩
  ·obtain⟨cs,rfl,hcs⟩:=hre;exact⟨.full,cs,rfl,hcs,hz,.inl rfl⟩
 obtain⟨hcl,hrf⟩:=clL_flat hcs s.mem;have hslo:s.lo=st.nx:=h3.lo;have hlw : ¬ s.lw<s.lo:=by have:=h3.lw st.nx (zR _) (by show st.nx<=(frz st (refsL ds)).nx;rw[hnx];exact zR _) (fun k rw' hk _=>by simp[enterP,parsR]at hk) (fun i l h=>by contradiction);omega
 have hpure:pureL (clL s.mem cs)=true:=by rw[hcl];exact flatD_pure xs
 have hr:resOf s fn.res=some [.sl g xs.length cs]:=by rw[hres];simp only[resOf,he,zD]
 have hcall:callL E f ds st=some (.ret (leave ⟨np,fn.res,false,true,erase fn.body⟩ (frz st (refsL ds)) s (.sl g xs.length cs)).1,(leave ⟨np,fn.res,false,true,erase fn.body⟩ (frz st (refsL ds)) s (.sl g xs.length cs)).2):=by rw[callL_fn hx hdf hf];simp only[h2];rcases hxx with rfl | rfl<;>simp only[exOf,resC,hr,wrap_low hlt,zC]<;>rfl
 refine⟨xs,flatD xs,rfl,flatD_cl0 xs,hsz,?_⟩;rcases hg2 with rfl | ⟨id,l,rfl,hτ,htip⟩
 ·refine⟨.full,frz st (refsL ds),?_,.inl ⟨rfl,rfl⟩⟩;rw[hcall];simp only[leave,zc,hrf,frz];rw[zb ⟨hpure,hlw⟩,hcl]
 ·have hl:s.lo<=l:=by
   rcases h3.τn id l hτ with⟨j,hj⟩ | hj
   ·contradiction
   ·have hj:(frz st (refsL ds)).nx<=l:=hj;omega
  have htip:s.tip l=some xs.length:=htip;refine⟨_,_,?_,.inr ⟨rfl,rfl⟩⟩;rw[hcall];simp only[leave,zc,hrf,frz];rw[zb ⟨htip,hpure,hlw,hl⟩,hcl]
def lnOf:Tg->Option Nat
 | .ln l _=>some l
 | _=>none
theorem body_w{E:Env}{gl:Gl}{pc:PcT}(hg:GlR E gl)(hpc:PcOk E gl.md pc){f:Nat}{fn:PFn}{np:Nat}(hx:E.ext f=none)(hdf:E.dfr f=none)(hlt:f<panN)(hf:E.fn f=some ⟨np,fn.res,true,false,erase fn.body⟩){sz:Nat}{ys xs:List V}{q:V×List V}
  (h:pexecK gl pc fn.body (enterP (.o sz ys::xs.map PA.v) []) (finW fn.res)=some q) (st:St) (g:Tg) (cs es:List D) (hcs:cl0L cs=flatD ys) (hsz:szOk sz ys=true) (ht:TipOf sz ys.length st g) (hes:cl0L es=toDL xs) :
  ∃ d st',callL E f (.sl g ys.length cs::es) st=some (.ret d,st')/\d.cl0=q.1.toD/\RawGoes sz g st st':=by
 obtain⟨τ0,hτd⟩ : ∃ τ0:Nat->Option Nat,∀ i,τ0 i=if i=0 then lnOf g else none:=⟨_,fun _=>rfl⟩
 have hτ0 : ∀ i l,τ0 i=some l->i=0/\g = .ln l sz/\l<st.nx:=by
  intro i l h;rw[hτd]at h;split at h<;>try contradiction
  next hi=>
   rcases ht with rfl | ⟨l',rfl,h1,h2⟩
   ·simp[lnOf]at h
   ·simp only[lnOf,zh]at h;subst h;exact⟨hi,rfl,h1⟩
 have hS0:Sim (fun k=>k) τ0 (enterP (.o sz ys::xs.map PA.v) []) (enter ⟨np,fn.res,true,false,erase fn.body⟩ (.sl g ys.length cs::es) st):=by
  refine⟨fun t fl d htt => ?_,fun k hk => ?_,fun k rw' hk => ?_,fun j k hj hk h => ?_,fun i l h => ?_,fun i j l h k => ?_⟩
  ·have htt:getF (argsT 0 (.o sz ys::xs.map PA.v)) t=some (fl,d):=htt;rw[argsT_get,zb (Nat.zero_le _),Nat.sub_zero,zB]at htt;obtain⟨a,h1,h2⟩:=htt;simp only[zi]at h2;obtain⟨rfl,rfl⟩:=h2;have hget:get (params 0 (.sl g ys.length cs::es)) t=(.sl g ys.length cs::es)[t]?:=by rw[get_params,zb (Nat.zero_le _),Nat.sub_zero]
   cases t with
   | zero=>
    simp at h1;subst h1;refine⟨.sl g ys.length cs,hget,g,cs,rfl,hcs,hsz,yd _,?_⟩;rcases ht with h | ⟨l,h,h1,h2⟩
    ·exact .inl h
    ·exact .inr ⟨l,h,by show τ0 0=_;rw[hτd,zb rfl,h];rfl,h2⟩
   | succ t=>
    simp only[zN,zx,zB]at h1;obtain⟨x,h1,rfl⟩:=h1;have h3:(cl0L es)[t]?=some x.toD:=by rw[hes,toDL_get,h1];rfl
    rw[cl0L_get,zB]at h3;obtain⟨e,h4,h5⟩:=h3;exact⟨e,hget.trans (by simpa using h4),h5⟩
  ·exact absurd hk (Nat.not_lt_zero _)
  ·simp[enterP,parsR]at hk
  ·exact absurd hj (Nat.not_lt_zero _)
  ·obtain⟨h1,_,h2⟩:=hτ0 i l h;exact⟨by subst h1;exact yd _,h2⟩
  ·exact(hτ0 i l h).1.trans (hτ0 j l k).1.symm
 have hw0:Wf (enterP (.o sz ys::xs.map PA.v) []):=by
  refine⟨fun t d htt => ?_,fun k rw' hk _ => ?_⟩
  ·have htt:getF (argsT 0 (.o sz ys::xs.map PA.v)) t=some (true,d):=htt;rw[argsT_get,zb (Nat.zero_le _),zB]at htt;obtain⟨a,_,h2⟩:=htt;simp at h2
  ·simp[enterP,parsR]at hk
 obtain⟨x,p',h1,s,ρ1,τ1,h2,h3⟩:=pexec_ok hg hpc fn.body hS0 hw0 h;obtain⟨hxx,t,d,y,hres,hp,hy,rfl⟩:=finW_ok h1;rw[getF_getP,zB]at hp;obtain⟨⟨fl,d'⟩,hp,hd⟩:=hp;have hd:d'=d:=hd;subst hd;obtain⟨e,he,hr⟩:=h3.sim.tm t fl _ hp;have hr2:resOf s fn.res=some [e]:=by rw[hres];simp only[resOf,he,zD]
 refine⟨e,{ s with tm:=st.tm,lo:=st.lo,lw:=if s.lw<st.lw then s.lw else st.lw },?_,PD.pure_ok hr hy,rfl,rfl,h3.nx,fun b hb => ?_,fun l hl hne => ?_,fun m hm1 hm2 hm3 => ?_⟩
 ·rw[callL_fn hx hdf hf];simp only[h2];rcases hxx with rfl | rfl<;>simp only[exOf,resC,hr2,wrap_low hlt,zC]<;>rfl
 ·exact h3.mem b hb (fun k rw' hk _=>by simp[enterP,parsR]at hk)
 ·exact h3.tip l hl (fun i h=>hne (hτ0 i l h).2.1)
 ·have:=h3.lw m hm2 hm2 (fun k rw' hk _=>by simp[enterP,parsR]at hk) (fun i l h=>hm3 l (hτ0 i l h).2.1);show m<=if s.lw<st.lw then s.lw else st.lw
  split<;>omega
theorem pcN_ok{E:Env}{gl:Gl}{tab:Nat->Nat->Option PFn}(hg:GlR E gl)(ht:TabOk E gl.md tab)(hx0:TxOk E gl tab)(n:Nat):PcOk E gl.md (pcN gl tab n):=by
 induction n with
 | zero=>exact⟨fun f as pars r h=>by simp[pcN]at h,fun f sz ds _ as q h=>by simp[pcN]at h,fun f sz ys xs q _ h=>by simp[pcN]at h,fun f as q _ h=>by simp[pcN]at h,fun f sz d ds _ _ as q h=>by simp[pcN]at h,hx0.2⟩
 | succ n ih=>
  have noG : ∀ {ρ:Nat->Nat} {n:Nat} {as:List PA} {st:St} {ds:List D},RAL ρ n (.g::as) (clL st.mem ds)->False:=by
   intro ρ n as st ds ha;cases hd:clL st.mem ds with
   | nil=>rw[hd]at ha;exact ha.elim
   | cons _ _=>rw[hd]at ha;exact ha.1.elim
  have noU : ∀ {ρ:Nat->Nat} {n:Nat} {as:List PA} {st:St} {ds:List D},RAL ρ n (.u::as) (clL st.mem ds)->False:=by
   intro ρ n as st ds ha;cases hd:clL st.mem ds with
   | nil=>rw[hd]at ha;exact ha.elim
   | cons _ _=>rw[hd]at ha;exact ha.1.elim
  have noO : ∀ {ρ:Nat->Nat} {n sz:Nat} {xs:List V} {as:List PA} {st:St} {ds:List D},RAL ρ n (.o sz xs::as) (clL st.mem ds)->False:=by
   intro ρ n sz xs as st ds ha;cases hd:clL st.mem ds with
   | nil=>rw[hd]at ha;exact ha.elim
   | cons _ _=>rw[hd]at ha;exact ha.1.elim
  refine⟨fun f as pars r h ρ st ds ha hp hi => ?_,fun f sz ds hm as q h ρ st ha => ?_,fun f sz ys xs q hm h st g cs es hcs hsz htt hes => ?_,fun f as q hm h ρ st d ds hd ha => ?_,fun f sz d ds hm hd as q h ρ st ha => ?_,hx0.2⟩
  ·simp only[pcN]at h;split at h;case h_2 hfn=>
    split at h<;>try contradiction
    next g hgx=>
     obtain⟨k,hk,hgk⟩:=hx0.1 f _ g hfn hgx;unfold tellK at h;split at h
     ·next hm=>rw[hm]at hgk;exact ext_ok hk hgk h ρ st ds ha
     ·contradiction
     ·split at h<;>try contradiction
      exact(noG ha).elim
     ·split at h<;>try contradiction
      exact(noU ha).elim
     ·contradiction
     ·contradiction
   next fn hfn=>
    obtain⟨hx,hdf,hlow,np,hf⟩:=ht f _ fn hfn;unfold bodyK at h;split at h
    ·next hm=>
     rw[hm]at hf hlow;exact body_ok hg ih hx hdf hlow hf h ρ st ds ha hp hi
    ·split at h<;>try contradiction
     exact(noG ha).elim
    ·split at h<;>try contradiction
     exact(noO ha).elim
    ·contradiction
    ·contradiction
    ·contradiction
  ·simp only[pcN]at h;split at h;case h_2 hfn=>
    split at h<;>try contradiction
    simp only[hm,tellK]at h;contradiction
   next fn hfn=>obtain⟨hx,hdf,hlow,np,hf⟩:=ht f _ fn hfn;rw[hm]at hf hlow;simp only[hm,bodyK]at h;exact body_g hg ih hx hdf (lowF_ne hlow (by simp)) hf h ρ st ds ha
  ·simp only[pcN]at h;split at h;case h_2 hfn=>
    split at h<;>try contradiction
    simp only[hm,tellK]at h;contradiction
   next fn hfn=>
    obtain⟨hx,hdf,hlow,np,hf⟩:=ht f _ fn hfn;rw[hm]at hf hlow;simp only[hm,bodyK]at h;split at h<;>try contradiction
    exact body_w hg ih hx hdf (lowF_ne hlow (by simp)) hf h st g cs es hcs hsz htt hes
  ·simp only[pcN]at h;split at h;case h_2 hfn=>
    split at h<;>try contradiction
    next g hgx=>obtain⟨k,hk,hgk⟩:=hx0.1 f _ g hfn hgx;simp only[hm,tellK]at h;rw[hm]at hgk;obtain⟨_,xs,y,h1,h2,rfl⟩:=extK_some h;rw[callL_ext hk,valsA_ok ha h1,hgk d ds xs y hd h2];simp only[zC,told_toD]
   next fn hfn=>simp only[hm,bodyK]at h;contradiction
  ·simp only[pcN]at h;split at h;case h_2 hfn=>
    split at h<;>try contradiction
    next g hgx=>
     obtain⟨k,hk,hgk⟩:=hx0.1 f _ g hfn hgx;simp only[hm,tellK]at h;rw[hm]at hgk;rw[zA]at h;obtain⟨q',hq',h⟩:=h;obtain⟨_,xs,y,h1,h2,rfl⟩:=extK_some hq';split at h<;>try contradiction
     next hy=>have hy:y = .sl []:=hy;subst hy;injection h with h;subst h;refine⟨[],[],rfl,rfl,rfl,.ln (frz st (refsL (d::ds))).nx sz,{ frz st (refsL (d::ds))with tip:=upd (frz st (refsL (d::ds))).tip (frz st (refsL (d::ds))).nx 0,nx:=(frz st (refsL (d::ds))).nx+1 },?_,.inr ⟨rfl,rfl⟩⟩;rw[callL_ext hk,valsA_ok ha h1,hgk d ds xs hd h2];rfl
   next fn hfn=>simp only[hm,bodyK]at h;contradiction
theorem pexecK_mono{gl:Gl}{pc pc':PcT}(h : ∀ f as pars r,pc f as pars=some r->pc' f as pars=some r){c:PC}{p:PSt}{K:PEx->PSt->Option ρ'}{r:ρ'}(hr:pexecK gl pc c p K=some r):pexecK gl pc' c p K=some r:=by
 rw[pexecK_nat,zA]at hr ⊢;obtain⟨q,hq,hr⟩:=hr;have hl:Lim (fun _=>pc') pc:=fun f as pars r hh => .all fun _=>h f as pars r hh
 obtain⟨n,hn⟩:=pexecD_lim hl c hq;exact⟨q,hn n (zR n),hr⟩
theorem bodyK_mono{gl:Gl}{pc pc':PcT}(h : ∀ f as pars r,pc f as pars=some r->pc' f as pars=some r){fn:PFn}{md:Md}{as:List PA}{pars:List (Bool×Nat×V)}{r:V×List V}(hr:bodyK gl pc fn md as pars=some r):bodyK gl pc' fn md as pars=some r:=by
 unfold bodyK at hr ⊢;split at hr
 ·exact pexecK_mono h hr
 ·split at hr<;>try contradiction
  split at hr<;>try contradiction
  exact pexecK_mono h hr
 ·split at hr<;>try contradiction
  split at hr<;>try contradiction
  split at hr<;>try contradiction
  next hz=>exact pexecK_mono h hr
 ·contradiction
 ·contradiction
 ·contradiction
theorem pcN_up{gl:Gl}{tab:Nat->Nat->Option PFn}(n:Nat) : ∀ f as pars r,pcN gl tab n f as pars=some r->pcN gl tab (n+1) f as pars=some r:=by
 induction n with
 | zero=>intro f as pars r h;simp[pcN]at h
 | succ n ih=>
  intro f as pars r h;simp only[pcN]at h ⊢;split at h
  ·exact bodyK_mono ih h
  ·exact h
theorem pcN_le{gl:Gl}{tab:Nat->Nat->Option PFn}{n m:Nat}(hnm:n<=m) : ∀ f as pars r,pcN gl tab n f as pars=some r->pcN gl tab m f as pars=some r:=by
 induction hnm with
 | refl=>intro f as pars r h;exact h
 | step _ ih=>intro f as pars r h;exact pcN_up _ f as pars r (ih f as pars r h)
theorem pcL_iff{gl:Gl}{tab:Nat->Nat->Option PFn}{f:Nat}{as:List PA}{pars:List (Bool×Nat×V)}{r:V×List V}:pcL gl tab f as pars=some r ↔ ∃ n,pcN gl tab n f as pars=some r:=by
 unfold pcL;constructor
 ·intro h;split at h
  ·next hx=>
   injection h with h;exact⟨_,by rw[<- h];exact hx.choose_spec.choose_spec⟩
  ·contradiction
 ·rintro⟨n,hn⟩;have hx : ∃ n r,pcN gl tab n f as pars=some r:=⟨n,r,hn⟩
  rw[dif_pos hx];have h1:=pcN_le (Nat.le_max_left n hx.choose) f as pars _ hn;have h2:=pcN_le (Nat.le_max_right n hx.choose) f as pars _ hx.choose_spec.choose_spec;rw[h1]at h2;injection h2 with h2;rw[<- h2]
theorem pcL_lim(gl:Gl)(tab:Nat->Nat->Option PFn):Lim (pcN gl tab) (pcL gl tab):=by intro f as pars r h;obtain⟨n,hn⟩:=pcL_iff.1 h;exact⟨n,fun m hm=>pcN_le hm f as pars r hn⟩
theorem bodyK_lim{gl:Gl}{pcs:Nat->PcT}{pc:PcT}(hl:Lim pcs pc){fn:PFn}{md:Md}{as:List PA}{pars:List (Bool×Nat×V)}{r:V×List V}(hr:bodyK gl pc fn md as pars=some r) : ∃ n,bodyK gl (pcs n) fn md as pars=some r:=by
 have key : ∀ {p:PSt} {K:PEx->PSt->Option (V×List V)},pexecK gl pc fn.body p K=some r -> ∃ n,pexecK gl (pcs n) fn.body p K=some r:=by intro p K h;rw[pexecK_nat,zA]at h;obtain⟨q,hq,h⟩:=h;obtain⟨n,hn⟩:=pexecD_lim hl fn.body hq;exact⟨n,by rw[pexecK_nat,hn n (zR n)];exact h⟩
 unfold bodyK at hr;split at hr
 ·obtain⟨n,hn⟩:=key hr;exact⟨n,hn⟩
 ·split at hr<;>try contradiction
  split at hr<;>try contradiction
  obtain⟨n,hn⟩:=key hr;exact⟨n,hn⟩
 ·split at hr<;>try contradiction
  split at hr<;>try contradiction
  split at hr<;>try contradiction
  next hz=>obtain⟨n,hn⟩:=key hr;exact⟨n,by simp only[bodyK,hz];exact hn⟩
 ·contradiction
 ·contradiction
 ·contradiction
theorem pcL_eq{gl:Gl}{tab:Nat->Nat->Option PFn}{f:Nat}{fn:PFn}(as:List PA)(pars:List (Bool×Nat×V))(hf:tab f pars.length=some fn):pcL gl tab f as pars=bodyK gl (pcL gl tab) fn (gl.md f) as pars:=by
 apply opt_ext;intro r;constructor
 ·intro h;obtain⟨n,hn⟩:=pcL_iff.1 h;cases n with
  | zero=>simp[pcN]at hn
  | succ n=>simp only[pcN,hf]at hn;exact bodyK_mono (fun f as pars r h=>pcL_iff.2 ⟨n,h⟩) hn
 ·intro h;obtain⟨n,hn⟩:=bodyK_lim (pcL_lim gl tab) h;exact pcL_iff.2 ⟨n+1,by simp only[pcN,hf];exact hn⟩
theorem pcL_tell{gl:Gl}{tab:Nat->Nat->Option PFn}{f:Nat}{g:List V->Option V}(as:List PA)(pars:List (Bool×Nat×V))(hf:tab f pars.length=none)(hg:gl.tx f=some g):pcL gl tab f as pars=tellK g (gl.md f) as pars:=by
 apply opt_ext;intro r;rw[pcL_iff];constructor
 ·rintro⟨n,hn⟩;cases n with
  | zero=>simp[pcN]at hn
  | succ n=>simp only[pcN,hf,hg]at hn;exact hn
 ·intro h;exact⟨1,by simp only[pcN,hf,hg];exact h⟩
theorem pcL_ok{E:Env}{gl:Gl}{tab:Nat->Nat->Option PFn}(hg:GlR E gl)(ht:TabOk E gl.md tab)(hx:TxOk E gl tab):PcOk E gl.md (pcL gl tab):=by
 refine⟨fun f as pars r h => ?_,fun f sz ds hm as q h => ?_,fun f sz ys xs q hm h => ?_,fun f as q hm h => ?_,fun f sz d ds hm hd as q h => ?_,hx.2⟩
 ·obtain⟨n,hn⟩:=pcL_iff.1 h;exact(pcN_ok hg ht hx n).n f as pars r hn
 ·obtain⟨n,hn⟩:=pcL_iff.1 h;exact(pcN_ok hg ht hx n).g f sz ds hm as q hn
 ·obtain⟨n,hn⟩:=pcL_iff.1 h;exact(pcN_ok hg ht hx n).w f sz ys xs q hm hn
 ·obtain⟨n,hn⟩:=pcL_iff.1 h;exact(pcN_ok hg ht hx n).f f as q hm hn
 ·obtain⟨n,hn⟩:=pcL_iff.1 h;exact(pcN_ok hg ht hx n).h f sz d ds hm hd as q hn
end
theorem pq{gl:Gl}{tab:Nat->Nat->Option PFn}{f:Nat}{fn:PFn}{as:List PA}{pars:List (Bool×Nat×V)}{r:Option (V×List V)}(hf:tab f pars.length=some fn)(h:bodyK gl (pcL gl tab) fn (gl.md f) as pars=r) :
  pcL gl tab f as pars=r:=(pcL_eq as pars hf).trans h
theorem tab_of{E:Env}{md:Nat->Md}{f:Nat}{fn:PFn}(h:E.fn f=some ⟨((E.fn f).map Fn.np).getD 0,fn.res,(md f).isRaw,(md f).isGv,erase fn.body⟩) :
  ∃ np,E.fn f=some ⟨np,fn.res,(md f).isRaw,(md f).isGv,erase fn.body⟩:=⟨_,h⟩
end
section
def isAggT(P:Program)(t:TypeId):Bool:=match P.underlying t with
 | some (.struct _) | some (.array _ _)=>true
 | _=>false
def mkV(P:Program)(t:TypeId)(cs:List V):V:=match isAggT P t with
 | true => .agg cs
 | false=>cs.headD .nilp
def TyL(f:TypeId->List V->Prop):List TypeId->List V->Prop
 | [],cs=>cs=[]
 | t::r,cs => ∃ x y,f t x/\TyL f r y/\cs=x++y
def Ty(P:Program):Nat->TypeId->List V->Prop
 | 0,_,_=>False
 | n+1,t,cs=>match P.underlying t with
  | some .bool => ∃ b,cs=[.bool b]
  | some (.int k) => ∃ z,(Lit.int k z).wf=true/\cs=[.int k z]
  | some (.float k) => ∃ b,(Lit.float k b).wf=true/\cs=[.float k b]
  | some .string => ∃ s:List UInt8,s.length<=maxLen/\cs=[.str s]
  | some (.slice e) => ∃ xs:List (List V),xs.length<=maxLen/\(∀ x∈xs,Ty P n e x)/\cs=[.sl (xs.map (mkV P e))]
  | some (.struct fs)=>TyL (Ty P n) (fs.toList.map (·.type)) cs
  | some (.array m e)=>TyL (Ty P n) (List.replicate m e) cs
  | _=>False
def contig(P:Program)(tot:Nat):Nat->List Field->Bool
 | o,[]=>Nat.beq o tot
 | o,f::r=>Nat.beq f.offset o&&contig P tot (o+P.cellsOf f.type) r
def closedT(P:Program)(ts:List TypeId):Bool:=ts.all fun t=>match P.underlying t with
 | some .bool | some (.int _) | some (.float _) | some .string=>Nat.beq (P.cellsOf t) 1
 | some (.slice e)=>Nat.beq (P.cellsOf t) 1&&ts.contains e&&(isAggT P e||Nat.beq (P.cellsOf e) 1)
 | some (.struct fs)=>contig P (P.cellsOf t) 0 fs.toList&&fs.toList.all fun f=>ts.contains f.type
 | some (.array m e)=>Nat.beq (P.cellsOf t) (m*P.cellsOf e)&&ts.contains e
 | _=>false
theorem RepL.one{S:G}{d:D}{v:Value}(h:Rep S d v):RepL S [d] [v]:=by
 refine⟨rfl,fun j d' v' hd hv => ?_⟩;cases j with
 | zero=>simp at hd hv;subst hd hv;exact h
 | succ j=>simp at hd
theorem allOneV_app{x y:List V}:allOneV (x++y)=(allOneV x&&allOneV y):=by
 induction x with
 | nil=>rfl
 | cons a r ih=>simp[allOneV,ih,Bool.and_assoc]
theorem one_cells{x:V}(h:x.one=true):x.toD.cells=[x.toD]:=by cases x<;>first | rfl | (simp[V.one]at h)
theorem mkV_cells{P:Program}{e:TypeId}{xs:List V}(h1:allOneV xs=true)(h:isAggT P e=true\/xs.length=1):(mkV P e xs).toD.cells=toDL xs:=by
 unfold mkV;cases ha:isAggT P e with
 | true=>simp[V.toD,D.cells]
 | false=>
  rw[ha]at h;have h:=h.resolve_left (by simp)
  match xs,h with
  | [x],_=>simp[allOneV]at h1;simp[toDL,one_cells h1]
theorem cells_spec{w:World}{a:Addr}{n:Nat}{cs:List Value}(h:w.cells? 0 a n=some cs):cs.length=n /\ ∀ r,r<n->w.cell? (a.add r)=cs[r]?:=by
 unfold World.cells? at h;rw[zb (Nat.zero_le _)]at h;have hlen : ∀ (l:List Nat) (ys:List Value),l.mapM (fun i=>w.cell? (a.add i))=some ys->ys.length=l.length:=by
  intro l;induction l with
  | nil=>intro ys hm;simp at hm;subst hm;rfl
  | cons x l ih=>intro ys hm;simp only[List.mapM_cons,Option.bind_eq_bind,zA,Option.pure_def,zh]at hm;obtain⟨y,hy,zs,hz,rfl⟩:=hm;simp[ih zs hz]
 have hl:=hlen _ _ h;simp at hl;refine⟨hl,fun r hr => ?_⟩;have key : ∀ (l:List Nat) (ys:List Value),l.mapM (fun i=>w.cell? (a.add i))=some ys -> ∀ (j i:Nat),l[j]?=some i->w.cell? (a.add i)=ys[j]?:=by
  intro l;induction l with
  | nil=>intro ys _ j i hj;simp at hj
  | cons x l ih=>
   intro ys hm j i hj;simp only[List.mapM_cons,Option.bind_eq_bind,zA,Option.pure_def,zh]at hm;obtain⟨y,hy,zs,hz,rfl⟩:=hm;cases j with
   | zero=>simp at hj;subst hj;simpa using hy
   | succ j=>simp at hj;simpa using ih zs hz j i hj
 exact key _ _ h r r (by simp[hr])
theorem add_none(b off i:Nat):(⟨b,off,none⟩:Addr).add i=⟨b,off+i,none⟩:=by
 unfold Addr.add;split
 ·next h=>subst h;rfl
 ·rfl
theorem flatD_app(x y:List V):flatD (x++y)=flatD x++flatD y:=by
 induction x with
 | nil=>rfl
 | cons a r ih=>simp[flatD,ih]
section
variable {H:Type} {enc:TypeId×Value->H} {P:Program} {W:World} {held:Bool} {spare:Nat->Bool} {ts:List TypeId}
def Opens(P:Program)(W:World)(n:Nat)(t:TypeId)(cs:List Value)(xs:List V):Prop:=
 Ty P n t xs/\RepL (G0 W) (toDL xs) cs/\cs.length=P.cellsOf t/\allOneV xs=true
theorem opens_fields{n:Nat}(ih : ∀ t cs (x:DataW H×List MemPlace),t∈ts->DataW.trod enc P W 0 spare held n t cs=some x -> ∃ xs,Opens P W n t cs xs)(tot:Nat)(cs:List Value)(hcs:cs.length=tot) :
  ∀ (fs:List Field) (o:Nat),contig P tot o fs=true->(∀ f∈fs,f.type∈ts)->(∀ f∈fs,∃ x,DataW.trod enc P W 0 spare held n f.type ((cs.drop f.offset).take (P.cellsOf f.type))=some x) ->
   ∃ xs,TyL (Ty P n) (fs.map (·.type)) xs/\RepL (G0 W) (toDL xs) (cs.drop o)/\allOneV xs=true:=by
 intro fs;induction fs with
 | nil=>intro o hc _ _;simp only[contig]at hc;have hc:=zJ hc;refine⟨[],rfl,?_,rfl⟩;rw[List.drop_of_length_le (by omega)];exact RepL.nil _
 | cons f r ihf=>
  intro o hc ht hx;simp only[contig,zG]at hc;have ho:=zJ hc.1;obtain⟨x,hx1⟩:=hx f (by simp);obtain⟨xs,h1,h2,h3,h4⟩:=ih _ _ _ (ht f (by simp)) hx1;obtain⟨ys,k1,k2,k3⟩:=ihf _ hc.2 (fun g hg=>ht g (by simp[hg])) (fun g hg=>hx g (by simp[hg]));refine⟨xs++ys,⟨xs,ys,h1,k1,rfl⟩,?_,by rw[allOneV_app,h4,k3];rfl⟩;rw[toDL_append];have e:cs.drop o=(cs.drop f.offset).take (P.cellsOf f.type)++cs.drop (o+P.cellsOf f.type):=by rw[ho,<- List.drop_drop,List.take_append_drop]
  rw[e];exact h2.app k2
theorem opens_array{n:Nat}{e:TypeId}(he:e∈ts)(ih : ∀ t cs (x:DataW H×List MemPlace),t∈ts->DataW.trod enc P W 0 spare held n t cs=some x -> ∃ xs,Opens P W n t cs xs)(cs:List Value) :
  ∀ (k o:Nat),cs.length=(o+k)*P.cellsOf e->(∀ i,o<=i->i<o+k -> ∃ x,DataW.trod enc P W 0 spare held n e ((cs.drop (i*P.cellsOf e)).take (P.cellsOf e))=some x) ->
   ∃ xs,TyL (Ty P n) (List.replicate k e) xs/\RepL (G0 W) (toDL xs) (cs.drop (o*P.cellsOf e))/\allOneV xs=true:=by
 intro k;induction k with
 | zero=>intro o hc _;refine⟨[],rfl,?_,rfl⟩;rw[List.drop_of_length_le (by rw[hc];exact zR _)];exact RepL.nil _
 | succ k ihk=>
  intro o hc hx;obtain⟨x,hx1⟩:=hx o (zR _) (by omega);obtain⟨xs,h1,h2,h3,h4⟩:=ih _ _ _ he hx1;obtain⟨ys,k1,k2,k3⟩:=ihk (o+1) (by rw[hc];congr 1;omega) (fun i h1 h2=>hx i (by omega) (by omega));refine⟨xs++ys,⟨xs,ys,h1,k1,rfl⟩,?_,by rw[allOneV_app,h4,k3];rfl⟩;rw[toDL_append];have e2:cs.drop (o*P.cellsOf e)=(cs.drop (o*P.cellsOf e)).take (P.cellsOf e)++cs.drop ((o+1)*P.cellsOf e):=by rw[Nat.succ_mul,<- List.drop_drop,List.take_append_drop]
  rw[e2];exact h2.app k2
theorem trod_float{k:FloatKind}{n:Nat}{t:TypeId}{cs:List Value}{x:DataW H×List MemPlace}(ht:P.underlying t=some (.float k))(h:DataW.trod enc P W 0 spare held n t cs=some x) : ∃ b,cs=[.float k b]/\(Lit.float k b).wf=true:=by
 cases n with
 | zero=>simp[DataW.trod]at h
 | succ n=>unfold DataW.trod at h;rw[ht]at h;split at h<;>simp_all
theorem opens(hT:closedT P ts=true) : ∀ (n:Nat) (t:TypeId) (cs:List Value) (x:DataW H×List MemPlace),t∈ts->DataW.trod enc P W 0 spare held n t cs=some x -> ∃ xs,Opens P W n t cs xs:=by
 intro n;induction n with
 | zero=>intro t cs x _ h;simp[DataW.trod]at h
 | succ n ih=>
  intro t cs x ht h;have hc:=List.all_eq_true.1 hT t ht;unfold Opens Ty;cases hu:P.underlying t with
  | none=>simp[hu]at hc
  | some u=>
   cases u<;>simp only[hu]at hc ⊢ <;> first | (exfalso;simp at hc;done) | skip
   case bool=>obtain⟨b,rfl,_⟩:=DataW.trod_bool hu h;exact⟨[.bool b],⟨b,rfl⟩,RepL.one (.bool b),(zJ hc).symm,rfl⟩
   case int k=>obtain⟨z,rfl,_,hw⟩:=DataW.trod_int hu h;exact⟨[.int k z],⟨z,hw,rfl⟩,RepL.one (.int k z),(zJ hc).symm,rfl⟩
   case float k=>obtain⟨z,rfl,hw⟩:=trod_float hu h;exact⟨[.float k z],⟨z,hw,rfl⟩,RepL.one (.float k z),(zJ hc).symm,rfl⟩
   case string=>
    obtain⟨z,rfl,_,hw⟩:=DataW.trod_string hu h;refine⟨[.str z.data.toList],⟨_,?_,rfl⟩,RepL.one ?_,(zJ hc).symm,rfl⟩
    ·simpa using hw
    ·exact Rep.str _
   case struct fs=>
    obtain⟨ys,m,hm,_,hcs,hl,hf⟩:=DataW.trod_struct hu h;injection hm with hm;subst hm;simp only[zG,List.all_eq_true]at hc;obtain⟨xs,h1,h2,h3⟩:=opens_fields ih _ cs hcs fs.toList 0 hc.1 (fun f hf=>by simpa using hc.2 f hf) (fun f hf'=>by
     obtain⟨i,hi⟩:=List.mem_iff_getElem?.1 hf';have hi2:fs[i]?=some f:=by simpa using hi
     have hlt:i<fs.size:=(Array.getElem?_eq_some_iff.1 hi2).1;rw[hf i f hi2,zL (by omega)];exact⟨_,rfl⟩)
    exact⟨xs,h1,by simpa using h2,hcs,h3⟩
   case array m e=>
    obtain⟨ys,m',hm,_,hcs,hl,hf⟩:=DataW.trod_array hu h;injection hm with hm;subst hm;simp only[zG]at hc;have hsz:=zJ hc.1;obtain⟨xs,h1,h2,h3⟩:=opens_array (e:=e) (by simpa using hc.2) ih cs m 0 (by rw[hcs,hsz,zk]) (fun i _ hi=>by rw[hf i (by omega),zL (by omega)];exact⟨_,rfl⟩);exact⟨xs,h1,by simpa using h2,hcs,h3⟩
   case slice e=>
    simp only[zG,ya]at hc;have hsz:=zJ hc.1.1;rcases DataW.trod_slice hu h with⟨rfl,_⟩ | ⟨a,len,cap,elems,rest,m,hm,rfl,_,_,hlc,hcap,hel,hE,_,_⟩
    ·exact⟨[.sl []],⟨[],by simp,by simp,rfl⟩,RepL.one (.sl .no 0 [] none 0 0 0 (fun _=>undef) (zR _) (.inl rfl) (fun j hj=>by simp at hj) (fun j d hj=>by simp at hj) (.inl rfl) trivial),hsz.symm,rfl⟩
    ·injection hm with hm;subst hm;have each : ∀ i,∃ p:List Value×List V,i<len->W.cells? 0 (a.add (i*P.cellsOf e)) (P.cellsOf e)=some p.1/\Opens P W n e p.1 p.2:=by
      intro i;by_cases hi:i<len
      ·have h1:=hE i hi;rw[zL (by omega),zA]at h1;obtain⟨cs,h2,h3⟩:=h1;obtain⟨xs,h4⟩:=ih e cs _ (by simpa using hc.1.2) h3;exact⟨(cs,xs),fun _=>⟨h2,h4⟩⟩
      ·exact⟨([],[]),fun h=>(hi h).elim⟩
     obtain⟨f,hf⟩:=Classical.axiomOfChoice each;have hcell : ∀ i,i<len->((f i).2.length=1\/isAggT P e=true):=by
      intro i hi;rcases hc.2 with h | h
      ·exact .inr h
      ·have h5:=(hf i hi).2.2.1.1;have h6:=(hf i hi).2.2.2.1;rw[toDL_len]at h5;have:=zJ h;exact .inl (by omega)
     have hall : ∀ m,m<=len->RepL (G0 W) (flatD ((List.range m).map fun i=>mkV P e (f i).2)) ((List.range m).flatMap fun i=>(f i).1)/\((List.range m).flatMap fun i=>(f i).1).length=m*P.cellsOf e:=by
      intro m;induction m with
      | zero=>intro _;exact⟨RepL.nil _,by simp⟩
      | succ m ihm=>
       intro hm;obtain⟨k1,k2⟩:=ihm (by omega);obtain⟨_,k3,k4,k5,k6⟩:=hf m (by omega);rw[List.range_succ,List.map_append,flatD_app,List.flatMap_append];refine⟨k1.app ?_,by rw[zZ,k2,Nat.succ_mul];simp[k5]⟩;have:flatD ([m].map fun i=>mkV P e (f i).2)=toDL (f m).2:=by simp[flatD,mkV_cells k6 (hcell m (by omega)).symm]
       rw[this];simpa using k4
     obtain⟨hr,hlen⟩:=hall len (zR _);have hcl : ∀ m,m<=len -> ∀ j,j<m*P.cellsOf e->W.cell? (a.add j)=((List.range m).flatMap fun i=>(f i).1)[j]?:=by
      intro m;induction m with
      | zero=>intro _ j hj;simp at hj
      | succ m ihm=>
       intro hm j hj;have k2:=(hall m (by omega)).2;rw[List.range_succ,List.flatMap_append,List.getElem?_append,k2];rw[Nat.succ_mul]at hj;split
       ·next h=>exact ihm (by omega) j h
       ·next h=>
        have k3:=(cells_spec (hf m (by omega)).1).2 (j-m*P.cellsOf e) (by omega);have e1:(a.add (m*P.cellsOf e)).add (j-m*P.cellsOf e)=a.add j:=by
         unfold Addr.add;by_cases h0:m*P.cellsOf e=0
         ·rw[zb h0,h0,Nat.sub_zero]
         ·rw[za h0];by_cases h1:j-m*P.cellsOf e=0
          ·rw[zb h1,za (by omega)];have:j=m*P.cellsOf e:=by omega
           rw[this]
          ·rw[za h1,za (by omega)];simp only[Addr.mk.injEq,and_true,true_and];omega
        rw[e1]at k3;rw[k3];simp
     have hspot:len*P.cellsOf e=0\/a=⟨a.block,a.off,none⟩:=by
      by_cases h0:len*P.cellsOf e=0
      ·exact .inl h0
      ·have k3:=hcl len (zR _) 0 (by omega);rw[zL (by omega)]at k3;refine .inr ?_;have k4:W.cell? a=some _:=k3;unfold World.cell? at k4;obtain⟨bl,of,sp⟩:=a;split at k4
       ·split at k4
        ·simp at k4
        ·next h=>cases sp with
         | none=>rfl
         | some _=>simp at h
       ·simp at k4
     have hfl:(flatD ((List.range len).map fun i=>mkV P e (f i).2)).length=len*P.cellsOf e:=by rw[<- hr.1,hlen]
     have hus : ∀ j,j<len*P.cellsOf e->W.cell? ⟨a.block,a.off+j,none⟩=some (((List.range len).flatMap fun i=>(f i).1).getD j undef):=by intro j hj;have h1:=hspot.resolve_left (by omega);have h2:=hcl len (zR _) j hj;rw[h1,add_none]at h2;rw[h2,List.getD_eq_getElem?_getD,zL (by omega)];rfl
     refine⟨[.sl ((List.range len).map fun i=>mkV P e (f i).2)],⟨(List.range len).map fun i=>(f i).2,by simp;omega,?_,by simp[List.map_map,Function.comp_def]⟩,RepL.one ?_,hsz.symm,rfl⟩
     ·intro y hy;obtain⟨i,hi,rfl⟩:=List.mem_map.1 hy;exact(hf i (by simpa using hi)).2.1
     ·have e1:(V.sl ((List.range len).map fun i=>mkV P e (f i).2)).toD = .sl .no len (flatD ((List.range len).map fun i=>mkV P e (f i).2)):=by simp[V.toD]
      rw[e1];refine .sl .no len _ (some a) cap a.block a.off (fun j=>((List.range len).flatMap fun i=>(f i).1).getD j undef) hlc ?_ (fun j hj=>hus j (by omega)) (fun j d hd => ?_) ?_ trivial
      ·rcases hspot with h | h
       ·exact .inl (List.eq_nil_of_length_eq_zero (by omega))
       ·exact .inr (by rw[<- h])
      ·have hj:j<len*P.cellsOf e:=by rw[<- hfl];exact(List.getElem?_eq_some_iff.1 hd).1
       refine hr.2 j d _ hd ?_;rw[List.getD_eq_getElem?_getD,zL (by omega)];rfl
      ·rw[hfl];rcases phi0 (W:=W) (b:=a.block) (off:=a.off) (n:=len*P.cellsOf e) (fun j hj=>⟨_,hus j hj⟩)with h | h
       ·exact .inl (List.eq_nil_of_length_eq_zero (by omega))
       ·exact .inr h
end
end
section
theorem RAL_v{ρ:Nat->Nat}{np:Nat}(xs:List V):RAL ρ np (xs.map .v) (toDL xs):=by
 induction xs with
 | nil=>trivial
 | cons x r ih=>exact⟨rfl,ih⟩
theorem law_pv{E:Env}{gl:Gl}{tab:Nat->Nat->Option PFn}(hg:GlR E gl)(ht:TabOk E gl.md tab)(hx:TxOk E gl tab){f:Nat}{xs:List V}{r:V}(h:pcL gl tab f (xs.map .v) []=some (r,[])) : ∃ st',callL E f (toDL xs) St0=some (.ret r.toD,st'):=by obtain⟨st',h1,_⟩:=(pcL_ok hg ht hx).n f _ _ _ h (fun _=>0) St0 (toDL xs) (by rw[(clL_toDL (toDL_cl0 xs) St0.mem).1];exact RAL_v xs) (fun j e he=>by simp at he) (fun i j hi=>by simp at hi);exact⟨st',h1⟩
theorem Opens.arg{P:Program}{W:World}{n:Nat}{t:TypeId}{v:Value}{xs:List V}(h:Opens P W n t v.cells.toList xs)(hv:isAggT P t=true -> ∃ a,v = .agg a)(hc:isAggT P t=true\/(P.cellsOf t=1 /\ ∀ a,v ≠ .agg a)):Rep (G0 W) (mkV P t xs).toD v:=by
 obtain⟨_,hr,hl,h1⟩:=h;unfold mkV;cases ha:isAggT P t with
 | true=>obtain⟨a,rfl⟩:=hv ha;simp only[V.toD];exact .agg _ _ (by simpa[Value.cells]using hr.1) (fun j d w hd hw=>hr.2 j d w hd (by simpa[Value.cells]using hw))
 | false=>
  rw[ha]at hc;obtain⟨hc1,hna⟩:=hc.resolve_left (by simp);have hcs:v.cells.toList=[v]:=by cases v<;>first | rfl | exact(hna _ rfl).elim
  rw[hcs]at hr;have hxl:=hr.1;rw[toDL_len]at hxl
  match xs,hxl with
  | [x],_=>exact hr.2 0 _ _ rfl rfl
end
end Go.Ev
