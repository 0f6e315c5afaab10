/- The machines Ev and Pv, part 4: an abstract machine over the translated code, proved sound once. -/
import Derived.Test.YtnefgdahdccldaaDoorKEvC
set_option linter.all false
open Option renaming bind_eq_some_iff->zA,map_eq_some_iff->zB,map_some->zC,bind_some->zD
open Bool renaming false_eq_true->zF,and_eq_true->zG,true_eq_false->zX
open Nat renaming eq_of_beq_eq_true->zJ,lt_of_lt_of_le->zK,le_refl->zR,le_of_ble_eq_true->zT,mul_le_mul_right->zW
open List renaming getElem?_eq_getElem->zL,drop_eq_getElem_cons->zO,mem_cons_of_mem->zP,mem_cons->zS,drop_zero->zU,take_of_length_le->zV,length_append->zZ
namespace Go.Ev
section
section
variable {ρ:Nat->Nat} {τ:Nat->Option Nat} {p:PSt} {st:St} {ρ':Type} {r:ρ'}
def PD.isRef:PD->Bool
 | .s (.ref _ _ _ _ _ _) | .s (.uref _ _ _)=>true
 | _=>false
theorem zhL(hS:Sim ρ τ p st){sz:Nat}{d:PD}{e:D}(hd:RP (zy ρ τ p st) d e){K:List V->Option ρ'}(h:slK sz p d K=some r) :
  ∃ xs,K xs=some r/\yi sz xs=true/\(∃ ds,elems st sz e=some (xs.length,ds)/\cl0L ds=flatD xs)/\(d.isRef=false -> ∃ g ds,e = .sl g xs.length ds/\cl0L ds=flatD xs):=by
 have fin : ∀ {g xs ds},e = .sl g xs.length ds->cl0L ds=flatD xs->yi sz xs=true->K xs=some r ->
   ∃ xs,K xs=some r/\yi sz xs=true/\(∃ ds,elems st sz e=some (xs.length,ds)/\cl0L ds=flatD xs)/\(d.isRef=false -> ∃ g ds,e = .sl g xs.length ds/\cl0L ds=flatD xs):=by
  intro g xs ds he hds hs hk;subst he;have hl:ds.length=xs.length*sz:=by have:=congrArg List.length hds;rw[yJ,xg hs]at this;exact this
  exact⟨xs,hk,hs,⟨ds,by simp[elems,hl],hds⟩,fun _=>⟨g,ds,rfl,hds⟩⟩
 cases d with
 | agg ps=>simp[slK]at h
 | s q=>
  cases q<;>simp only[slK]at h<;>try contradiction
  case v x=>rw[zA]at h;obtain⟨xs,hx,h⟩:=h;obtain⟨⟨g,ds,he,hds⟩,hs⟩:=zr2 hx hd;exact fin he hds hs h
  case own id sz' xs=>obtain⟨hs,h⟩:=yq h;obtain⟨g,ds,he,hds,_⟩:=hd;exact fin he hds hs h
  case full xs=>obtain⟨hs,h⟩:=yq h;obtain⟨ds,he,hds⟩:=hd;exact fin he hds hs h
  case ref k sz' off n cp z=>
   split at h<;>try contradiction
   split at h<;>try contradiction
   next fz szr xs hr _ hsz=>
    have hsz:=zJ hsz;subst hsz;obtain⟨rr,hrr,hrc⟩:=qu hr;obtain⟨hk,⟨hn,_⟩,hdd,hrk⟩:=hd;obtain⟨hs,hlen⟩:=hrk _ _ (YR hrr hrc);subst hs;obtain⟨o,ho,ds,b,rfl,hfz,hds,hsz⟩:=hS.row hr (by simp);have hl:ds.length=xs.length*szr:=by have:=congrArg List.length hds;rw[yJ,xg hsz]at this;exact this
    have hll:((xs.drop off).take n).length=n:=by rw[zBI,zBJ];omega
    refine⟨_,h,Yl (kT hsz _) _,?_,fun hh=>by simp[PD.isRef]at hh⟩;rcases hdd with⟨rfl,_⟩ | ⟨rfl,rfl,_⟩
    ·refine⟨(ds.drop (off*szr)).take (n*szr),?_,?_⟩
     ·have hm:(off+n)*szr<=xs.length*szr:=zW _ (by omega);have:off*szr+n*szr<=ds.length:=by rw[hl,<- zBW];exact hm
      have ho:st.mem ((zy ρ τ p st).ρ k)=some (.row ds b):=ho;simp only[elems,ho,hll];rw[zBu ⟨trivial,this⟩]
     ·rw[vY,qw,hds,qS hsz,qn (kT hsz _)]
    ·have hn0:n=0:=by omega
     subst hn0;exact⟨[],by simp[elems],by simp[cl0L,flatD]⟩
  case uref k sz' n=>
   split at h<;>try contradiction
   split at h<;>try contradiction
   next fz szr xs hr _ hsz=>
    have hsz:=zJ hsz;subst hsz;obtain⟨rr,hrr,hrc⟩:=qu hr;obtain⟨hk,⟨cp,hcp,rfl⟩,hrk⟩:=hd;obtain⟨hs,hlen⟩:=hrk _ _ (YR hrr hrc);subst hs;obtain⟨o,ho,ds,b,rfl,hfz,hds,hsz⟩:=hS.row hr (by simp);have hl:ds.length=xs.length*szr:=by have:=congrArg List.length hds;rw[yJ,xg hsz]at this;exact this
    have hll:(xs.take n).length=n:=by rw[zBI];omega
    refine⟨_,h,Yl hsz _,?_,fun hh=>by simp[PD.isRef]at hh⟩;refine⟨(ds.drop 0).take (n*szr),?_,?_⟩
    ·have hm:n*szr<=xs.length*szr:=zW _ hlen;have:0+n*szr<=ds.length:=by rw[hl,zBE];exact hm
     have ho:st.mem ((zy ρ τ p st).ρ k)=some (.row ds b):=ho;simp only[elems,ho,hll];rw[zBu ⟨trivial,this⟩]
    ·rw[zU,vY,hds,qn hsz]
theorem zlQ(hS:Sim ρ τ p st){sz:Nat}{d:PD}{e:D}(hd:RP (zy ρ τ p st) d e){K:List V->Option ρ'}(h:zrs sz p d K=some r) :
  ∃ xs,K xs=some r/\yi sz xs=true /\ ∃ ds,elems st sz e=some (xs.length,ds)/\cl0L ds=flatD xs:=by
 unfold zrs at h;split at h
 ·next x=>
  rw[zA]at h;obtain⟨xs,hx,h⟩:=h;unfold zds at hx;split at hx<;>try contradiction
  ·next ys=>
   have hy:yN sz (.sl ys)=some xs:=hx;obtain⟨⟨g,ds,rfl,hds⟩,hs⟩:=zr2 hy hd;have hl:ds.length=xs.length*sz:=by have:=congrArg List.length hds;rw[yJ,xg hs]at this;exact this
   exact⟨xs,h,hs,ds,by simp[elems,hl],hds⟩
  ·next s=>
   split at hx<;>try contradiction
   next hsz=>injection hx with hx;subst hx;have hsz:=zJ hsz;subst hsz;have:=WB hd;subst this;exact⟨_,h,zqe s,ofBytes s,by simp[elems,XW],by rw[<- zfL,flatD_cl0]⟩
 ·obtain⟨xs,h1,h2,h3,_⟩:=zhL hS hd h;exact⟨xs,h1,h2,h3⟩
theorem zeL{x:V}{n:Nat}(h:okN n x=true)(hn:1<n):x = .agg x.parts:=by have:=xw h;cases x<;>simp_all [V.parts]
theorem XK{ds:List D}{xs:List V}(h:cl0L ds=toDL xs):ds.length=xs.length:=by have:=congrArg List.length h;rw[yJ,xW]at this;exact this
theorem zmR{ds:List D}{xs:List V}(h:cl0L ds=toDL xs)(off sz:Nat):(D.agg ((ds.drop off).take sz)).cl0=(V.agg ((xs.drop off).take sz)).toD:=by simp only[D.cl0,V.toD,vY,qw,h,K9,Yd]
theorem zoE(hS:Sim ρ τ p st){ag:Bool}{sz:Nat}{d:PD}{e:D}(hd:RP (zy ρ τ p st) d e){K:PD->Option ρ'}(h:ze4 p ag sz d K=some r) :
  ∃ v,K v=some r /\ ∃ w,vB st ag sz e=some w/\RP (zy ρ τ p st) v w:=by
 cases d with
 | agg ps=>simp[ze4]at h
 | s q=>
  cases q<;>simp only[ze4]at h<;>try contradiction
  case ptr k off=>
   obtain⟨hk,rfl⟩:=hd;split at h<;>try contradiction
   ·next n x hr=>
    obtain⟨o,ho,ds,rfl,hds,hok⟩:=hS.row hr (by simp);have ho:st.mem ((zy ρ τ p st).ρ k)=some (.row ds false):=ho;have hl:=XK hds;have hn:=xw hok;split at h
    ·obtain⟨hle,h⟩:=yq h;have hle:=zT hle;have hw:vB st true sz (.ptr ((zy ρ τ p st).ρ k) off)=some (.agg ((ds.drop off).take sz)):=by simp only[vB,vL,ho,zBv];rw[zBu (by omega)];rfl
     split at h
     ·next hc=>
      simp only[zG]at hc;have h1:=zJ hc.1;have h2:1<n:=zT hc.2;refine⟨_,h,_,hw,?_⟩;have h0:off=0:=by omega
      subst h0;show(D.agg _).cl0=_;rw[zeL hok h2,zmR hds];simp only[zU];rw[zV (by omega)]
     ·exact⟨_,h,_,hw,zmR hds off sz⟩
    ·rw[zA]at h;obtain⟨c,hc,h⟩:=h;obtain⟨w,hw,hcw⟩:=zgl hds (Yc hc);have hlt:=getElem?_lt hw;refine⟨_,h,w,?_,hcw⟩;simp only[vB,vL,ho,zF,zBw];rw[zBu (by omega),zO hlt];rw[zL hlt]at hw;injection hw with hw;simp[hw]
   ·next ps hr=>
    obtain⟨o,ho,ds,rfl,hds,h1⟩:=hS.row hr (by simp);have ho:st.mem ((zy ρ τ p st).ρ k)=some (.row ds false):=ho;have hl:=WI hds;split at h
    ·split at h<;>try contradiction
     next hle=>have hle:=zT hle;refine⟨_,h,.agg ((ds.drop off).take sz),?_,zcy (zil (zio hds _) _) (WM (JT h1 _) _)⟩;simp only[vB,vL,ho,zBv];rw[zBu (by omega)];rfl
    ·split at h<;>try contradiction
     next q hq=>obtain⟨w,hw,hcw⟩:=zsv hds hq;have hlt:=getElem?_lt hw;refine⟨_,h,w,?_,hcw⟩;simp only[vB,vL,ho,zF,zBw];rw[zBu (by omega),zO hlt];rw[zL hlt]at hw;injection hw with hw;simp[hw]
  case ptrA k sz' i off=>
   obtain⟨hk,rfl,hrk⟩:=hd;split at h<;>try contradiction
   next fz szr xs hr=>
    obtain⟨rr,hrr,hrc⟩:=qu hr;obtain⟨hs,hi⟩:=hrk _ _ (YR hrr hrc);subst hs;obtain⟨o,ho,ds,b,rfl,hfz,hds,hsz⟩:=hS.row hr (by simp);have ho:st.mem ((zy ρ τ p st).ρ k)=some (.row ds b):=ho;have hl:ds.length=xs.length*szr:=by have:=congrArg List.length hds;rw[yJ,xg hsz]at this;exact this
    have hmul:(i+1)*szr<=xs.length*szr:=zW _ hi;have hmul':(i+1)*szr=i*szr+szr:=by rw[zBW,Nat.one_mul]
    have hpre : ∀ x,xs[i]?=some x->toDL x.parts <+: cl0L (ds.drop (i*szr)):=by intro x hx;rw[qw,hds,qS hsz,zim hx];exact List.prefix_append _ _
    split at h
    ·split at h<;>try contradiction
     next hle=>
      have hle:=zT hle;rw[zA]at h;obtain⟨x,hx,h⟩:=h;have hok:=X2 hsz hx;have hxl:=xw hok;have hw:vB st true sz (.ptr ((zy ρ τ p st).ρ k) (i*szr+off))=some (.agg ((ds.drop (i*szr+off)).take sz)):=by simp only[vB,vL,ho,zBv];rw[zBu (by omega)];rfl
      have hp2:(D.agg ((ds.drop (i*szr+off)).take sz)).cl0=(Wi x off sz).toD:=by have h2:=zcr (hpre x hx) off;rw[List.drop_drop,Yd]at h2;have:=(ziA h2 (n:=sz) (by rw[zBJ];omega)).2;simp only[Wi,D.cl0,V.toD,this]
      split at h
      ·next hc=>
       simp only[zG]at hc;have h1:=zJ hc.1;have h2:1<szr:=zT hc.2;refine⟨_,h,_,hw,?_⟩;show(D.agg _).cl0=_;rw[hp2];have h0:off=0:=by omega
       subst h0;rw[Wi,zU,zV (by omega),<- zeL hok h2]
      ·exact⟨_,h,_,hw,hp2⟩
    ·rw[zA]at h;obtain⟨x,hx,h⟩:=h;rw[zA]at h;obtain⟨c,hc,h⟩:=h;obtain⟨w,hw,hcw⟩:=zm7 (hpre x hx) (Yc hc);rw[zBS]at hw;have hlt:=getElem?_lt hw;refine⟨_,h,w,?_,hcw⟩;simp only[vB,vL,ho,zF,zBw];rw[zBu (by omega),zO hlt];rw[zL hlt]at hw;injection hw with hw;simp[hw]
  case elx sz' x off=>
   obtain⟨hok,ds,rfl,hpre⟩:=hd;have hxl:=xw hok;rw[Yd]at hpre;split at h
   ·split at h<;>try contradiction
    next hle=>
     have hle:=zT hle;have hp:=ziA hpre (n:=sz) (by rw[zBJ];omega);have hw:vB st true sz (.el ds)=some (.agg (ds.take sz)):=by simp only[vB,vL,zBv];rw[zBu hp.1];rfl
     have hp2:(D.agg (ds.take sz)).cl0=(Wi x off sz).toD:=by simp only[Wi,D.cl0,V.toD,hp.2]
     split at h
     ·next hc=>
      simp only[zG]at hc;have h1:=zJ hc.1;have h2:1<sz':=zT hc.2;refine⟨_,h,_,hw,?_⟩;show(D.agg _).cl0=_;rw[hp2];have h0:off=0:=by omega
      subst h0;rw[Wi,zU,zV (by omega),<- zeL hok h2]
     ·exact⟨_,h,_,hw,hp2⟩
   ·rw[zA]at h;obtain⟨c,hc,h⟩:=h;have hc':(x.parts.drop off)[0]?=some c:=by rw[zBS];exact Yc hc
    obtain⟨w,hw,hcw⟩:=zm7 hpre hc';refine⟨_,h,w,?_,hcw⟩;cases ds with
    | nil=>simp at hw
    | cons d s=>simp at hw;subst hw;simp[vB,vL]
  case el cs=>
   obtain⟨ds,rfl,hpre⟩:=hd;split at h
   ·obtain⟨hle,h⟩:=yq h;have hle:=zT hle;have hp:=ziA hpre hle;refine⟨_,h,.agg (ds.take sz),?_,?_⟩
    ·simp only[vB,vL,zBv];rw[zBu hp.1];rfl
    ·show(D.agg _).cl0=_;simp only[D.cl0,V.toD,hp.2]
   ·rw[zA]at h;obtain⟨c,hc,h⟩:=h;obtain⟨w,hw,hcw⟩:=zm7 hpre hc;refine⟨_,h,w,?_,hcw⟩;cases ds with
    | nil=>simp at hw
    | cons d s=>simp at hw;subst hw;simp[vB,vL]
theorem zzp{c:Cx}{l:List PD}{ds:List D}(h:RPL c l ds){cap:List CP}(k:zk1 l=some cap):RCL c.ρ c.m cap ds:=by
 induction l generalizing ds cap with
 | nil=>cases ds with
  | nil=>simp[zk1]at k;subst k;trivial
  | cons d s=>exact h.elim
 | cons q r' ih=>cases ds with
  | nil=>exact h.elim
  | cons d s=>
   unfold zk1 at k;split at k<;>try contradiction
   ·next x r'' e=>
    injection e with e1 e2;subst e1;subst e2;split at k<;>try contradiction
    next l' hl=>injection k with k;subst k;exact⟨h.1,ih h.2 hl⟩
   ·next k' off r'' e=>
    injection e with e1 e2;subst e1;subst e2;split at k<;>try contradiction
    next l' hl=>injection k with k;subst k;exact⟨h.1,ih h.2 hl⟩
theorem zyx{x:V}{l:List V}{d:D}{ds:List D}(hd:d.cl0=x.toD)(hl:cl0L ds=toDL l){y:V}(h:zpl x l=some y):zl8 d ds=some y.toD:=by
 induction l generalizing x d ds with
 | nil=>
  cases ds with
  | nil=>
    unfold zpl at h;split at h<;>try contradiction
    injection h with h;subst h;rw[vJ hd];rfl
  | cons a b=>simp[cl0L,toDL]at hl
 | cons z r ih=>
  cases ds with
  | nil=>simp[cl0L,toDL]at hl
  | cons a b=>
   simp only[cl0L,toDL,List.cons.injEq]at hl;unfold zpl at h;split at h<;>try contradiction
   ·next k x' k' y' r'' e=>
    injection e with e1 e2;subst e1;subst e2;rw[vJ hd,vJ hl.1];simp only[zl8];split at h<;>try contradiction
    next hk=>rw[zBu hk];exact ih rfl hl.2 h
theorem zxx{x:V}{l:List V}{d:D}{ds:List D}(hd:d.cl0=x.toD)(hl:cl0L ds=toDL l){y:V}(h:zpH x l=some y):zmS d ds=some y.toD:=by
 induction l generalizing x d ds with
 | nil=>
  cases ds with
  | nil=>
    unfold zpH at h;split at h<;>try contradiction
    injection h with h;subst h;rw[vJ hd];rfl
  | cons a b=>simp[cl0L,toDL]at hl
 | cons z r ih=>
  cases ds with
  | nil=>simp[cl0L,toDL]at hl
  | cons a b=>
   simp only[cl0L,toDL,List.cons.injEq]at hl;unfold zpH at h;split at h<;>try contradiction
   ·next k x' k' y' r'' e=>
    injection e with e1 e2;subst e1;subst e2;rw[vJ hd,vJ hl.1];simp only[zmS];split at h<;>try contradiction
    next hk=>rw[zBu hk];exact ih rfl hl.2 h
theorem zbu{xs:List V}{ds:List D}(h1:cl0L ds=toDL xs)(h2:yd ds=true):yE xs=true:=by
 induction ds generalizing xs with
 | nil=>cases xs with
  | nil=>rfl
  | cons x s=>simp[cl0L,toDL]at h1
 | cons d t ih=>
  cases xs with
  | nil=>simp[cl0L,toDL]at h1
  | cons x s=>
   simp only[cl0L,toDL,List.cons.injEq]at h1;simp only[yd,zG]at h2;simp only[yE,zG];refine⟨?_,ih h1.2 h2.2⟩;have h3:=h1.1;have h4:=h2.1;cases x<;>first
    | rfl
    | (simp only[V.toD]at h3;obtain⟨_,rfl,_⟩:=zgy h3;simp[D.oneCell]at h4)
    | (simp only[V.toD]at h3;obtain⟨_,rfl,_⟩:=zrT h3;simp[D.oneCell]at h4)
theorem ziF{l:List V}(h:yE l=true):(Kj l).parts=l:=by
 match l,h with
 | [],_=>rfl
 | [x],h=>simp only[Kj];cases x<;>simp_all [V.parts,yE,V.one]
 | _::_::_,_=>rfl
theorem zcv{z:List D}{l:List V}(h:znZ z=some l):cl0L z=toDL l/\yd z=true/\yE l=true/\0<l.length/\(Kj l).parts=l:=by
 unfold znZ at h;split at h<;>try contradiction
 split at h<;>try contradiction
 split at h<;>try contradiction
 split at h<;>try contradiction
 next l0 hl _ h1 _ l' hl' _ hz=>injection h with h;subst h;have hzl:=Jy (KN (c:=⟨id,fun _=>none,0,fun _=>none,fun _=>none,0⟩) hl) hl';have hzo:=V3 hl h1;have hone:=zbu hzl hzo;exact⟨hzl,hzo,hone,zT hz,ziF hone⟩
theorem zdj{z:List D}{l:List V}(hzl:cl0L z=toDL l)(hel:(Kj l).parts=l)(n:Nat):cl0L (rep n z)=flatD (List.replicate n (Kj l)):=by
 rw[ztz,hel];induction n with
 | zero=>rfl
 | succ n ih=>simp only[rep,List.replicate_succ,List.flatten_cons,qL,hzl]at ih ⊢;rw[ih]
theorem W3{c:Cx}(x:V):RP c (.s (.v x)) x.toD:=Qd x
theorem zzr{E:Env}{gl:Gl}{pc:PcT}(hg:GlR E gl)(hS:Sim ρ τ p st){o:O}(hq:quiet o=true){K:Option PD->PSt->Option ρ'}(h:VF gl pc p o K=some r) :
  ∃ d,K (some d) p=some r /\ ∃ e,opD E st o=some (some e,st)/\RP (zy ρ τ p st) d e:=by
 cases o<;>simp[quiet]at hq<;>simp only[VF]at h;case mv x=>
  split at h<;>try contradiction
  next d hd=>obtain⟨e,he,hr⟩:=yp hg hS hd;exact⟨d,h,e,by simp[opD,he],hr⟩
 case pick c a b=>
  split at h<;>try contradiction
  split at h<;>try contradiction
  split at h<;>try contradiction
  next c hc _ x hx _ y hy=>
   rw[zA]at h;obtain⟨cb,hcb,h⟩:=h;obtain⟨e1,he1,hr1⟩:=xD hg hS hc;obtain⟨e2,he2,hr2⟩:=xD hg hS hx;obtain⟨e3,he3,hr3⟩:=xD hg hS hy;have:=Yg hcb hr1;subst this;cases cb
   ·exact⟨_,h,e3,by simp[opD,he1,he3],hr3⟩
   ·exact⟨_,h,e2,by simp[opD,he1,he2],hr2⟩
 case build z ps=>
  split at h<;>try contradiction
  split at h<;>try contradiction
  next l hl _ h1=>obtain⟨cs,h2,l',es,h3,h4,h5,h6⟩:=zsW hg hS (KN hl) (V3 hl h1) h;exact⟨_,h2,.agg es,by simp[opD,h3,h4],zcy h5 h6⟩
 case lit n z ps=>
  split at h<;>try contradiction
  next l hl=>obtain⟨hzl,hzo,hone,hz,hel⟩:=zcv hl;have hok:okN l.length (Kj l)=true:=Vb (by rw[hel]) (by rw[hel];exact hone);have hflat:cl0L (rep n z)=flatD (List.replicate n (Kj l)):=zdj hzl hel n;obtain⟨els,h2,h3,h4,l2,es,h5,h6,h7,h8⟩:=zx8 hg hS hz (zcU hok) hflat (zrw hzo n) h;refine⟨_,h2,.sl .full n es,?_,es,by rw[h3,zBV],h7⟩;simp[opD,h5,h6,h8]
 case load ag sz a=>
  split at h<;>try contradiction
  next d hd=>obtain⟨e,he,hr⟩:=yp hg hS hd;obtain⟨v,h1,w,h2,h3⟩:=zoE hS hr h;exact⟨v,h1,w,by simp[opD,he,h2],h3⟩
 case chk x=>
  split at h<;>try contradiction
  next k off hd=>obtain⟨e,he,hr⟩:=yp hg hS hd;obtain⟨h1,rfl⟩:=hr;exact⟨_,h,_,by simp[opD,he],h1,rfl⟩
  next k sz i off hd=>obtain⟨e,he,hr⟩:=yp hg hS hd;obtain⟨h1,rfl,h2⟩:=hr;exact⟨_,h,_,by simp[opD,he],h1,rfl,h2⟩
  next cs hd=>obtain⟨e,he,hr⟩:=yp hg hS hd;obtain⟨ds,rfl,h1⟩:=hr;exact⟨_,h,_,by simp[opD,he],ds,rfl,h1⟩
  next sz x off hd=>obtain⟨e,he,hr⟩:=yp hg hS hd;obtain⟨h1,ds,rfl,h2⟩:=hr;exact⟨_,h,_,by simp[opD,he],h1,ds,rfl,h2⟩
  next f c hd=>obtain⟨e,he,hr⟩:=yp hg hS hd;obtain⟨ds,rfl,h1⟩:=hr;exact⟨_,h,_,by simp[opD,he],ds,rfl,h1⟩
 case bin op x y=>
  split at h<;>try contradiction
  split at h<;>try contradiction
  next x hx _ y hy=>rw[zA]at h;obtain⟨d,hd,h⟩:=h;obtain⟨e1,he1,hr1⟩:=xD hg hS hx;obtain⟨e2,he2,hr2⟩:=xD hg hS hy;exact⟨_,h,_,by simp[opD,he1,he2,zx9 hr1 hr2 hd],W3 d⟩
 case beq neg x y=>
  split at h<;>try contradiction
  split at h<;>try contradiction
  next x hx _ y hy=>rw[zA]at h;obtain⟨a,ha,h⟩:=h;rw[zA]at h;obtain⟨b,hb,h⟩:=h;obtain⟨e1,he1,hr1⟩:=xD hg hS hx;obtain⟨e2,he2,hr2⟩:=xD hg hS hy;have:=Yg ha hr1;subst this;have:=Yg hb hr2;subst this;refine⟨_,h,.bool (if neg=true then !(a==b)else a==b),by simp only[opD,he1,he2],?_⟩;cases neg<;>rfl
 case inil neg x=>
  split at h<;>try contradiction
  next x hx=>
   rw[zA]at h;obtain⟨d,hd,h⟩:=h;obtain⟨e1,he1,hr1⟩:=xD hg hS hx;refine⟨_,h,d.toD,?_,W3 d⟩;unfold zaF at hd;split at hd<;>try contradiction
   all_goals injection hd with hd;subst hd
   ·have:e1 = .nili:=by cases e1<;>simp_all [D.cl0,V.toD]
    simp[opD,he1,this,V.toD]
   ·have : ∃ t d,e1 = .iface t d:=by cases e1<;>simp_all [D.cl0,V.toD]
    obtain⟨t,d,rfl⟩:=this;simp[opD,he1,V.toD]
 case tas t ok x=>
  split at h<;>try contradiction
  next x hx=>
   rw[zA]at h;obtain⟨d,hd,h⟩:=h;obtain⟨e1,he1,hr1⟩:=xD hg hS hx;unfold zza at hd;split at hd<;>try contradiction
   next u y=>
    split at hd<;>try contradiction
    next hu=>
     injection hd with hd;subst hd hu;have : ∃ d0,e1 = .iface u d0/\d0.cl0=y.toD:=by cases e1<;>simp_all [D.cl0,V.toD]
     obtain⟨d0,rfl,h0⟩:=this;refine⟨_,h,if ok then .tup [d0,.bool true]else d0,by simp[opD,he1],?_⟩;cases ok
     ·exact h0
     ·show(D.tup [d0,.bool true]).cl0=_;simp[D.cl0,cl0L,V.toD,toDL,h0]
 case un op x=>
  split at h<;>try contradiction
  next x hx=>rw[zA]at h;obtain⟨d,hd,h⟩:=h;obtain⟨e1,he1,hr1⟩:=xD hg hS hx;exact⟨_,h,_,by simp[opD,he1,zAa hr1 hd],W3 d⟩
 case cvi k x=>
  split at h<;>try contradiction
  next x hx=>
   rw[zA]at h;obtain⟨d,hd,h⟩:=h;obtain⟨e1,he1,hr1⟩:=xD hg hS hx;unfold jA at hd;split at hd<;>try contradiction
   injection hd with hd;subst hd;exact⟨_,h,_,by simp[opD,he1,vJ hr1];rfl,W3 _⟩
 case cms x=>
  split at h<;>try contradiction
  next x hx=>
   rw[zA]at h;obtain⟨d,hd,h⟩:=h;obtain⟨e1,he1,hr1⟩:=xD hg hS hx;unfold zAZ at hd;split at hd<;>try contradiction
   injection hd with hd;subst hd;exact⟨_,h,_,by simp[opD,he1,WB hr1];rfl,W3 _⟩
 case cbs x=>
  split at h<;>try contradiction
  next d hd=>
   obtain⟨e,he,hr⟩:=yp hg hS hd;obtain⟨xs,h1,h2,⟨ds,h3,h4⟩,h5⟩:=zhL hS hr h;rw[zA]at h1;obtain⟨s,hs,h1⟩:=h1;refine⟨_,h1,_,?_,W3 _⟩;have hb:=znv hs h4;have hk:(∃ g n ys,e = .sl g n ys) \/ ∃ k off n c s,e = .ref k off n c s:=by
    cases hi:d.isRef with
    | false=>obtain⟨g,ds,rfl,_⟩:=h5 hi;exact .inl ⟨_,_,_,rfl⟩
    | true=>
     unfold PD.isRef at hi;split at hi<;>try contradiction
     ·obtain⟨_,_,h6,_⟩:=hr;rcases h6 with⟨rfl,_⟩ | ⟨_,rfl,_⟩
      ·exact .inr ⟨_,_,_,_,_,rfl⟩
      ·exact .inl ⟨_,_,_,rfl⟩
     ·obtain⟨_,⟨_,_,rfl⟩,_⟩:=hr;exact .inr ⟨_,_,_,_,_,rfl⟩
   rcases hk with⟨g,n,ys,rfl⟩ | ⟨k,off,n,c,s',rfl⟩
   ·simp[opD,he,h3,hb,V.toD]
   ·simp[opD,he,h3,hb,V.toD]
 case csb x=>
  split at h<;>try contradiction
  next x hx=>rw[zA]at h;obtain⟨s,hs,h⟩:=h;obtain⟨e1,he1,hr1⟩:=xD hg hS hx;have:=ziB hs hr1;subst this;refine⟨_,h,.sl .no s.length (ofBytes s),by simp only[opD,he1],?_⟩;show(D.sl .no s.length (ofBytes s)).cl0=_;simp only[D.cl0,V.toD];rw[<- zfL,flatD_cl0];simp[XW]
 case ifc t x=>
  split at h<;>try contradiction
  split at h<;>try contradiction
  next d hd _ x hx=>obtain⟨e,he,hr⟩:=yp hg hS hd;refine⟨_,h,.iface t e,by simp[opD,he],?_⟩;show(D.iface t e).cl0=_;simp only[D.cl0,V.toD,PD.pure_ok hr hx]
 case mkf f cap=>
  split at h<;>try contradiction
  next l hl=>
   obtain⟨es,h1,h2⟩:=zdw hg hS hl;split at h<;>try contradiction
   next cap' hc=>exact⟨_,h,.fn f es,by simp[opD,h1],es,rfl,zzp h2 hc⟩
 case slc sz x l h' m=>
  split at h<;>try contradiction
  split at h<;>try contradiction
  split at h<;>try contradiction
  split at h<;>try contradiction
  next d hd _ lv hl _ hv hh _ mv hm=>
   obtain⟨e,he,hr⟩:=yp hg hS hd;obtain⟨l1,hl1,hl2⟩:=WO hg hS hl;obtain⟨h1,hh1,hh2⟩:=WO hg hS hh;obtain⟨m1,hm1,hm2⟩:=WO hg hS hm;split at h
   ·next k sz' off n c z=>
    split at h<;>try contradiction
    next hsz=>
     have hsz:=zJ hsz;subst hsz;rw[zA]at h;obtain⟨q,hq,h⟩:=h;unfold zxt at hq;rw[zA]at hq;obtain⟨l',hl',hq⟩:=hq;rw[zA]at hq;obtain⟨h'',hh',hq⟩:=hq;rw[zA]at hq;obtain⟨m',hm',hq⟩:=hq;split at hq<;>try contradiction
     next hc=>
      injection hq with hq;subst hq;have e1:=jV hl2 hl';have e2:=jV hh2 hh';have e3:=jV hm2 hm';obtain⟨hk,⟨hn,hcr⟩,hdd,hrk⟩:=hr;have hmn:m1.isNone=mv.isNone:=by cases m1<;>cases mv<;>simp_all
      have hhs:h1.isSome=hv.isSome:=by cases h1<;>cases hv<;>simp_all
      have hcl:l'<=h''/\h''<=m'/\m'<=c:=hc.2;rcases hdd with⟨rfl,_⟩ | ⟨rfl,rfl,_⟩
      ·refine⟨_,h,(if m'=l' then .sl .full 0 []else .ref (ρ k) (off*sz'+l'*sz') (h''-l') (m'-l') sz'),?_,?_⟩
       ·simp only[opD,he,zD,hl1,hh1,hm1,zeN,e1,e2,e3];rw[zBu ⟨by rw[hmn,hhs];exact hc.1,trivial,hcl.1,hcl.2.1,hcl.2.2,hcr⟩];rfl
       ·refine⟨hk,by simp only;omega,?_,fun s l hsl => ?_⟩
        ·simp only;by_cases hml:m'=l'
         ·right;exact⟨by omega,by rw[zBu hml],trivial⟩
         ·left;rw[zBt hml,zBW];exact⟨rfl,.inr (by omega)⟩
        ·obtain⟨h5,h6⟩:=hrk s l hsl;exact⟨h5,by simp only;omega⟩
      ·have hl0:l'=0:=by omega
       have hh0:h''=0:=by omega
       have hm0:m'=0:=by omega
       have hn0:n=0:=by omega
       subst hl0;subst hh0;subst hm0;subst hn0;refine⟨_,h,.sl .full 0 [],?_,?_⟩
       ·simp only[opD,he,zD,hl1,hh1,hm1,zeN,e1,e2];cases m1 with
        | none=>simp
        | some m2=>
         have:h1.isSome=true:=by rw[hhs];rcases hc.1 with h7 | h7<;>simp_all
         simp only[e3,zD];rw[zBu ⟨this,by omega,by omega,by omega⟩];simp
       ·exact⟨hk,by simp only;omega,.inr ⟨by simp,rfl,rfl⟩,fun s l hsl=>⟨(hrk s l hsl).1,by have:=(hrk s l hsl).2;simp only;omega⟩⟩
   ·contradiction
   ·next hnr hnu=>
    have hir:d.isRef=false:=by
     cases d with
     | agg ps=>rfl
     | s q=>cases q<;>first | rfl | exact(hnr _ _ _ _ _ _ rfl).elim | exact(hnu _ _ _ rfl).elim
    obtain⟨xs,h2,h3,_,h5⟩:=zhL hS hr h;obtain⟨g,ds,rfl,hds⟩:=h5 hir;split at h2
    ·next=>
     rw[zA]at h2;obtain⟨q,hq,h2⟩:=h2;unfold Wk at hq;rw[zA]at hq;obtain⟨l',hl',hq⟩:=hq;rw[zA]at hq;obtain⟨h'',hh',hq⟩:=hq;split at hq<;>try contradiction
     next hc=>
      injection hq with hq;subst hq;have e1:=jV hl2 hl';have e2:=jV hh2 hh';have hm0:m1=none:=by cases m1<;>simp_all
      subst hm0;have hll:((xs.drop l').take (h''-l')).length=h''-l':=by rw[zBI,zBJ];omega
      refine⟨_,h2,_,by simp only[opD,he,zD,hl1,hh1,hm1,zeN,e1,e2];rw[zBu hc];rfl,?_⟩;show D.cl0 _=_;simp only[V.toD,hll];split
      ·next h0=>
       obtain⟨rfl,rfl⟩:=h0;simp only[D.cl0,hds,zU,Nat.sub_zero,List.take_length]
      ·simp only[D.cl0,vY,qw,hds,qS h3,qn (kT h3 _)]
    ·next m2=>
     rw[zA]at h2;obtain⟨q,hq,h2⟩:=h2;unfold ztk at hq;rw[zA]at hq;obtain⟨l',hl',hq⟩:=hq;rw[zA]at hq;obtain⟨h'',hh',hq⟩:=hq;rw[zA]at hq;obtain⟨m',hm',hq⟩:=hq;split at hq<;>try contradiction
     next hc=>
      injection hq with hq;subst hq;have e1:=jV hl2 hl';have e2:=jV hh2 hh';have e3:=jV hm2 hm';have hhs:h1.isSome=hv.isSome:=by cases h1<;>cases hv<;>simp_all
      obtain⟨m3,rfl⟩ : ∃ m3,m1=some m3:=by cases m1<;>simp_all
      have hll:((xs.drop l').take (h''-l')).length=h''-l':=by rw[zBI,zBJ];omega
      refine⟨_,h2,.sl .full (h''-l') ((ds.drop (l'*sz)).take ((h''-l')*sz)),?_,_,by rw[hll],?_⟩
      ·simp only[opD,he,zD,hl1,hh1,hm1,zeN,e1,e2,e3];rw[zBu ⟨by rw[hhs];exact hc.1,hc.2.1,by omega,hc.2.2.2⟩,zBu hc.2.2.1];rfl
      ·simp only[vY,qw,hds,qS h3,qn (kT h3 _)]
 case sls x l h'=>
  split at h<;>try contradiction
  split at h<;>try contradiction
  split at h<;>try contradiction
  next x hx _ lv hl _ hv hh=>
   rw[zA]at h;obtain⟨d,hd,h⟩:=h;obtain⟨e,he,hr⟩:=xD hg hS hx;obtain⟨l1,hl1,hl2⟩:=WO hg hS hl;obtain⟨h1,hh1,hh2⟩:=WO hg hS hh;unfold zm2 at hd;split at hd<;>try contradiction
   rw[zA]at hd;obtain⟨q,hq,hd⟩:=hd;injection hd with hd;subst hd;unfold Wk at hq;rw[zA]at hq;obtain⟨l',hl',hq⟩:=hq;rw[zA]at hq;obtain⟨h'',hh',hq⟩:=hq;split at hq<;>try contradiction
   next hc=>injection hq with hq;subst hq;refine⟨_,h,_,?_,W3 _⟩;simp only[opD,he,zD,hl1,hh1,WB hr,zqG,jV hl2 hl',jV hh2 hh'];rw[zBu hc];rfl
 case sla n sz x l h' m=>
  split at h<;>try contradiction
  split at h<;>try contradiction
  split at h<;>try contradiction
  split at h<;>try contradiction
  next d hd _ lv hl _ hv hh _ mv hm=>
   unfold zv6 at h;split at h<;>try contradiction
   next q=>
   split at h<;>try contradiction
   next k o=>
   split at h<;>try contradiction
   next fz sz' xs hrow=>
   split at h<;>try contradiction
   next hb=>
   simp only[zG]at hb;obtain⟨⟨ho,hsz⟩,hnc⟩:=hb;have ho:=zJ ho;subst ho;have hsz:=zJ hsz;subst hsz;have hnc:n<J4:=zT hnc;obtain⟨hn,h⟩:=yq h;have hn:=zT hn;obtain⟨e,he,hr⟩:=yp hg hS hd;obtain⟨hk,rfl⟩:=hr;obtain⟨l1,hl1,hl2⟩:=WO hg hS hl;obtain⟨h1,hh1,hh2⟩:=WO hg hS hh;obtain⟨m1,hm1,hm2⟩:=WO hg hS hm;rw[zA]at h;obtain⟨q,hq,h⟩:=h;unfold zxt at hq;rw[zA]at hq;obtain⟨l',hl',hq⟩:=hq;rw[zA]at hq;obtain⟨h'',hh',hq⟩:=hq;rw[zA]at hq;obtain⟨m',hm',hq⟩:=hq;split at hq<;>try contradiction
   next hc=>
    injection hq with hq;subst hq;have e1:=jV hl2 hl';have e2:=jV hh2 hh';have e3:=jV hm2 hm';have hmn:m1.isNone=mv.isNone:=by cases m1<;>cases mv<;>simp_all
    have hhs:h1.isSome=hv.isSome:=by cases h1<;>cases hv<;>simp_all
    have hcl:l'<=h''/\h''<=m'/\m'<=n:=hc.2;refine⟨_,h,(if m'=l' then .sl .full 0 []else .ref (ρ k) (0+l'*sz) (h''-l') (m'-l') sz),?_,?_⟩
    ·simp only[opD,he,zD,hl1,hh1,hm1,zp8,e1,e2,e3];rw[zBu ⟨by rw[hmn,hhs];exact hc.1,hc.2⟩];rfl
    ·refine⟨hk,by simp only;omega,?_,fun s l hsl => ?_⟩
     ·simp only;by_cases hml:m'=l'
      ·right;exact⟨by omega,by rw[zBu hml],trivial⟩
      ·left;rw[zBt hml,zBE];exact⟨rfl,.inr (by omega)⟩
     ·obtain⟨rr,h7,h8⟩:=qu hrow;have hsl:yj p.rows k=some (s,l):=hsl;rw[YR h7 h8]at hsl;simp only[zBB,zBC]at hsl;obtain⟨rfl,rfl⟩:=hsl;exact⟨rfl,by simp only;omega⟩
 case fad off x=>
  split at h<;>try contradiction
  next k o hd=>obtain⟨e,he,hr⟩:=yp hg hS hd;obtain⟨h1,rfl⟩:=hr;exact⟨_,h,_,by simp[opD,he],h1,rfl⟩
  next k sz i o hd=>obtain⟨e,he,hr⟩:=yp hg hS hd;obtain⟨h1,rfl,h2⟩:=hr;exact⟨_,h,.ptr (ρ k) (i*sz+o+off),by simp[opD,he];rfl,h1,by rw[Nat.add_assoc];rfl,h2⟩
  next cs hd=>obtain⟨e,he,hr⟩:=yp hg hS hd;obtain⟨ds,rfl,h1⟩:=hr;exact⟨_,h,.el (ds.drop off),by simp[opD,he],_,rfl,by rw[<- Yd];exact zcr h1 off⟩
  next sz x o hd=>obtain⟨e,he,hr⟩:=yp hg hS hd;obtain⟨h1,ds,rfl,h2⟩:=hr;refine⟨_,h,.el (ds.drop off),by simp[opD,he],h1,_,rfl,?_⟩;have:=zcr h2 off;rw[List.drop_drop]at this;exact this
 case fld ag off sz x=>
  split at h<;>try contradiction
  next x hd=>
   obtain⟨e,he,hr⟩:=yp hg hS hd;have hr:e.cl0=x.toD:=hr;split at h
   ·rw[zA]at h;obtain⟨d,hd,h⟩:=h;unfold zAE at hd;split at hd<;>try contradiction
    split at hd<;>try contradiction
    next xs hle=>injection hd with hd;subst hd;obtain⟨l,rfl,hl⟩:=zgy hr;have hll:=XK hl;refine⟨_,h,.agg ((l.drop off).take sz),?_,zmR hl off sz⟩;simp only[opD,he,zD,zBv];rw[zBu (by omega)]
   ·rw[zA]at h;obtain⟨d,hd,h⟩:=h;unfold zAX at hd;split at hd<;>try contradiction
    obtain⟨l,rfl,hl⟩:=zgy hr;obtain⟨w,hw,hcw⟩:=zgl hl hd;exact⟨_,h,w,by simp[opD,he,hw],hcw⟩
  next ps hd=>
   obtain⟨e,he,hr⟩:=yp hg hS hd;obtain⟨ds,rfl,hds,h1⟩:=hr;have hl:=WI hds;split at h
   ·split at h<;>try contradiction
    next hle=>have hle:=zT hle;refine⟨_,h,.agg ((ds.drop off).take sz),?_,zcy (zil (zio hds _) _) (WM (JT h1 _) _)⟩;simp only[opD,he,zD,zBv];rw[zBu (by omega)]
   ·split at h<;>try contradiction
    next q hq=>obtain⟨w,hw,hcw⟩:=zsv hds hq;exact⟨_,h,w,by simp[opD,he,hw],hcw⟩
 case iad sz x i=>
  split at h<;>try contradiction
  split at h<;>try contradiction
  next d hd _ iv hi=>
   obtain⟨e,he,hr⟩:=yp hg hS hd;obtain⟨e1,he1,hr1⟩:=xD hg hS hi;split at h
   ·next k sz' off n c z=>
    split at h<;>try contradiction
    next hsz=>
     simp only[zG]at hsz;have h1:=zJ hsz.1;subst h1;rw[zA]at h;obtain⟨j,hj,h⟩:=h;have hj':=Xp hr1 hj;have hlt:=zqd hj';obtain⟨hk,⟨hn,hcr⟩,hdd,hrk⟩:=hr;rcases hdd with⟨rfl,_⟩ | ⟨rfl,rfl,_⟩
     ·refine⟨_,h,.ptr (ρ k) (off*sz'+j*sz'),?_,hk,?_,fun s l hsl => ?_⟩
      ·simp only[opD,he,he1,zD,hj'];rw[zBu trivial];rfl
      ·rw[zBW];rfl
      ·obtain⟨h5,h6⟩:=hrk s l hsl;exact⟨h5,by omega⟩
     ·omega
   ·next k sz' n=>
    split at h<;>try contradiction
    next hsz=>
     simp only[zG]at hsz;have h1:=zJ hsz.1;subst h1;rw[zA]at h;obtain⟨j,hj,h⟩:=h;have hj':=Xp hr1 hj;have hlt:=zqd hj';obtain⟨hk,⟨cp,hcp,rfl⟩,hrk⟩:=hr;refine⟨_,h,.ptr (ρ k) (0+j*sz'),?_,hk,?_,fun s l hsl => ?_⟩
     ·simp only[opD,he,he1,zD,hj'];rw[zBu trivial];rfl
     ·rw[zBE];rfl
     ·obtain⟨h5,h6⟩:=hrk s l hsl;exact⟨h5,by omega⟩
   ·next hnr hnu=>
    have hir:d.isRef=false:=by
     cases d with
     | agg ps=>rfl
     | s q=>cases q<;>first | rfl | exact(hnr _ _ _ _ _ _ rfl).elim | exact(hnu _ _ _ rfl).elim
    obtain⟨xs,h2,h3,_,h5⟩:=zhL hS hr h;obtain⟨g,ds,rfl,hds⟩:=h5 hir;rw[zA]at h2;obtain⟨j,hj,h2⟩:=h2;rw[zA]at h2;obtain⟨x,hx,h2⟩:=h2;have hj':=Xp hr1 hj;have hlt:=zqd hj';have hl:ds.length=xs.length*sz:=by have:=congrArg List.length hds;rw[yJ,xg h3]at this;exact this
    have hmul:(j+1)*sz<=xs.length*sz:=zW _ hlt;refine⟨_,h2,.el (ds.drop (j*sz)),?_,X2 h3 hx,_,rfl,?_⟩
    ·simp only[opD,he,he1,zD,hj'];rw[zBu (by omega)]
    ·rw[zU,qw,hds,qS h3,zim hx];exact List.prefix_append _ _
 case iaa n sz x i=>
  split at h<;>try contradiction
  next d hd=>
  split at h<;>try contradiction
  next iv hi=>
  obtain⟨e,he,hr⟩:=yp hg hS hd;obtain⟨e1,he1,hr1⟩:=xD hg hS hi;rw[zA]at h;obtain⟨j,hj,h⟩:=h;split at h<;>try contradiction
  next k o=>
   obtain⟨h1,rfl⟩:=hr;split at h
   ·next fz sz' xs hrow=>
    split at h<;>try contradiction
    next hb=>simp only[zG]at hb;obtain⟨ho,hsz⟩:=hb;have ho:=zJ ho;subst ho;have hsz:=zJ hsz;subst hsz;obtain⟨hlt,h⟩:=yq h;have hlt:j<xs.length:=zT hlt;refine⟨_,h,.ptr (ρ k) (0+j*sz),by simp[opD,he,he1,Xp hr1 hj];rfl,h1,by rw[zBE,zBF];rfl,fun s n hsn => ?_⟩;obtain⟨rr,h7,h8⟩:=qu hrow;have hsn:yj p.rows k=some (s,n):=hsn;rw[YR h7 h8]at hsn;simp only[zBB,zBC]at hsn;obtain⟨rfl,rfl⟩:=hsn;exact⟨rfl,hlt⟩
   ·exact⟨_,h,.ptr (ρ k) (o+j*sz),by simp[opD,he,he1,Xp hr1 hj];rfl,h1,rfl⟩
  next cs=>obtain⟨ds,rfl,h1⟩:=hr;exact⟨_,h,.el (ds.drop (j*sz)),by simp[opD,he,he1,Xp hr1 hj],_,rfl,by rw[<- Yd];exact zcr h1 _⟩
 case ixa ag n sz x i=>
  split at h<;>try contradiction
  split at h<;>try contradiction
  split at h<;>try contradiction
  next d0 hd0 _ x hx _ iv hi=>
   rw[zA]at h;obtain⟨d,hd,h⟩:=h;obtain⟨e,he,hr0⟩:=yp hg hS hd0;have hr:=PD.pure_ok hr0 hx;obtain⟨e1,he1,hr1⟩:=xD hg hS hi;unfold zjE at hd;split at hd<;>try contradiction
   rw[zA]at hd;obtain⟨j,hj,hd⟩:=hd;obtain⟨l,rfl,hl⟩:=zgy hr;have hll:=XK hl;split at hd
   ·next hag=>
    split at hd<;>try contradiction
    next hle=>injection hd with hd;subst hd;refine⟨_,h,.agg ((l.drop (j*sz)).take sz),?_,zmR hl _ _⟩;simp only[opD,he,he1,zD,Xp hr1 hj];rw[zBu hag,zBu (by omega)]
   ·next hag=>
    obtain⟨w,hw,hcw⟩:=zgl hl hd;refine⟨_,h,w,?_,hcw⟩;simp only[opD,he,he1,zD,Xp hr1 hj];rw[zBt hag,hw];rfl
 case ixs x i=>
  split at h<;>try contradiction
  split at h<;>try contradiction
  next x hx _ iv hi=>
   rw[zA]at h;obtain⟨d,hd,h⟩:=h;obtain⟨e,he,hr⟩:=xD hg hS hx;obtain⟨e1,he1,hr1⟩:=xD hg hS hi;unfold ZE at hd;split at hd<;>try contradiction
   rw[zA]at hd;obtain⟨j,hj,hd⟩:=hd;rw[zA]at hd;obtain⟨b,hb,hd⟩:=hd;injection hd with hd;subst hd;exact⟨_,h,.int .u8 b.toNat,by simp[opD,he,he1,WB hr,Xp hr1 hj,hb],rfl⟩
 case ext x i=>
  split at h<;>try contradiction
  next x hx=>
   rw[zA]at h;obtain⟨d,hd,h⟩:=h;obtain⟨e,he,hr⟩:=xD hg hS hx;unfold zj at hd;split at hd<;>try contradiction
   obtain⟨l,rfl,hl⟩:=zrT hr;obtain⟨w,hw,hcw⟩:=zgl hl hd;exact⟨_,h,w,by simp[opD,he,hw],hcw⟩
 case len x=>
  split at h<;>try contradiction
  next x hd=>
   obtain⟨e,he,hr⟩:=yp hg hS hd;have hr:e.cl0=x.toD:=hr;rw[zA]at h;obtain⟨n,hn,h⟩:=h;unfold yw at hn;split at hn<;>try contradiction
   injection hn with hn;subst hn;obtain⟨g,l,rfl,hl⟩:=zv7 hr;exact⟨_,h,.int .i64 _,by simp only[opD,he,zD],rfl⟩
  next id sz xs hd=>obtain⟨e,he,hr⟩:=yp hg hS hd;obtain⟨g,ds,rfl,_⟩:=hr;exact⟨_,h,.int .i64 _,by simp only[opD,he,zD],rfl⟩
  next xs hd=>obtain⟨e,he,hr⟩:=yp hg hS hd;obtain⟨ds,rfl,_⟩:=hr;exact⟨_,h,.int .i64 _,by simp only[opD,he,zD],rfl⟩
  next k sz off n c z hd=>
   obtain⟨e,he,hr⟩:=yp hg hS hd;obtain⟨hk,⟨hn,_⟩,hdd,_⟩:=hr;rcases hdd with⟨rfl,_⟩ | ⟨h1,rfl,_⟩
   ·exact⟨_,h,.int .i64 _,by simp only[opD,he,zD],rfl⟩
   ·have:n=0:=by omega
    subst this;exact⟨_,h,.int .i64 _,by simp only[opD,he,zD],rfl⟩
  next k sz n hd=>obtain⟨e,he,hr⟩:=yp hg hS hd;obtain⟨hk,⟨cp,_,rfl⟩,_⟩:=hr;exact⟨_,h,.int .i64 _,by simp only[opD,he,zD],rfl⟩
 case lns x=>
  split at h<;>try contradiction
  next x hx=>
   rw[zA]at h;obtain⟨d,hd,h⟩:=h;obtain⟨e,he,hr⟩:=xD hg hS hx;unfold zaj at hd;split at hd<;>try contradiction
   injection hd with hd;subst hd;exact⟨_,h,.int .i64 _,by simp only[opD,he,WB hr],rfl⟩
 case cap x=>
  split at h<;>try contradiction
  next xs hd=>obtain⟨e,he,hr⟩:=yp hg hS hd;obtain⟨ds,rfl,_⟩:=hr;exact⟨_,h,.int .i64 _,by simp only[opD,he,zD],rfl⟩
  next k sz off n c z hd=>
   obtain⟨e,he,hr⟩:=yp hg hS hd;obtain⟨hk,⟨hn,hcr⟩,hdd,_⟩:=hr;rcases hdd with⟨rfl,_⟩ | ⟨h1,rfl,_⟩
   ·exact⟨_,h,.int .i64 _,by simp only[opD,he,zD];rw[zBu hcr],rfl⟩
   ·subst h1;exact⟨_,h,.int .i64 _,by simp only[opD,he,zD],rfl⟩
 case min xs=>
  split at h<;>try contradiction
  next x l hl=>
   rw[zA]at h;obtain⟨d,hd,h⟩:=h;obtain⟨es,h1,h2⟩:=zse hg hS hl;cases es with
   | nil=>simp[cl0L,toDL]at h2
   | cons a b=>simp only[cl0L,toDL,List.cons.injEq]at h2;exact⟨_,h,_,by simp[opD,h1,zyx h2.1 h2.2 hd],W3 d⟩
 case max xs=>
  split at h<;>try contradiction
  next x l hl=>
   rw[zA]at h;obtain⟨d,hd,h⟩:=h;obtain⟨es,h1,h2⟩:=zse hg hS hl;cases es with
   | nil=>simp[cl0L,toDL]at h2
   | cons a b=>simp only[cl0L,toDL,List.cons.injEq]at h2;exact⟨_,h,_,by simp[opD,h1,zxx h2.1 h2.2 hd],W3 d⟩
end
end
section
structure Le(c c':Cx):Prop where
 ρ : ∀ k,k<c.m->c'.ρ k=c.ρ k
 m:c.m<=c'.m
 rk : ∀ k,k<c.m->c'.rk k=c.rk k\/c'.rk k=none
 τ : ∀ i l,c.τ i=some l->c'.τ i=some l/\c'.tip l=c.tip l
 ni:c.ni<=c'.ni
structure LeS(id:Nat)(c c':Cx):Prop where
 ρ : ∀ k,k<c.m->c'.ρ k=c.ρ k
 m:c.m<=c'.m
 rk : ∀ k,k<c.m->c'.rk k=c.rk k\/c'.rk k=none
 τ : ∀ i l,i≠id->c.τ i=some l->c'.τ i=some l/\c'.tip l=c.tip l
 ni:c.ni<=c'.ni
theorem RCL.le{ρ ρ':Nat->Nat}{m m':Nat}(hρ : ∀ k,k<m->ρ' k=ρ k)(hm:m<=m'){cap:List CP}{ds:List D}(h:RCL ρ m cap ds):RCL ρ' m' cap ds:=by
 induction cap generalizing ds with
 | nil=>cases ds with | nil=>trivial | cons d s=>exact h.elim
 | cons q r ih=>cases ds with
  | nil=>exact h.elim
  | cons d s=>
   refine⟨?_,ih h.2⟩;cases q with
   | v x=>exact h.1
   | p k off=>obtain⟨h1,h2⟩:=h.1;exact⟨zK h1 hm,by rw[hρ k h1];exact h2⟩
theorem RS.leS{id:Nat}{c c':Cx}(h:LeS id c c'){q:PS}{d:D}(hr:RS c q d):RS c' (q.strip id) d:=by
 cases q with
 | v x=>exact hr
 | own i sz xs=>
  obtain⟨g,ds,h1,h2,h3,h0,h4⟩:=hr;simp only[PS.strip];split
  ·subst h1;show(D.sl _ _ _).cl0=_;simp only[D.cl0,V.toD,h2]
  ·next hi=>
   have hi:i≠id:=fun e=>by subst e;rw[Nat.beq_refl]at hi;contradiction
   refine⟨g,ds,h1,h2,h3,zK h0 h.ni,?_⟩;rcases h4 with h4 | ⟨l,h4,h5,h6⟩
   ·exact .inl h4
   ·obtain⟨h7,h8⟩:=h.τ i l hi h5;exact .inr ⟨l,h4,h7,by rw[h8];exact h6⟩
 | full xs=>exact hr
 | ptr k off=>exact⟨zK hr.1 h.m,by rw[h.ρ k hr.1];exact hr.2⟩
 | ptrA k sz i off=>
  refine⟨zK hr.1 h.m,by rw[h.ρ k hr.1];exact hr.2.1,fun s n hs => ?_⟩;rcases h.rk k hr.1 with e | e
  ·exact hr.2.2 s n (by rw[<- e];exact hs)
  ·rw[e]at hs;contradiction
 | ref k sz off n cp z=>
  refine⟨zK hr.1 h.m,hr.2.1,by rw[h.ρ k hr.1];exact hr.2.2.1,fun s n hs => ?_⟩;rcases h.rk k hr.1 with e | e
  ·exact hr.2.2.2 s n (by rw[<- e];exact hs)
  ·rw[e]at hs;contradiction
 | uref k sz n=>
  refine⟨zK hr.1 h.m,by rw[h.ρ k hr.1];exact hr.2.1,fun s n hs => ?_⟩;rcases h.rk k hr.1 with e | e
  ·exact hr.2.2 s n (by rw[<- e];exact hs)
  ·rw[e]at hs;contradiction
 | el cs=>exact hr
 | elx sz x off=>exact hr
 | fn f cap=>obtain⟨ds,h1,h2⟩:=hr;exact⟨ds,h1,RCL.le h.ρ h.m h2⟩
theorem RS.le{c c':Cx}(h:Le c c'){q:PS}{d:D}(hr:RS c q d):RS c' q d:=by
 cases q with
 | own i sz xs=>
  obtain⟨g,ds,h1,h2,h3,h0,h4⟩:=hr;refine⟨g,ds,h1,h2,h3,zK h0 h.ni,?_⟩;rcases h4 with h4 | ⟨l,h4,h5,h6⟩
  ·exact .inl h4
  ·obtain⟨h7,h8⟩:=h.τ i l h5;exact .inr ⟨l,h4,h7,by rw[h8];exact h6⟩
 | _=>exact RS.leS (id:=0) ⟨h.ρ,h.m,h.rk,fun i l _=>h.τ i l,h.ni⟩ hr
theorem RSL.leS{id:Nat}{c c':Cx}(h:LeS id c c'){ps:List PS}{ds:List D}(hr:RSL c ps ds):RSL c' (stripL id ps) ds:=by
 induction ps generalizing ds with
 | nil=>cases ds with | nil=>trivial | cons d s=>exact hr.elim
 | cons q r ih=>cases ds with
  | nil=>exact hr.elim
  | cons d s=>exact⟨RS.leS h hr.1,ih hr.2⟩
theorem RSL.le{c c':Cx}(h:Le c c'){ps:List PS}{ds:List D}(hr:RSL c ps ds):RSL c' ps ds:=by
 induction ps generalizing ds with
 | nil=>cases ds with | nil=>trivial | cons d s=>exact hr.elim
 | cons q r ih=>cases ds with
  | nil=>exact hr.elim
  | cons d s=>exact⟨RS.le h hr.1,ih hr.2⟩
theorem RP.leS{id:Nat}{c c':Cx}(h:LeS id c c'){q:PD}{d:D}(hr:RP c q d):RP c' (q.strip id) d:=by
 cases q with
 | s q=>exact RS.leS h hr
 | agg ps=>obtain⟨ds,h1,h2,h3⟩:=hr;exact⟨ds,h1,RSL.leS h h2,h3⟩
theorem RP.le{c c':Cx}(h:Le c c'){q:PD}{d:D}(hr:RP c q d):RP c' q d:=by
 cases q with
 | s q=>exact RS.le h hr
 | agg ps=>obtain⟨ds,h1,h2,h3⟩:=hr;exact⟨ds,h1,RSL.le h h2,h3⟩
theorem RPL.le{c c':Cx}(h:Le c c'){ps:List PD}{ds:List D}(hr:RPL c ps ds):RPL c' ps ds:=by
 induction ps generalizing ds with
 | nil=>cases ds with | nil=>trivial | cons d s=>exact hr.elim
 | cons q r ih=>cases ds with
  | nil=>exact hr.elim
  | cons d s=>exact⟨RP.le h hr.1,ih hr.2⟩
theorem RW.leS{id:Nat}{c c':Cx}(h:LeS id c c'){q:RowC}{o:Ob}(hr:RW c q o):RW c' (q.strip id) o:=by
 cases q with
 | cells ps=>obtain⟨ds,h1,h2,h3⟩:=hr;exact⟨ds,h1,RSL.leS h h2,h3⟩
 | _=>exact hr
theorem RW.le{c c':Cx}(h:Le c c'){q:RowC}{o:Ob}(hr:RW c q o):RW c' q o:=by
 cases q with
 | cells ps=>obtain⟨ds,h1,h2,h3⟩:=hr;exact⟨ds,h1,RSL.le h h2,h3⟩
 | _=>exact hr
def RowC.isArr:RowC->Bool
 | .arr _ _ _=>true
 | _=>false
def Wf(p:PSt):Prop:=(∀ t d,xb p.tm t=some (true,d)->d.hasOwn=false) /\ ∀ (k:Nat) (r:Row),p.rows[k]?=some r->r.ro=true->r.c.hasOwn=false
structure Goes(ρ:Nat->Nat)(τ:Nat->Option Nat)(p:PSt)(st:St)(ρ':Nat->Nat)(τ':Nat->Option Nat)(p':PSt)(st':St):Prop where
 sim:Sim ρ' τ' p' st'
 nx:st.nx<=st'.nx
 lo:st'.lo=st.lo
 len:p.rows.length<=p'.rows.length
 ρs : ∀ k,k<p.rows.length->ρ' k=ρ k
 ρn : ∀ k,p.rows.length<=k->k<p'.rows.length->st.nx<=ρ' k
 τn : ∀ i l,τ' i=some l->(∃ j,τ j=some l)\/st.nx<=l
 wf:Wf p->Wf p'
 ro:Wf p -> ∀ (k:Nat) (r:Row),p.rows[k]?=some r->r.ro=true->p'.rows[k]?=some r
 rof : ∀ (k:Nat) (r':Row),k<p.rows.length->p'.rows[k]?=some r'->r'.ro=true -> ∃ r:Row,p.rows[k]?=some r/\r.ro=true
 rk : ∀ k,k<p.rows.length->yj p'.rows k=yj p.rows k\/yj p'.rows k=none
 mem : ∀ b,b<st.nx->(∀ (k:Nat) (r:Row),p.rows[k]?=some r->ρ k=b->r.ro=true)->st'.mem b=st.mem b
 tip : ∀ l,l<st.nx->(∀ i,τ i≠some l)->st'.tip l=st.tip l
 lw : ∀ m,m<=st.lw->m<=st.nx->(∀ (k:Nat) (r:Row),p.rows[k]?=some r->r.ro=false\/r.c.isArr=true->m<=ρ k)->(∀ i l,τ i=some l->m<=l)->m<=st'.lw
 flg:Wf p -> ∀ t d,xb p'.tm t=some (true,d)->xb p.tm t=some (true,d)/\get st'.tm t=get st.tm t
theorem Goes.refl{ρ τ p st}(h:Sim ρ τ p st):Goes ρ τ p st ρ τ p st where
 sim:=h
 nx:=zR _
 lo:=rfl
 len:=zR _
 ρs _ _:=rfl
 ρn k h1 h2:=by omega
 τn i l h := .inl ⟨i,h⟩
 wf h:=h
 ro _ _ _ h _:=h
 rof _ r' _ h hr:=⟨r',h,hr⟩
 rk _ _ := .inl rfl
 mem _ _ _:=rfl
 tip _ _ _:=rfl
 lw _ h _ _ _:=h
 flg _ _ _ h:=⟨h,rfl⟩
theorem YV{α:Type}{xs:List α}{k:Nat}(h:k<xs.length) : ∃ x,xs[k]?=some x:=⟨_,zL h⟩
theorem Goes.trans{ρ τ p st ρ1 τ1 p1 st1 ρ2 τ2 p2 st2}(hw:Wf p)(h:Goes ρ τ p st ρ1 τ1 p1 st1)(k:Goes ρ1 τ1 p1 st1 ρ2 τ2 p2 st2):Goes ρ τ p st ρ2 τ2 p2 st2 where
 sim:=k.sim
 nx:=zBK h.nx k.nx
 lo:=k.lo.trans h.lo
 len:=zBK h.len k.len
 ρs j hj:=by rw[k.ρs j (zK hj h.len),h.ρs j hj]
 ρn j h1 h2:=by
  rcases zBD j p1.rows.length with h3 | h3
  ·rw[k.ρs j h3];exact h.ρn j h1 h3
  ·exact zBK h.nx (k.ρn j h3 h2)
 τn i l hi:=by
  rcases k.τn i l hi with⟨j,hj⟩ | hj
  ·exact h.τn j l hj
  ·exact .inr (zBK h.nx hj)
 wf hw:=k.wf (h.wf hw)
 ro hw j r hj hr:=k.ro (h.wf hw) j r (h.ro hw j r hj hr) hr
 rof j r' hj h1 h2:=by obtain⟨r1,h3,h4⟩:=k.rof j r' (zK hj h.len) h1 h2;exact h.rof j r1 hj h3 h4
 rk j hj:=by
  rcases k.rk j (zK hj h.len)with e | e
  ·rw[e];exact h.rk j hj
  ·exact .inr e
 mem b hb hr:=by
  rw[k.mem b (zK hb h.nx) ?_,h.mem b hb hr];intro j r hj hjb;rcases zBD j p.rows.length with h3 | h3
  ·obtain⟨r0,hr0⟩:=YV h3;rw[h.ρs j h3]at hjb;have hro:=hr j r0 hr0 hjb;have:=h.ro hw j r0 hr0 hro;rw[hj]at this;injection this with this;subst this;exact hro
  ·have:=h.ρn j h3 (getElem?_lt hj);omega
 tip l hl hn:=by
  rw[k.tip l (zK hl h.nx) ?_,h.tip l hl hn];intro i hi;rcases h.τn i l hi with⟨j,hj⟩ | hj
  ·exact hn j hj
  ·omega
 lw m h1 h2 h3 h4:=by
  refine k.lw m (h.lw m h1 h2 h3 h4) (zBK h2 h.nx) ?_ ?_
  ·intro j r hj hr;rcases zBD j p.rows.length with h5 | h5
   ·obtain⟨r0,hr0⟩:=YV h5;rw[h.ρs j h5];refine h3 j r0 hr0 ?_;cases hb:r0.ro with
    | false=>exact .inl rfl
    | true=>
     have:=h.ro hw j r0 hr0 hb;rw[hj]at this;injection this with this;subst this;rcases hr with hr | hr
     ·rw[hr]at hb;contradiction
     ·exact .inr hr
   ·exact zBK h2 (h.ρn j h5 (getElem?_lt hj))
  ·intro i l hi;rcases h.τn i l hi with⟨j,hj⟩ | hj
   ·exact h4 j l hj
   ·exact zBK h2 hj
 flg hw t d ht:=by obtain⟨h1,h2⟩:=k.flg (h.wf hw) t d ht;obtain⟨h3,h4⟩:=h.flg hw t d h1;exact⟨h3,h2.trans h4⟩
section
variable {ρ:Nat->Nat} {τ:Nat->Option Nat} {p:PSt} {st:St}
theorem zsC(c:RowC):Le (zy ρ τ p st) ⟨fun k=>if k=p.rows.length then st.nx else ρ k,τ,p.rows.length+1,yj (p.newR c).rows,st.tip,p.ni⟩:=by
 refine⟨fun k hk => ?_,Nat.le_succ _,fun k hk => .inl ?_,fun i l h=>⟨h,rfl⟩,zR _⟩
 ·have hk:k<p.rows.length:=hk;show(if k=p.rows.length then st.nx else ρ k)=ρ k;rw[zBt (by omega)]
 ·have hk:k<p.rows.length:=hk;show yj (p.newR c).rows k=yj p.rows k;simp only[yj,PSt.newR,zBP hk]
theorem ZX(hS:Sim ρ τ p st){c:RowC}{o:Ob}(hw:RW ⟨fun k=>if k=p.rows.length then st.nx else ρ k,τ,p.rows.length+1,yj (p.newR c).rows,st.tip,p.ni⟩ c o) :
  Goes ρ τ p st (fun k=>if k=p.rows.length then st.nx else ρ k) τ (p.newR c) (st.newOb o)/\(p.newR c).rows.length=p.rows.length+1:=by
 have hlen:(p.newR c).rows.length=p.rows.length+1:=by simp[PSt.newR]
 have hget : ∀ k,k<p.rows.length->(p.newR c).rows[k]?=p.rows[k]?:=fun k hk=>by simp[PSt.newR,zBP hk]
 have hrk : ∀ k,k<p.rows.length->yj (p.newR c).rows k=yj p.rows k:=fun k hk=>by simp only[yj,hget k hk]
 have hle:Le (zy ρ τ p st) (zy (fun k=>if k=p.rows.length then st.nx else ρ k) τ (p.newR c) (st.newOb o)):=by refine⟨fun k hk => ?_,by simp[zy,hlen],fun k hk => .inl (hrk k hk),fun i l h=>⟨h,rfl⟩,zR _⟩;show(if k=p.rows.length then st.nx else ρ k)=ρ k;have hk:k<p.rows.length:=hk;rw[zBt (by omega)]
 have hcx:zy (fun k=>if k=p.rows.length then st.nx else ρ k) τ (p.newR c) (st.newOb o)=⟨fun k=>if k=p.rows.length then st.nx else ρ k,τ,p.rows.length+1,yj (p.newR c).rows,st.tip,p.ni⟩:=by simp only[zy,hlen];rfl
 refine⟨⟨?_,Nat.le_succ _,rfl,by omega,fun k hk => ?_,fun k h1 h2 => ?_,fun i l h => .inl ⟨i,h⟩,fun hw=>⟨hw.1,fun k r hk hr => ?_⟩,fun _ k r hk hr => ?_,fun k r' hk hr' hro=>⟨r',by rw[<- hget k hk];exact hr',hro⟩,fun k hk => .inl (hrk k hk),fun b hb _ => ?_,fun l hl _=>rfl,fun m h1 _ _ _=>h1,fun _ t d h=>⟨h,rfl⟩⟩,hlen⟩
 ·refine⟨fun t f d ht => ?_,fun k hk => ?_,fun k r hk => ?_,fun j k hj hk h => ?_,fun i l h => ?_,hS.linj⟩
  ·obtain⟨e,h1,h2⟩:=hS.tm t f d ht;exact⟨e,h1,RP.le hle h2⟩
  ·rw[hlen]at hk;show(if k=p.rows.length then st.nx else ρ k)<st.nx+1;split
   ·omega
   ·have:=hS.nx k (by omega);omega
  ·rcases zBD k p.rows.length with h1 | h1
   ·rw[hget k h1]at hk;obtain⟨o',h2,h3⟩:=hS.rows k r hk;refine⟨o',?_,RW.le hle h3⟩;rcases h2 with h2 | h2
    ·exact .inl h2
    ·right;show upd st.mem st.nx o (if k=p.rows.length then st.nx else ρ k)=_;rw[zBt (by omega)];have:=hS.nx k h1;unfold upd;rw[zBt (by omega)];exact h2
   ·have hk':=getElem?_lt hk;rw[hlen]at hk';have:k=p.rows.length:=by omega
    subst this;have:r=⟨false,c⟩:=by simp[PSt.newR]at hk;exact hk.symm
    subst this;refine⟨o,.inr ?_,by rw[hcx];exact hw⟩;show upd st.mem st.nx o (if p.rows.length=p.rows.length then st.nx else _)=_;rw[zBu rfl];unfold upd;rw[zBu rfl]
  ·rw[hlen]at hj hk;have h:(if j=p.rows.length then st.nx else ρ j)=(if k=p.rows.length then st.nx else ρ k):=h;split at h<;>split at h
   ·omega
   ·have:=hS.nx k (by omega);omega
   ·have:=hS.nx j (by omega);omega
   ·exact hS.inj j k (by omega) (by omega) h
  ·obtain⟨h1,h2⟩:=hS.lin i l h;exact⟨h1,Nat.lt_succ_of_lt h2⟩
 ·show(if k=p.rows.length then st.nx else ρ k)=ρ k;rw[zBt (by omega)]
 ·rw[hlen]at h2;show st.nx<=(if k=p.rows.length then st.nx else ρ k);rw[zBu (by omega)];exact zR _
 ·rcases zBD k p.rows.length with h1 | h1
  ·rw[hget k h1]at hk;exact hw.2 k r hk hr
  ·have hk':=getElem?_lt hk;rw[hlen]at hk';have:k=p.rows.length:=by omega
   subst this;simp[PSt.newR]at hk;subst hk;contradiction
 ·rw[hget k (getElem?_lt hk)];exact hk
 ·show upd st.mem st.nx o b=_;unfold upd;rw[zBt (by omega)]
theorem ZZ(hS:Sim ρ τ p st){k:Nat}{c c':RowC}{o:Ob}(hk:p.rows[k]?=some ⟨false,c⟩)(hrk:yj (p.setR k c').rows k=yj p.rows k)(hw:RW (zy ρ τ p st) c' o) :
  Goes ρ τ p st ρ τ (p.setR k c') (st.setOb (ρ k) o):=by
 have hkl:=getElem?_lt hk;have hlen:(p.setR k c').rows.length=p.rows.length:=by simp[PSt.setR]
 have hget : ∀ j,j≠k->(p.setR k c').rows[j]?=p.rows[j]?:=fun j hj=>by simp[PSt.setR,zCe (fun e=>hj e.symm)]
 have hself:(p.setR k c').rows[k]?=some ⟨false,c'⟩:=by simp[PSt.setR,zCd hkl]
 have hrk' : ∀ j,yj (p.setR k c').rows j=yj p.rows j:=fun j=>by
  by_cases e:j=k
  ·subst e;exact hrk
  ·simp only[yj,hget j e]
 have hrof : ∀ (j:Nat) (r':Row),j<p.rows.length->(p.setR k c').rows[j]?=some r'->r'.ro=true -> ∃ r:Row,p.rows[j]?=some r/\r.ro=true:=by
  intro j r' _ hj hr;by_cases e:j=k
  ·subst e;rw[hself]at hj;injection hj with hj;subst hj;contradiction
  ·rw[hget j e]at hj;exact⟨r',hj,hr⟩
 have hcx:zy ρ τ (p.setR k c') (st.setOb (ρ k) o)=zy ρ τ p st:=by simp only[zy,hlen,show yj (p.setR k c').rows=yj p.rows from funext hrk'];rfl
 refine⟨⟨fun t f d ht => ?_,fun j hj => ?_,fun j r hj => ?_,fun a b ha hb h => ?_,hS.lin,hS.linj⟩,zR _,rfl,by omega,fun _ _=>rfl,fun j h1 h2=>by omega,fun i l h => .inl ⟨i,h⟩,fun hw=>⟨hw.1,fun j r hj hr => ?_⟩,fun _ j r hj hr => ?_,hrof,fun j _ => .inl (hrk' j),fun b hb hr => ?_,fun l hl _=>rfl,fun m h1 _ h3 _ => ?_,fun _ t d h=>⟨h,rfl⟩⟩
 ·rw[hcx];exact hS.tm t f d ht
 ·rw[hlen]at hj;exact hS.nx j hj
 ·rw[hcx];by_cases e:j=k
  ·subst e;rw[hself]at hj;injection hj with hj;subst hj;refine⟨o,.inr ?_,hw⟩;show upd st.mem (ρ j) o (ρ j)=_;unfold upd;rw[zBu rfl]
  ·rw[hget j e]at hj;obtain⟨o',h2,h3⟩:=hS.rows j r hj;refine⟨o',?_,h3⟩;rcases h2 with h2 | h2
   ·exact .inl h2
   ·right;show upd st.mem (ρ k) o (ρ j)=_;unfold upd;rw[zBt (fun h=>e (hS.inj j k (getElem?_lt hj) hkl h))];exact h2
 ·rw[hlen]at ha hb;exact hS.inj a b ha hb h
 ·by_cases e:j=k
  ·subst e;rw[hself]at hj;injection hj with hj;subst hj;contradiction
  ·rw[hget j e]at hj;exact hw.2 j r hj hr
 ·by_cases e:j=k
  ·subst e;rw[hk]at hj;injection hj with hj;subst hj;contradiction
  ·rw[hget j e];exact hj
 ·show upd st.mem (ρ k) o b=_;unfold upd;rw[zBt];intro e;have:=hr k _ hk e.symm;contradiction
 ·have h5:=h3 k _ hk (.inl rfl);show m<=(st.touch (ρ k)).lw;show m<=if ρ k<st.lw then ρ k else st.lw
  split<;>omega
theorem ztM(hS:Sim ρ τ p st){k:Nat}{c:RowC}(hk:p.rows[k]?=some ⟨false,c⟩)(hrk:yj (p.setR k .dead).rows k=yj p.rows k) :
  Goes ρ τ p st ρ τ (p.setR k .dead) (st.gone (ρ k)):=by
 have hkl:=getElem?_lt hk;have hlen:(p.setR k .dead).rows.length=p.rows.length:=by simp[PSt.setR]
 have hget : ∀ j,j≠k->(p.setR k .dead).rows[j]?=p.rows[j]?:=fun j hj=>by simp[PSt.setR,zCe (fun e=>hj e.symm)]
 have hself:(p.setR k .dead).rows[k]?=some ⟨false,.dead⟩:=by simp[PSt.setR,zCd hkl]
 have hrk' : ∀ j,yj (p.setR k .dead).rows j=yj p.rows j:=fun j=>by
  by_cases e:j=k
  ·subst e;exact hrk
  ·simp only[yj,hget j e]
 have hrof : ∀ (j:Nat) (r':Row),j<p.rows.length->(p.setR k .dead).rows[j]?=some r'->r'.ro=true -> ∃ r:Row,p.rows[j]?=some r/\r.ro=true:=by
  intro j r' _ hj hr;by_cases e:j=k
  ·subst e;rw[hself]at hj;injection hj with hj;subst hj;contradiction
  ·rw[hget j e]at hj;exact⟨r',hj,hr⟩
 have hcx:zy ρ τ (p.setR k .dead) (st.gone (ρ k))=zy ρ τ p st:=by simp only[zy,hlen,show yj (p.setR k .dead).rows=yj p.rows from funext hrk'];rfl
 refine⟨⟨fun t f d ht => ?_,fun j hj => ?_,fun j r hj => ?_,fun a b ha hb h => ?_,hS.lin,hS.linj⟩,zR _,rfl,by omega,fun _ _=>rfl,fun j h1 h2=>by omega,fun i l h => .inl ⟨i,h⟩,fun hw=>⟨hw.1,fun j r hj hr => ?_⟩,fun _ j r hj hr => ?_,hrof,fun j _ => .inl (hrk' j),fun b hb hr => ?_,fun l hl _=>rfl,fun m h1 _ h3 _ => ?_,fun _ t d h=>⟨h,rfl⟩⟩
 ·rw[hcx];exact hS.tm t f d ht
 ·rw[hlen]at hj;exact hS.nx j hj
 ·rw[hcx];by_cases e:j=k
  ·subst e;rw[hself]at hj;injection hj with hj;subst hj;exact⟨.iter [] 0,.inl rfl,trivial⟩
  ·rw[hget j e]at hj;obtain⟨o',h2,h3⟩:=hS.rows j r hj;refine⟨o',?_,h3⟩;rcases h2 with h2 | h2
   ·exact .inl h2
   ·right;show(if ρ j=ρ k then none else st.mem (ρ j))=_;rw[zBt (fun h=>e (hS.inj j k (getElem?_lt hj) hkl h))];exact h2
 ·rw[hlen]at ha hb;exact hS.inj a b ha hb h
 ·by_cases e:j=k
  ·subst e;rw[hself]at hj;injection hj with hj;subst hj;contradiction
  ·rw[hget j e]at hj;exact hw.2 j r hj hr
 ·by_cases e:j=k
  ·subst e;rw[hk]at hj;injection hj with hj;subst hj;contradiction
  ·rw[hget j e];exact hj
 ·show(if b=ρ k then none else st.mem b)=_;rw[zBt];intro e;have:=hr k _ hk e.symm;contradiction
 ·have h5:=h3 k _ hk (.inl rfl);show m<=(st.touch (ρ k)).lw;show m<=if ρ k<st.lw then ρ k else st.lw
  split<;>omega
theorem Z3(id:Nat)(tm:PTm)(t:Nat):xb (znl id tm) t=(xb tm t).map fun q=>(q.1,q.2.strip id):=by
 induction tm with
 | nil=>rfl
 | cons e r ih=>
  obtain⟨i,f,d⟩:=e;simp only[znl,xb];cases i.beq t
  ·exact ih
  ·rfl
theorem qq(id:Nat)(rows:List Row)(k:Nat):(stripR id rows)[k]?=(rows[k]?).map fun r=>⟨r.ro,r.c.strip id⟩:=by
 induction rows generalizing k with
 | nil=>simp[stripR]
 | cons r s ih=>obtain⟨f,c⟩:=r;cases k<;>simp_all [stripR]
theorem zjf(id:Nat)(rows:List Row):(stripR id rows).length=rows.length:=by
 induction rows with
 | nil=>rfl
 | cons r s ih=>obtain⟨f,c⟩:=r;simp_all [stripR]
theorem zcz(id:Nat)(rows:List Row)(k:Nat):yj (stripR id rows) k=yj rows k:=by
 simp only[yj,qq];cases h:rows[k]? with
 | none=>rfl
 | some r=>obtain⟨f,c⟩:=r;cases c<;>rfl
theorem strip_noOwn{id:Nat}{q:PS}(h:vG [q]=false):q.strip id=q:=by cases q<;>simp_all [vG,PS.strip]
theorem Kc(q:PS)(r:List PS):vG (q::r)=(vG [q]||vG r):=by cases q<;>simp[vG]
theorem zce{id:Nat}{ps:List PS}(h:vG ps=false):stripL id ps=ps:=by
 induction ps with
 | nil=>rfl
 | cons q r ih=>rw[Kc,Bool.or_eq_false_iff]at h;simp only[stripL,strip_noOwn h.1,ih h.2]
theorem PD.strip_noOwn{id:Nat}{d:PD}(h:d.hasOwn=false):d.strip id=d:=by
 cases d with
 | s q=>simp only[PD.strip,Ev.strip_noOwn h]
 | agg ps=>simp only[PD.strip,zce h]
theorem RowC.strip_noOwn{id:Nat}{c:RowC}(h:c.hasOwn=false):c.strip id=c:=by
 cases c with
 | cells ps=>simp only[RowC.strip,zce h]
 | _=>rfl
theorem zhP(hS:Sim ρ τ p st){id l:Nat}{τ':Nat->Option Nat}{st':St}(hid:id<p.ni)
  (htm:st'.tm=st.tm) (hmem:st'.mem=st.mem) (hlo:st'.lo=st.lo) (hnx:st.nx<=st'.nx) (hl:l<st'.nx)
  (htip : ∀ j,j≠l->st'.tip j=st.tip j) (hlw:st'.lw=st.lw\/st'.lw=if l<st.lw then l else st.lw)
  (hτ : ∀ i,i≠id->τ' i=τ i) (hτl:τ' id=some l) (hnew:τ id=some l/\st'.lw=(if l<st.lw then l else st.lw)\/st.nx<=l/\st'.lw=st.lw):Goes ρ τ p st ρ τ' (p.strip id) st':=by
 have hlen:(p.strip id).rows.length=p.rows.length:=zjf id p.rows;have hrof : ∀ (j:Nat) (r':Row),j<p.rows.length->(p.strip id).rows[j]?=some r'->r'.ro=true -> ∃ r:Row,p.rows[j]?=some r/\r.ro=true:=by intro j r' _ hj hr;simp only[PSt.strip,qq,zB]at hj;obtain⟨r0,h1,rfl⟩:=hj;exact⟨r0,h1,hr⟩
 have hne : ∀ i j,i≠id->τ i=some j->j≠l:=by
  intro i j hi hj e;subst e;rcases hnew with⟨h,_⟩ | ⟨h,_⟩
  ·exact hi (hS.linj i id j hj h)
  ·have:=(hS.lin i j hj).2;omega
 have hle:LeS id (zy ρ τ p st) (zy ρ τ' (p.strip id) st'):=
  ⟨fun _ _=>rfl,by simp[zy,hlen],fun k _ => .inl (zcz id p.rows k),fun i j hi hj=>⟨by show τ' i=_;rw[hτ i hi];exact hj,htip j (hne i j hi hj)⟩,zR _⟩
 refine⟨⟨fun t f d ht => ?_,fun j hj => ?_,fun j r hj => ?_,fun a b ha hb h => ?_,fun i j h => ?_,fun i j a hi hj => ?_⟩,hnx,hlo,by omega,fun _ _=>rfl,fun j h1 h2=>by omega,fun i j h => ?_,fun hw=>⟨fun t d ht => ?_,fun j r hj hr => ?_⟩,fun hw j r hj hr => ?_,hrof,fun j _ => .inl (zcz id p.rows j),fun b hb hr=>by rw[hmem],fun j hj hn => ?_,fun m h1 h2 h3 h4 => ?_,fun hw t d ht => ?_⟩
 ·simp only[PSt.strip,Z3,zB]at ht;obtain⟨⟨f',d'⟩,h1,h2⟩:=ht;simp only[zBC]at h2;obtain⟨rfl,rfl⟩:=h2;obtain⟨e,h3,h4⟩:=hS.tm t f' d' h1;exact⟨e,by rw[htm];exact h3,RP.leS hle h4⟩
 ·rw[hlen]at hj;exact zK (hS.nx j hj) hnx
 ·simp only[PSt.strip,qq,zB]at hj;obtain⟨r',h1,rfl⟩:=hj;obtain⟨o,h2,h3⟩:=hS.rows j r' h1;refine⟨o,?_,RW.leS hle h3⟩;rcases h2 with h2 | h2
  ·left;simp only[h2,RowC.strip]
  ·right;rw[hmem];exact h2
 ·rw[hlen]at ha hb;exact hS.inj a b ha hb h
 ·by_cases e:i=id
  ·subst e;rw[hτl]at h;injection h with h;subst h;exact⟨hid,hl⟩
  ·rw[hτ i e]at h;obtain⟨h1,h2⟩:=hS.lin i j h;exact⟨h1,zK h2 hnx⟩
 ·by_cases e1:i=id<;>by_cases e2:j=id
  ·rw[e1,e2]
  ·subst e1;rw[hτl]at hi;injection hi with hi;subst hi;rw[hτ j e2]at hj;exact(hne j l e2 hj rfl).elim
  ·subst e2;rw[hτl]at hj;injection hj with hj;subst hj;rw[hτ i e1]at hi;exact(hne i l e1 hi rfl).elim
  ·rw[hτ i e1]at hi;rw[hτ j e2]at hj;exact hS.linj i j a hi hj
 ·by_cases e:i=id
  ·subst e;rw[hτl]at h;injection h with h;subst h;rcases hnew with⟨h,_⟩ | ⟨h,_⟩
   ·exact .inl ⟨i,h⟩
   ·exact .inr h
  ·rw[hτ i e]at h;exact .inl ⟨i,h⟩
 ·simp only[PSt.strip,Z3,zB]at ht;obtain⟨⟨f',d'⟩,h1,h2⟩:=ht;simp only[zBC]at h2;obtain⟨rfl,rfl⟩:=h2;rw[PD.strip_noOwn (hw.1 t d' h1)];exact hw.1 t d' h1
 ·simp only[PSt.strip,qq,zB]at hj;obtain⟨r',h1,rfl⟩:=hj;have:=hw.2 j r' h1 hr;simp only;rw[RowC.strip_noOwn this];exact this
 ·simp only[PSt.strip,qq,hj,zC,RowC.strip_noOwn (hw.2 j r hj hr)]
 ·refine htip j ?_;intro e;subst e;rcases hnew with⟨h,_⟩ | ⟨h,_⟩
  ·exact hn id h
  ·omega
 ·rcases hnew with⟨h,h5⟩ | ⟨h,h5⟩
  ·have:=h4 id l h;rw[h5];split<;>omega
  ·rw[h5];exact h1
 ·simp only[PSt.strip,Z3,zB]at ht;obtain⟨⟨f',d'⟩,h1,h2⟩:=ht;simp only[zBC]at h2;obtain⟨rfl,rfl⟩:=h2;rw[PD.strip_noOwn (hw.1 t d' h1)];exact⟨h1,by rw[htm]⟩
end
def zoS(p:PSt):Prop := ∀ (k:Nat) (rw:Row),p.rows[k]?=some rw->rw.ro=true
structure Soft(x0:Nat)(τ:Nat->Option Nat)(p:PSt)(st:St)(τ':Nat->Option Nat)(p':PSt)(st':St):Prop where
 rows:p'.rows=p.rows
 lim:p'.lim=p.lim
 ni:p.ni<=p'.ni
 mem:st'.mem=st.mem
 τ : ∀ i,i<p.lim->τ' i=τ i
 hi : ∀ i l,p.lim<=i->τ' i=some l->x0<=l
 tip : ∀ l,l<x0->st'.tip l=st.tip l
structure jq(x0:Nat)(τ:Nat->Option Nat)(p:PSt)(st:St):Prop where
 ro:zoS p
 wf:Wf p
 lim:p.lim<=p.ni
 nx:x0<=st.nx
 hi : ∀ i l,p.lim<=i->τ i=some l->x0<=l
theorem Soft.refl{x0 τ p st}(h:jq x0 τ p st):Soft x0 τ p st τ p st:=⟨rfl,rfl,zR _,rfl,fun _ _=>rfl,h.hi,fun _ _=>rfl⟩
theorem Soft.trans{x0 τ p st τ1 p1 st1 τ2 p2 st2}(h:Soft x0 τ p st τ1 p1 st1)(k:Soft x0 τ1 p1 st1 τ2 p2 st2):Soft x0 τ p st τ2 p2 st2:=
 ⟨k.rows.trans h.rows,k.lim.trans h.lim,zBK h.ni k.ni,k.mem.trans h.mem,fun i hi=>(k.τ i (by rw[h.lim];exact hi)).trans (h.τ i hi),fun i l hi=>k.hi i l (by rw[h.lim];exact hi),fun l hl=>(k.tip l hl).trans (h.tip l hl)⟩
theorem Soft.inn{x0 ρ τ p st ρ1 τ1 p1 st1}(h:jq x0 τ p st)(k:Soft x0 τ p st τ1 p1 st1)(g:Goes ρ τ p st ρ1 τ1 p1 st1):jq x0 τ1 p1 st1:=
 ⟨fun j rw hj=>h.ro j rw (by rw[<- k.rows];exact hj),g.wf h.wf,by rw[k.lim];exact zBK h.lim k.ni,zBK h.nx g.nx,fun i l hi=>k.hi i l (by rw[<- k.lim];exact hi)⟩
theorem zve{id:Nat}{rows:List Row}(h : ∀ (k:Nat) (rw:Row),rows[k]?=some rw->rw.c.hasOwn=false):stripR id rows=rows:=by
 apply List.ext_getElem?;intro k;rw[qq];cases hk:rows[k]? with
 | none=>rfl
 | some rw=>simp only[zC,RowC.strip_noOwn (h k rw hk)]
end
section
section
variable {ρ:Nat->Nat} {τ:Nat->Option Nat} {p:PSt} {st:St} {ρ':Type} {r:ρ'}
theorem XA{ds es:List D}(h:es.length=ds.length):qE ds 0 es=es:=by simp[qE,List.drop_of_length_le,h]
theorem zs1(hS:Sim ρ τ p st){sz:Nat}{a v:PD}{d e:D}(ha:RP (zy ρ τ p st) a d)(hv:RP (zy ρ τ p st) v e){K:PSt->Option ρ'}(h:zbP p sz a v K=some r) :
  ∃ p',K p'=some r /\ ∃ k off st',d = .ptr k off/\e.cells.length=sz/\storeD st k off e.cells=some st'/\Goes ρ τ p st ρ τ p' st'/\p'.tm=p.tm:=by
 have fin : ∀ {k off:Nat} {ds:List D} {c c':RowC},p.rows[k]?=some ⟨false,c⟩->st.mem (ρ k)=some (.row ds false)->e.cells.length=sz->off+sz<=ds.length->yd e.cells=true ->
   yj (p.setR k c').rows k=yj p.rows k->RW (zy ρ τ p st) c' (.row (qE ds off e.cells) false)->K (p.setR k c')=some r->d = .ptr (ρ k) off ->
   ∃ p',K p'=some r /\ ∃ k off st',d = .ptr k off/\e.cells.length=sz/\storeD st k off e.cells=some st'/\Goes ρ τ p st ρ τ p' st'/\p'.tm=p.tm:=by
  intro k off ds c c' hk hm hl hle h1 hrk hw hK hd;refine⟨_,hK,_,_,_,hd,hl,?_,ZZ hS hk hrk hw,rfl⟩;simp only[storeD,hm,hl];rw[zBu ⟨hle,h1⟩]
 have rkn : ∀ {k:Nat} {c c':RowC},p.rows[k]?=some ⟨false,c⟩->(∀ f s x,c ≠ .arr f s x)->(∀ f s x,c' ≠ .arr f s x)->yj (p.setR k c').rows k=yj p.rows k:=by
  intro k c c' hk h1 h2;have hself:(p.setR k c').rows[k]?=some ⟨false,c'⟩:=by simp[PSt.setR,zCd (getElem?_lt hk)]
  simp only[yj,hself,hk];cases c<;>cases c'<;>first | rfl | exact(h1 _ _ _ rfl).elim | exact(h2 _ _ _ rfl).elim
 cases a with
 | agg ps=>simp[zbP]at h
 | s q=>
  cases q<;>simp only[zbP]at h<;>try contradiction
  case ptr k off=>
   obtain⟨hk,hd⟩:=ha;have hd:d = .ptr (ρ k) off:=hd;split at h<;>try contradiction
   ·next n x hr=>
    have hr':=j1 hr;obtain⟨o,ho,ds,rfl,hds,hok⟩:=hS.rows k _ hr';rcases ho with ho | ho
    ·contradiction
    have hl:=XK hds;have hn:=xw hok;split at h
    ·next hc=>
     simp only[zG]at hc;have h0:=zJ hc.1.1;subst h0;have hsz:=zJ hc.1.2;subst hsz;split at h
     ·next y=>
      obtain⟨hy,h⟩:=yq h;have hc:=cells_ok (show e.cl0=y.toD from hv);have hcl:e.cells.length=sz:=by rw[XK hc,xw hy]
      refine fin hr' ho hcl (by omega) (v8 hc (wB hy)) (rkn hr' (by simp) (by simp)) (c' := .box sz y) ⟨_,rfl,?_,hy⟩ h hd;rw[XA (by omega)];exact hc
     ·next v' _=>
      obtain⟨cs,h2,h3,h4,h5,h6⟩:=Ya hv h;refine fin hr' ho h6 (by omega) h5 (rkn hr' (by simp) (by simp)) (c' := .cells cs) ⟨_,rfl,?_,?_⟩ h2 hd
      ·rw[XA (by omega)];exact h4
      ·rw[XA (by omega)];exact h5
    ·split at h<;>try contradiction
     next hle=>have hle:=zT hle;have h2:=WU hok h;obtain⟨cs,h2,h3,h4,h5,h6⟩:=Ya hv h2;exact fin hr' ho h6 (by omega) h5 (rkn hr' (by simp) (by simp)) (c' := .cells _) ⟨_,rfl,zmQ (zsA hds) h4 off,Xi (v8 hds (wB hok)) h5 off⟩ h2 hd
   ·next ps hr=>
    have hr':=j1 hr;obtain⟨o,ho,ds,rfl,hds,h1⟩:=hS.rows k _ hr';rcases ho with ho | ho
    ·contradiction
    have hl:=WI hds;split at h
    ·next hc=>
     simp only[zG]at hc;have h0:=zJ hc.1.1;subst h0;have hsz:=zJ hc.1.2;split at h
     ·next y=>
      obtain⟨hy,h⟩:=yq h;have hc:=cells_ok (show e.cl0=y.toD from hv);have hcl:e.cells.length=sz:=by rw[XK hc,xw hy]
      refine fin hr' ho hcl (by omega) (v8 hc (wB hy)) (rkn hr' (by simp) (by simp)) (c' := .box sz y) ⟨_,rfl,?_,hy⟩ h hd;rw[XA (by omega)];exact hc
     ·next v' _=>
      obtain⟨cs,h2,h3,h4,h5,h6⟩:=Ya hv h;refine fin hr' ho h6 (by omega) h5 (rkn hr' (by simp) (by simp)) (c' := .cells cs) ⟨_,rfl,?_,?_⟩ h2 hd
      ·rw[XA (by omega)];exact h4
      ·rw[XA (by omega)];exact h5
    ·split at h<;>try contradiction
     next hle=>have hle:=zT hle;obtain⟨cs,h2,h3,h4,h5,h6⟩:=Ya hv h;exact fin hr' ho h6 (by omega) h5 (rkn hr' (by simp) (by simp)) (c' := .cells _) ⟨_,rfl,zmQ hds h4 off,Xi h1 h5 off⟩ h2 hd
  case ptrA k sz' i off=>
   obtain⟨hk,hd,hrk⟩:=ha;have hd:d = .ptr (ρ k) (i*sz'+off):=hd;split at h<;>try contradiction
   split at h<;>try contradiction
   next szr xs hr _ y hy=>
    have hr':=j1 hr;obtain⟨o,ho,ds,b,rfl,hfz,hds,hsz⟩:=hS.rows k _ hr';have hfz:b=false:=hfz;subst hfz;rcases ho with ho | ho
    ·contradiction
    obtain⟨hs,hi⟩:=hrk _ _ (YR hr' rfl);subst hs;have hey:=PD.pure_ok hv hy;have hc:=cells_ok hey;have hl:ds.length=xs.length*szr:=by have:=congrArg List.length hds;rw[yJ,xg hsz]at this;exact this
    have hmul:(i+1)*szr<=xs.length*szr:=zW _ hi;have hmul':(i+1)*szr=i*szr+szr:=by rw[zBW,Nat.one_mul]
    have rka : ∀ x',yj (p.setR k (.arr .no szr (xs.set i x'))).rows k=yj p.rows k:=by
     intro x';have hself:(p.setR k (.arr .no szr (xs.set i x'))).rows[k]?=some ⟨false,.arr .no szr (xs.set i x')⟩:=by simp[PSt.setR,zCd (getElem?_lt hr')]
     simp only[yj,hself,hr',List.length_set]
    obtain⟨e0,he0⟩:=YV hi;have hel:=xw (X2 hsz he0);have hpl:(toDL e0.parts).length=szr:=by rw[xW,hel]
    split at h
    ·next hcc=>
     simp only[zG]at hcc;have h0:=zJ hcc.1;subst h0;have hsz':=zJ hcc.2;subst hsz';have key : ∀ y',y'.parts=y.parts->okN sz y=true->cl0L (qE ds (i*sz+0) e.cells)=flatD (xs.set i y'):=by intro y' hyy hoy;have:=QO hsz hds (i:=i) (f:=0) (n:=sz) he0 hc (xw hoy) (by omega);rw[this,KY he0,List.take_zero,List.nil_append,zBE,List.drop_of_length_le (by omega),List.append_nil,hyy]
     split at h
     ·next h1=>
      have h1:=zJ h1;subst h1;obtain⟨hx,h⟩:=yq h;rw[zA]at h;obtain⟨c,hcc',h⟩:=h;obtain⟨hp,hone,hcp⟩:=one_cell hx hcc';refine fin hr' ho (by rw[XK hc,xw hx]) (by omega) (v8 hc (wB hx)) (c' := .arr .no 1 (xs.set i c)) (rka c) ⟨_,_,rfl,rfl,key c (by rw[hcp,hp]) hx,VU hsz (Vb (by rw[hcp];rfl) (by rw[hcp,<- hp];exact wB hx))⟩ h hd
     ·obtain⟨hx,h⟩:=yq h;exact fin hr' ho (by rw[XK hc,xw hx]) (by omega) (v8 hc (wB hx)) (c' := .arr .no sz (xs.set i y)) (rka y) ⟨_,_,rfl,rfl,key y rfl hx,VU hsz hx⟩ h hd
    ·split at h<;>try contradiction
     next hle=>
      simp only[zG]at hle;have hle1:=zT hle.1;have hle2:0<sz:=zT hle.2;rw[zA]at h;obtain⟨x0,hx0,h⟩:=h;rw[he0]at hx0;injection hx0 with hx0;subst hx0;obtain⟨hx,h⟩:=yq h;have hxl:=xw hx;have h1e:=wB (X2 hsz he0);refine fin hr' ho (by rw[XK hc,xw hx]) (by omega) (v8 hc (wB hx)) (c' := .arr .no szr (xs.set i (.agg (wG e0.parts off y.parts)))) (rka _) ⟨_,_,rfl,rfl,?_,VU hsz (Vb ?_ ?_)⟩ h hd
      ·have:=QO hsz hds (i:=i) (f:=off) (n:=sz) he0 hc hxl (by omega);rw[this,KY he0];show _=_++toDL (wG e0.parts off y.parts)++_;simp only[wG,YJ,K9,Yd,hxl]
      ·show(wG e0.parts off y.parts).length=szr;simp only[wG,zZ,zBI,zBJ,hxl];omega
      ·show yE (wG e0.parts off y.parts)=true;simp only[wG,Zg,(Wu h1e _).1,(Wu h1e _).2,wB hx,Bool.and_self]
theorem zi0(hS:Sim ρ τ p st){l:Nat}{st':St}(htm:st'.tm=st.tm)(hmem:st'.mem=st.mem)(hlo:st'.lo=st.lo)(hnx:st.nx<=st'.nx)(hl:l<st'.nx)(hln:st.nx<=l)
  (htip : ∀ j,j≠l->st'.tip j=st.tip j) (hlw:st'.lw=st.lw):Goes ρ τ p st ρ (fun i=>if i=p.ni then some l else τ i) { p with ni:=p.ni+1 } st':=by
 have hle:Le (zy ρ τ p st) (zy ρ (fun i=>if i=p.ni then some l else τ i) { p with ni:=p.ni+1 } st'):=by refine⟨fun _ _=>rfl,zR _,fun k _ => .inl rfl,fun i j h => ?_,Nat.le_succ _⟩;have h:τ i=some j:=h;have:=hS.lin i j h;refine⟨?_,htip j (by omega)⟩;show(if i=p.ni then some l else τ i)=some j;rw[zBt (by omega)];exact h
 refine⟨⟨fun t f d ht => ?_,fun j hj=>zK (hS.nx j hj) hnx,fun j r hj => ?_,hS.inj,fun i j h => ?_,fun i j a hi hj => ?_⟩,hnx,hlo,zR _,fun _ _=>rfl,fun j h1 h2=>absurd h2 (Nat.not_lt.2 h1),fun i j h => ?_,fun hw=>hw,fun _ _ _ h _=>h,fun _ r' _ h hr=>⟨r',h,hr⟩,fun _ _ => .inl rfl,fun b _ _=>by rw[hmem],fun j hj _=>htip j (by omega),fun m h1 _ _ _=>by rw[hlw];exact h1,fun _ t d h=>⟨h,by rw[htm]⟩⟩
 ·obtain⟨e,h1,h2⟩:=hS.tm t f d ht;exact⟨e,by rw[htm];exact h1,RP.le hle h2⟩
 ·obtain⟨o,h1,h2⟩:=hS.rows j r hj;exact⟨o,by rw[hmem];exact h1,RW.le hle h2⟩
 ·have h:(if i=p.ni then some l else τ i)=some j:=h;show i<p.ni+1/\j<st'.nx;split at h
  ·injection h with h;omega
  ·have:=hS.lin i j h;omega
 ·have hi:(if i=p.ni then some l else τ i)=some a:=hi;have hj:(if j=p.ni then some l else τ j)=some a:=hj;split at hi<;>split at hj
  ·omega
  ·injection hi with hi;have:=hS.lin j a hj;omega
  ·injection hj with hj;have:=hS.lin i a hi;omega
  ·exact hS.linj i j a hi hj
 ·have h:(if i=p.ni then some l else τ i)=some j:=h;split at h
  ·injection h with h;exact .inr (by omega)
  ·exact .inl ⟨i,h⟩
theorem zfd{sz:Nat}{xs ys:List V}(hs:yi sz xs=true)(hy:yi sz ys=true){ds es:List D}(hd:cl0L ds=flatD xs)(he:cl0L es=flatD ys)(o:Nat)(ho:o+ys.length<=xs.length) :
  cl0L (qE ds (o*sz) es)=flatD (wG xs o ys):=by
 have hel:es.length=ys.length*sz:=by have:=congrArg List.length he;rw[yJ,xg hy]at this;exact this
 simp only[qE,wG,qL,vY,qw,hd,he,va,qn hs,hel,<- zBW,qS hs]
theorem zkB{sz:Nat}{xs ys:List V}(hs:yi sz xs=true)(hy:yi sz ys=true)(o:Nat):yi sz (wG xs o ys)=true:=by simp only[wG,YO,Yl hs,kT hs,hy,Bool.and_self]
theorem zop{α:Type}{xs ys:List α}{o:Nat}(h:o+ys.length<=xs.length):(wG xs o ys).length=xs.length:=by simp only[wG,zZ,zBI,zBJ];omega
theorem kZ{sz:Nat}{xs:List V}{ds:List D}(hs:yi sz xs=true)(h:cl0L ds=flatD xs):yd ds=true:=by
 have : ∃ ys,flatD xs=toDL ys/\yE ys=true:=by
  clear h;induction xs with
  | nil=>exact⟨[],rfl,rfl⟩
  | cons x r ih=>obtain⟨ys,h1,h2⟩:=ih (y4.1 hs).2;refine⟨x.parts++ys,by simp only[flatD,kY,h1,YJ],?_⟩;rw[Zg,wB (y4.1 hs).1,h2];rfl
 obtain⟨ys,h1,h2⟩:=this;exact v8 (h.trans h1) h2
theorem zgk(hS:Sim ρ τ p st){sz bytes:Nat}{s:PD}{e:D}(hs:RP (zy ρ τ p st) s e){ys:List V}{es:List D}(hy:yi sz ys=true)(he:cl0L es=flatD ys){K:PD->PSt->Option ρ'}(h:zom p sz bytes s ys K=some r) :
  ∃ d p',K d p'=some r /\ ∃ e' st' ρ1 τ1,appD sz bytes e ys.length es st=some (e',st')/\RP (zy ρ1 τ1 p' st') d e'/\Goes ρ τ p st ρ1 τ1 p' st'/\st'.tm=st.tm /\ ∀ x0,jq x0 τ p st->ρ1=ρ/\Soft x0 τ p st τ1 p' st':=by
 have hb : ∀ {n m:Nat},wZ bytes n m=true->(n+m)*bytes<=140737488355328/\n+m<=140737488355328:=by intro n m h;simpa[wZ]using h
 -- a lineage that begins
 have fresh : ∀ (n:Nat),Goes ρ τ p st ρ (fun i=>if i=p.ni then some st.nx else τ i) { p with ni:=p.ni+1 } { st with tip:=upd st.tip st.nx n,nx:=st.nx+1 }:=by intro n;refine zi0 hS rfl rfl rfl (Nat.le_succ _) (zCf _) (zR _) (fun j hj => ?_) rfl;show upd st.tip st.nx n j=_;unfold upd;rw[zBt hj]
 have soft : ∀ (n x0:Nat),jq x0 τ p st->Soft x0 τ p st (fun i=>if i=p.ni then some st.nx else τ i) { p with ni:=p.ni+1 } { st with tip:=upd st.tip st.nx n,nx:=st.nx+1 }:=by
  intro n x0 hi;refine⟨rfl,rfl,Nat.le_succ _,rfl,fun i h => ?_,fun i l h1 h2 => ?_,fun l hl => ?_⟩
  ·have:=hi.lim;show(if i=p.ni then _ else _)=_;rw[zBt (by omega)]
  ·have h2:(if i=p.ni then some st.nx else τ i)=some l:=h2;split at h2
   ·injection h2 with h2;have:=hi.nx;omega
   ·exact hi.hi i l h1 h2
  ·have:=hi.nx;show upd st.tip st.nx n l=_;unfold upd;rw[zBt (by omega)]
 cases s with
 | agg ps=>simp[zom]at h
 | s q=>
  cases q<;>simp only[zom]at h<;>try contradiction
  case full xs=>
   split at h<;>try contradiction
   next hz=>
    have hz:0<sz:=zT hz;obtain⟨hx,h⟩:=yq h;obtain⟨hab,h⟩:=yq h;obtain⟨ds,rfl,hds⟩:=hs;obtain⟨hb1,hb2⟩:=hb hab;have hl:ds.length=xs.length*sz:=by have:=congrArg List.length hds;rw[yJ,xg hx]at this;exact this
    refine⟨_,_,h,.sl (.ln st.nx sz) (xs.length+ys.length) (ds++es),_,ρ,_,?_,?_,fresh (xs.length+ys.length),rfl,fun x0 hi=>⟨rfl,soft _ x0 hi⟩⟩
    ·simp only[appD];rw[zBu ⟨hl,hb1,hb2,hz⟩]
    ·refine⟨_,_,by rw[zZ],by rw[qL,hds,he,va],by rw[YO,hx,hy];rfl,?_,.inr ⟨st.nx,rfl,?_,?_⟩⟩
     ·exact zCf _
     ·show(if p.ni=p.ni then some st.nx else τ p.ni)=_;rw[zBu rfl]
     ·show upd st.tip st.nx _ st.nx=_;unfold upd;rw[zBu rfl,zZ]
  case own id sz' xs=>
   split at h<;>try contradiction
   next hz=>
    simp only[zG]at hz;have hlim:p.lim<=id:=zT hz.2;have hz:=hz.1;have h1:=zJ hz.1;subst h1;have hz:0<sz:=zT hz.2;have hrows : ∀ x0,jq x0 τ p st->(p.strip id).rows=p.rows:=fun x0 hi=>zve (fun k rw hk=>hi.wf.2 k rw hk (hi.ro k rw hk))
    obtain⟨hab,h⟩:=yq h;obtain⟨g,ds,rfl,hds,hx,hid,hg⟩:=hs;obtain⟨hb1,hb2⟩:=hb hab;have hl:ds.length=xs.length*sz:=by have:=congrArg List.length hds;rw[yJ,xg hx]at this;exact this
    have hid:id<p.ni:=hid;rcases hg with rfl | ⟨l,rfl,hτ,htip⟩
    ·refine⟨_,_,h,.sl (.ln st.nx sz) (xs.length+ys.length) (ds++es),{ st with tip:=upd st.tip st.nx (xs.length+ys.length),nx:=st.nx+1 },ρ,fun i=>if i=id then some st.nx else τ i,?_,?_,?_,rfl,fun x0 hi=>⟨rfl,hrows x0 hi,rfl,zR _,rfl,fun i h => ?_,fun i l h1 h2 => ?_,fun l hl => ?_⟩⟩
     ·simp only[appD];rw[zBu ⟨hl,hb1,hb2,hz⟩]
     ·refine⟨_,_,by rw[zZ],by rw[qL,hds,he,va],by rw[YO,hx,hy];rfl,hid,.inr ⟨st.nx,rfl,?_,?_⟩⟩
      ·show(if id=id then some st.nx else τ id)=_;rw[zBu rfl]
      ·show upd st.tip st.nx _ st.nx=_;unfold upd;rw[zBu rfl,zZ]
     ·refine zhP (l:=st.nx) hS hid rfl rfl rfl (Nat.le_succ _) (zCf _) (fun j hj => ?_) (.inl rfl) (fun i hi=>by simp only[zBt hi]) (by simp only[zBv]) (.inr ⟨zR _,rfl⟩);show upd st.tip st.nx _ j=_;unfold upd;rw[zBt hj]
     ·show(if i=id then _ else _)=_;rw[zBt (by omega)]
     ·have h2:(if i=id then some st.nx else τ i)=some l:=h2;split at h2
      ·injection h2 with h2;have:=hi.nx;omega
      ·exact hi.hi i l h1 h2
     ·have:=hi.nx;show upd st.tip st.nx _ l=_;unfold upd;rw[zBt (by omega)]
    ·have hτ:τ id=some l:=hτ;have htip:st.tip l=some xs.length:=htip;have hln:=(hS.lin id l hτ).2;refine⟨_,_,h,.sl (.ln l sz) (xs.length+ys.length) (ds++es),{ st.touch l with tip:=upd st.tip l (xs.length+ys.length) },ρ,τ,?_,?_,?_,rfl,fun x0 hi=>⟨rfl,hrows x0 hi,rfl,zR _,rfl,fun i h=>rfl,hi.hi,fun l' hl => ?_⟩⟩
     ·simp only[appD];rw[zBu ⟨hl,hb1,hb2,hz⟩,zBu ⟨trivial,htip⟩]
     ·refine⟨_,_,by rw[zZ],by rw[qL,hds,he,va],by rw[YO,hx,hy];rfl,?_,.inr ⟨l,rfl,hτ,?_⟩⟩
      ·exact hid
      ·show upd st.tip l _ l=_;unfold upd;rw[zBu rfl,zZ]
     ·refine zhP hS hid rfl rfl rfl (zR _) hln (fun j hj => ?_) (.inr rfl) (fun _ _=>rfl) hτ (.inl ⟨hτ,rfl⟩);show upd st.tip l _ j=_;unfold upd;rw[zBt hj]
     ·have:=hi.hi id l hlim hτ;show upd st.tip l _ l'=_;unfold upd;rw[zBt (by omega)]
  case ref k sz' off n cp z=>
   split at h<;>try contradiction
   next hz=>
    simp only[zG]at hz;have h1:=zJ hz.1;subst h1;have hz:0<sz:=zT hz.2;split at h<;>try contradiction
    next fz szr xs hr=>
     obtain⟨hab,h⟩:=yq h;obtain⟨hb1,hb2⟩:=hb hab;obtain⟨hk,⟨hn,hcr⟩,hdd,hrk⟩:=hs;obtain⟨rr,hrr,hrc⟩:=qu hr;obtain⟨hs,hlen⟩:=hrk _ _ (YR hrr hrc);subst hs;obtain⟨o,ho,ds,b,rfl,hfz,hds,hsz⟩:=hS.row hr (by simp);have hl:ds.length=xs.length*szr:=by have:=congrArg List.length hds;rw[yJ,xg hsz]at this;exact this
     have hml:off*szr+cp*szr<=ds.length:=by rw[hl,<- zBW];exact zW _ hlen
     have hesl:es.length=ys.length*szr:=by have:=congrArg List.length he;rw[yJ,xg hy]at this;exact this
     have hll:((xs.drop off).take n).length=n:=by rw[zBI,zBJ];omega
     split at h
     ·next hc=>
      split at h<;>try contradiction
      next sz2 xs2 hw=>
       have hr':=j1 hw;rw[hr']at hrr;injection hrr with hrr;subst hrr;simp only[RowC.arr.injEq]at hrc;obtain⟨rfl,rfl,rfl⟩:=hrc;have hfz:b=false:=hfz;subst hfz;rcases hdd with⟨rfl,hzc⟩ | ⟨h0,rfl,hzt⟩
       ·have hlx:off+n+ys.length<=xs2.length:=by omega
        have hmn:(off+n)*sz2=off*sz2+n*sz2:=zBW _ _ _;have hms:(off+n+ys.length)*sz2<=xs2.length*sz2:=zW _ hlx;have hms':(off+n+ys.length)*sz2=(off+n)*sz2+ys.length*sz2:=zBW _ _ _;have hrk2:yj (p.setR k (.arr .no sz2 (wG xs2 (off+n) ys))).rows k=yj p.rows k:=by
         have hself:(p.setR k (.arr .no sz2 (wG xs2 (off+n) ys))).rows[k]?=some ⟨false,.arr .no sz2 (wG xs2 (off+n) ys)⟩:=by simp[PSt.setR,zCd (getElem?_lt hr')]
         simp only[yj,hself,hr',zop hlx]
        have hg:=ZZ hS (c' := .arr .no sz2 (wG xs2 (off+n) ys)) (o := .row (qE ds ((off+n)*sz2) es) false) hr' hrk2 ⟨_,_,rfl,rfl,zfd hsz hy hds he _ hlx,zkB hsz hy _⟩;refine⟨_,_,h,.ref (ρ k) (off*sz2) (n+ys.length) cp sz2,_,ρ,τ,?_,?_,hg,rfl,fun x0 hi=>absurd (hi.ro k _ hr') (by simp)⟩
        ·have ho:st.mem ((zy ρ τ p st).ρ k)=some (.row ds false):=ho;simp only[appD,ho];rw[zBu ⟨trivial,hml,hn,hcr,hb1,hb2,hz⟩,zBu hc.1];simp only[storeD,ho,zF,zBw];rw[zBu ⟨by omega,kZ hy he⟩,<- hmn];rfl
        ·refine⟨by show k<(p.setR k _).rows.length;simp[PSt.setR];exact hk,⟨hc.1,hcr⟩,.inl ⟨rfl,hzc⟩,fun s l hsl => ?_⟩;have hsl:yj (p.setR k (.arr .no sz2 (wG xs2 (off+n) ys))).rows k=some (s,l):=hsl;rw[hrk2]at hsl;exact hrk s l hsl
       ·rcases hc.2 with h5 | h5
        ·rw[hzt]at h5;contradiction
        ·omega
     ·next hc=>
      have hres:RP (zy ρ (fun i=>if i=p.ni then some st.nx else τ i) { p with ni:=p.ni+1 } { st with tip:=upd st.tip st.nx (n+ys.length),nx:=st.nx+1 }) (.s (.own p.ni szr ((xs.drop off).take n++ys)))
        (.sl (.ln st.nx szr) (n+ys.length) ((ds.drop (off*szr)).take (n*szr)++es)):=by
       refine⟨.ln st.nx szr,_,by rw[zZ,hll],?_,?_,zCf _,.inr ⟨st.nx,rfl,?_,?_⟩⟩
       ·rw[qL,vY,qw,hds,he,va,qS hsz,qn (kT hsz _)]
       ·rw[YO,Yl (kT hsz _),hy];rfl
       ·show(if p.ni=p.ni then some st.nx else τ p.ni)=_;rw[zBu rfl]
       ·show upd st.tip st.nx _ st.nx=_;unfold upd;rw[zBu rfl,zZ,hll]
      refine⟨_,_,h,_,_,ρ,_,?_,hres,fresh (n+ys.length),rfl,fun x0 hi=>⟨rfl,soft _ x0 hi⟩⟩;rcases hdd with⟨rfl,hzc⟩ | ⟨rfl,rfl,_⟩
      ·have ho:st.mem ((zy ρ τ p st).ρ k)=some (.row ds b):=ho;simp only[appD,ho];rw[zBu ⟨trivial,hml,hn,hcr,hb1,hb2,hz⟩,zBt (fun hh=>hc ⟨hh,hzc⟩)]
      ·have hn0:n=0:=by omega
       subst hn0;simp only[appD];rw[zBu ⟨by simp,hb1,hb2,hz⟩];simp
end
end
section
section
variable {ρ:Nat->Nat} {τ:Nat->Option Nat} {p:PSt} {st:St} {ρ':Type} {r:ρ'}
theorem KX{p:PSt}{k:Nat}{c c':RowC}(hk:p.rows[k]?=some ⟨false,c⟩)(h1 : ∀ f s x,c ≠ .arr f s x)(h2 : ∀ f s x,c' ≠ .arr f s x):yj (p.setR k c').rows k=yj p.rows k:=by
 have hself:(p.setR k c').rows[k]?=some ⟨false,c'⟩:=by simp[PSt.setR,zCd (getElem?_lt hk)]
 simp only[yj,hself,hk];cases c<;>cases c'<;>first | rfl | exact(h1 _ _ _ rfl).elim | exact(h2 _ _ _ rfl).elim
theorem zkE{p:PSt}{k:Nat}{f f':Fz}{sz:Nat}{xs ys:List V}(hk:p.rows[k]?=some ⟨false,.arr f sz xs⟩)(hl:ys.length=xs.length):yj (p.setR k (.arr f' sz ys)).rows k=yj p.rows k:=by
 have hself:(p.setR k (.arr f' sz ys)).rows[k]?=some ⟨false,.arr f' sz ys⟩:=by simp[PSt.setR,zCd (getElem?_lt hk)]
 simp only[yj,hself,hk,hl]
def zr7:O->Bool
 | .app _ _ _ _ | .apz _ _ _ _=>true
 | _=>false
theorem zBf{E:Env}{gl:Gl}{pc:PcT}(hg:GlR E gl)(hS:Sim ρ τ p st){o:O}(ho:zr7 o=true){K:Option PD->PSt->Option ρ'}(h:VF gl pc p o K=some r) :
  ∃ d p',K d p'=some r /\ ∃ e st' ρ1 τ1,opD E st o=some (e,st')/\RO (zy ρ1 τ1 p' st') d e/\Goes ρ τ p st ρ1 τ1 p' st'/\st'.tm=st.tm /\ ∀ x0,jq x0 τ p st->ρ1=ρ/\Soft x0 τ p st τ1 p' st':=by
 cases o<;>simp[zr7]at ho<;>simp only[VF]at h;case app sz bytes s x=>
  split at h<;>try contradiction
  next s hs=>
   obtain⟨e1,he1,hr1⟩:=yp hg hS hs;split at h<;>try contradiction
   next d hd=>obtain⟨e2,he2,hr2⟩:=yp hg hS hd;obtain⟨ys,h1,h2,ds,h3,h4⟩:=zlQ hS hr2 h;obtain⟨d,p',h1,e',st',ρ1,τ1,h6,h7,h8,h9,h10⟩:=zgk hS hr1 h2 h4 h1;refine⟨_,_,h1,some e',st',ρ1,τ1,?_,h7,h8,h9,h10⟩;simp[opD,he1,he2,h3,kZ h2 h4,h6]
 case apz z bytes s x=>
  split at h<;>try contradiction
  split at h<;>try contradiction
  split at h<;>try contradiction
  next l hl _ s hs _ x hx=>
   rw[zA]at h;obtain⟨m,hm,h⟩:=h;obtain⟨hzl,hzo,hone,hz,hel⟩:=zcv hl;obtain⟨e1,he1,hr1⟩:=yp hg hS hs;obtain⟨e2,he2,hr2⟩:=xD hg hS hx;have hzlen:z.length=l.length:=by have:=congrArg List.length hzl;rw[yJ,xW]at this;exact this
   have hok:okN l.length (Kj l)=true:=Vb (by rw[hel]) (by rw[hel];exact hone);unfold zz8 at hm;split at hm<;>try contradiction
   split at hm<;>try contradiction
   next n hcond=>injection hm with hm;subst hm;obtain⟨d,p',h1,e',st',ρ1,τ1,h6,h7,h8,h9,h10⟩:=zgk hS hr1 (zcU hok) (zdj hzl hel _) h;refine⟨_,_,h1,some e',st',ρ1,τ1,?_,h7,h8,h9,h10⟩;rw[zBV,<- hzlen]at h6;simp only[opD,he1,he2,vJ hr2,zD];rw[zBu ⟨hcond.1,hcond.2.1,hcond.2.2,hzo⟩,h6];rfl
theorem zoZ : ∀ {z:List D},zr0 z=true->cl0L z=flatD (List.replicate z.length (.int .u8 0))/\yi 1 (List.replicate z.length (.int .u8 0))=true
 | [],_=>⟨rfl,rfl⟩
 | d::r,h=>by
  unfold zr0 at h;split at h
  ·obtain⟨h1,h2⟩:=zoZ h;refine⟨?_,?_⟩
   ·simp only[cl0L,D.cl0,zBG,List.replicate_succ,flatD,V.toD,D.cells,h1];rfl
   ·simp only[zBG,List.replicate_succ,yi,h2];rfl
  ·contradiction
theorem zuz{z:List D}{n:Nat}(h:zqz z=some n):cl0L z=flatD (List.replicate n (.int .u8 0))/\yi 1 (List.replicate n (.int .u8 0))=true:=by
 unfold zqz at h;split at h<;>try contradiction
 next h1=>
  split at h<;>try contradiction
  injection h with h;subst h;exact zoZ h1
theorem zBj{E:Env}{gl:Gl}{pc:PcT}(hg:GlR E gl)(hS:Sim ρ τ p st){o:O}(hc1 : ∀ f xs,o ≠ .call f xs)(hc2 : ∀ f xs,o ≠ .callv f xs){K:Option PD->PSt->Option ρ'}(h:VF gl pc p o K=some r) :
  ∃ d p',K d p'=some r /\ ∃ e st' ρ1 τ1,opD E st o=some (e,st')/\RO (zy ρ1 τ1 p' st') d e/\Goes ρ τ p st ρ1 τ1 p' st'/\st'.tm=st.tm:=by
 by_cases hq:quiet o=true
 ·obtain⟨d,h1,e,h2,h3⟩:=zzr hg hS hq h;exact⟨some d,p,h1,some e,st,ρ,τ,h2,h3,.refl hS,rfl⟩
 cases o<;>simp[quiet]at hq<;>simp only[VF]at h<;>try contradiction
 case alloc z=>
  split at h
  ·next n hn=>
   obtain⟨h2,h3⟩:=zuz hn;obtain⟨hgo,hlen⟩:=ZX (o := .row z false) (c := .arr .no 1 (List.replicate n (.int .u8 0))) hS ⟨z,false,rfl,rfl,h2,h3⟩;refine⟨_,_,h,some (.ptr st.nx 0),_,_,_,rfl,?_,hgo,rfl⟩;refine⟨by show p.rows.length<(p.newR _).rows.length;rw[hlen];omega,?_⟩;show D.ptr st.nx 0 = .ptr (if p.rows.length=p.rows.length then st.nx else _) 0;rw[zBu rfl]
  split at h<;>try contradiction
  split at h<;>try contradiction
  next l hl _ h1=>obtain⟨hgo,hlen⟩:=ZX (o := .row z false) (c := .cells l) hS ⟨z,rfl,KN hl,V3 hl h1⟩;refine⟨_,_,h,some (.ptr st.nx 0),_,_,_,rfl,?_,hgo,rfl⟩;refine⟨by show p.rows.length<(p.newR _).rows.length;rw[hlen];omega,?_⟩;show D.ptr st.nx 0 = .ptr (if p.rows.length=p.rows.length then st.nx else _) 0;rw[zBu rfl]
 case store sz a v=>
  split at h<;>try contradiction
  split at h<;>try contradiction
  next d hd _ v hv=>obtain⟨e,he,hr⟩:=yp hg hS hd;obtain⟨e2,he2,hr2⟩:=yp hg hS hv;obtain⟨p',h1,k,off,st',rfl,h2,h3,h4,h5⟩:=zs1 hS hr hr2 h;have hst:st'.tm=st.tm:=(Fq.storeD h3).tm;exact⟨none,p',h1,none,st',ρ,τ,by simp[opD,he,he2,h2,h3],trivial,h4,hst⟩
 case mks z bytes n c=>
  split at h<;>try contradiction
  split at h<;>try contradiction
  split at h<;>try contradiction
  next l hl _ n hn _ c hc=>
   rw[zA]at h;obtain⟨q,hq,h⟩:=h;obtain⟨hzl,hzo,hone,hz,hel⟩:=zcv hl;obtain⟨e1,he1,hr1⟩:=xD hg hS hn;obtain⟨e2,he2,hr2⟩:=xD hg hS hc;unfold zjV at hq;split at hq<;>try contradiction
   next _ _ n c=>
    split at hq<;>try contradiction
    next hcond=>
     injection hq with hq;subst hq;have hzlen:z.length=l.length:=by have:=congrArg List.length hzl;rw[yJ,xW]at this;exact this
     have hok:okN l.length (Kj l)=true:=Vb (by rw[hel]) (by rw[hel];exact hone);obtain⟨hgo,hlen⟩:=ZX (o := .row (rep c.toNat z) false) (c := .arr .no l.length (List.replicate c.toNat (Kj l))) hS ⟨_,_,rfl,rfl,zdj hzl hel _,zcU hok⟩;refine⟨_,_,h,some (.ref st.nx 0 n.toNat c.toNat z.length),_,_,_,?_,?_,hgo,rfl⟩
     ·simp only[opD,he1,he2,vJ hr1,vJ hr2];rw[zBu ⟨hcond.1,hcond.2.1,hcond.2.2.1,hcond.2.2.2,hzo,by omega⟩]
     ·refine⟨by show p.rows.length<(p.newR _).rows.length;rw[hlen];omega,by simp only;unfold J4;omega,.inl ⟨?_,.inl rfl⟩,fun s len hs => ?_⟩
      ·show D.ref st.nx 0 _ _ _ = .ref (if p.rows.length=p.rows.length then st.nx else _) _ _ _ _;rw[zBu rfl,Nat.zero_mul,hzlen]
      ·have hs:yj (p.newR (.arr .no l.length (List.replicate c.toNat (Kj l)))).rows p.rows.length=some (s,len):=hs;simp[yj,PSt.newR]at hs;obtain⟨rfl,rfl⟩:=hs;exact⟨rfl,by simp only;omega⟩
 case apr sz bytes x=>
  split at h<;>try contradiction
  next d hd=>
   obtain⟨e,he,hr⟩:=yp hg hS hd;obtain⟨ys,h1,h2,⟨ds,h3,h4⟩,_⟩:=zhL hS hr h;obtain⟨hcnd,h1⟩:=yq h1;simp only[zG,Nat.blt_eq,wZ,zCb,zBE]at hcnd;obtain⟨⟨hy0,hs0⟩,hb1,hb2⟩:=hcnd;have hl:ds.length=ys.length*sz:=by have:=congrArg List.length h4;rw[yJ,xg h2]at this;exact this
   obtain⟨hgo,hlen⟩:=ZX (o := .row ds false) (c := .arr .no sz ys) hS ⟨_,_,rfl,rfl,h4,h2⟩;refine⟨_,_,h1,some (.ref st.nx 0 ys.length J4 sz),_,_,_,?_,?_,hgo,rfl⟩
   ·simp only[opD,he,zD,h3];rw[zBu ⟨kZ h2 h4,hy0,hs0,hl,hb1,hb2⟩]
   ·refine⟨by show p.rows.length<(p.newR _).rows.length;rw[hlen];omega,⟨J4,⟨zR _,by unfold J4;omega⟩,?_⟩,fun s len hs => ?_⟩
    ·show D.ref st.nx 0 _ _ _ = .ref (if p.rows.length=p.rows.length then st.nx else _) _ _ _ _;rw[zBu rfl]
    ·have hs:yj (p.newR (.arr .no sz ys)).rows p.rows.length=some (s,len):=hs;simp[yj,PSt.newR]at hs;obtain⟨rfl,rfl⟩:=hs;exact⟨rfl,zR _⟩
 case app sz bytes s x=>
  split at h<;>try contradiction
  next s hs=>
   obtain⟨e1,he1,hr1⟩:=yp hg hS hs;split at h<;>try contradiction
   next d hd=>obtain⟨e2,he2,hr2⟩:=yp hg hS hd;obtain⟨ys,h1,h2,ds,h3,h4⟩:=zlQ hS hr2 h;obtain⟨d,p',h1,e',st',ρ1,τ1,h6,h7,h8,h9,h10⟩:=zgk hS hr1 h2 h4 h1;refine⟨_,_,h1,some e',st',ρ1,τ1,?_,h7,h8,h9⟩;simp[opD,he1,he2,h3,kZ h2 h4,h6]
 case apz z bytes s x=>
  split at h<;>try contradiction
  split at h<;>try contradiction
  split at h<;>try contradiction
  next l hl _ s hs _ x hx=>
   rw[zA]at h;obtain⟨m,hm,h⟩:=h;obtain⟨hzl,hzo,hone,hz,hel⟩:=zcv hl;obtain⟨e1,he1,hr1⟩:=yp hg hS hs;obtain⟨e2,he2,hr2⟩:=xD hg hS hx;have hzlen:z.length=l.length:=by have:=congrArg List.length hzl;rw[yJ,xW]at this;exact this
   have hok:okN l.length (Kj l)=true:=Vb (by rw[hel]) (by rw[hel];exact hone);unfold zz8 at hm;split at hm<;>try contradiction
   split at hm<;>try contradiction
   next n hcond=>injection hm with hm;subst hm;obtain⟨d,p',h1,e',st',ρ1,τ1,h6,h7,h8,h9,h10⟩:=zgk hS hr1 (zcU hok) (zdj hzl hel _) h;refine⟨_,_,h1,some e',st',ρ1,τ1,?_,h7,h8,h9⟩;rw[zBV,<- hzlen]at h6;simp only[opD,he1,he2,vJ hr2,zD];rw[zBu ⟨hcond.1,hcond.2.1,hcond.2.2,hzo⟩,h6];rfl
 case cpy sz d s=>
  split at h<;>try contradiction
  split at h<;>try contradiction
  next d hd _ s hs=>
   obtain⟨e1,he1,hr1⟩:=yp hg hS hd;obtain⟨e2,he2,hr2⟩:=yp hg hS hs;obtain⟨ys,h1,h2,es,h3,h4⟩:=zlQ hS hr2 h;have hesl:es.length=ys.length*sz:=by have:=congrArg List.length h4;rw[yJ,xg h2]at this;exact this
   split at h1<;>try contradiction
   ·next k sz' off n c z=>
    split at h1<;>try contradiction
    split at h1<;>try contradiction
    next szr xs hw _ hsz=>
     have hsz:=zJ hsz;subst hsz;have hr':=j1 hw;obtain⟨o,ho,ds,b,rfl,hfz,hds,hszx⟩:=hS.rows k _ hr';rcases ho with ho | ho
     ·contradiction
     have hfz:b=false:=hfz;subst hfz;obtain⟨hk,hn,hdd,hrk⟩:=hr1;obtain⟨hs',hlen⟩:=hrk _ _ (YR hr' rfl);subst hs';have hl:ds.length=xs.length*szr:=by have:=congrArg List.length hds;rw[yJ,xg hszx]at this;exact this
     have hmn:Nat.min ys.length n<=ys.length/\Nat.min ys.length n<=n:=⟨Nat.min_le_left _ _,Nat.min_le_right _ _⟩
     generalize hmm:Nat.min ys.length n=m at *;have hyl:(ys.take m).length=m:=by rw[zBI];omega
     have hlx:off+(ys.take m).length<=xs.length:=by rw[hyl];omega
     have het:cl0L (es.take (m*szr))=flatD (ys.take m):=by rw[vY,h4,qn h2]
     have hetl:(es.take (m*szr)).length=m*szr:=by rw[zBI,hesl];exact Nat.min_eq_left (zW _ hmn.1)
     have hml:off*szr+m*szr<=ds.length:=by rw[hl,<- zBW];exact zW _ (by omega)
     rcases hdd with⟨rfl,_⟩ | ⟨rfl,rfl,_⟩
     ·have hgo:=ZZ hS (c' := .arr .no szr (wG xs off (ys.take m))) (o := .row (qE ds (off*szr) (es.take (m*szr))) false) hr' (zkE hr' (zop hlx)) ⟨_,_,rfl,rfl,zfd hszx (Yl h2 _) hds het _ hlx,zkB hszx (Yl h2 _) _⟩;refine⟨_,_,h1,some (.int .i64 (m:Nat)),_,ρ,τ,?_,rfl,hgo,rfl⟩;have ho:st.mem ((zy ρ τ p st).ρ k)=some (.row ds false):=ho;simp only[opD,he1,he2,h3,zD,hmm];rw[zBu ⟨trivial,by omega⟩];simp only[storeD,ho,hetl];rw[zBu ⟨hml,WM (kZ h2 h4) _⟩];rfl
     ·have hm0:m=0:=by omega
      subst hm0;have hsame:wG xs off (ys.take 0)=xs:=by simp[wG,List.take_append_drop]
      rw[hsame]at h1;refine⟨_,_,h1,some (.int .i64 0),st,ρ,τ,?_,rfl,?_,rfl⟩
      ·simp only[opD,he1,he2,h3,zD]
      ·have:p.setR k (.arr .no szr xs)=p:=by
        have:p.rows.set k ⟨false,.arr .no szr xs⟩=p.rows:=by
         apply List.ext_getElem?;intro i;by_cases hi:i=k
         ·subst hi;rw[zCd (getElem?_lt hr'),hr']
         ·rw[zCe (fun e=>hi e.symm)]
        simp only[PSt.setR,this]
       rw[this];exact .refl hS
   ·obtain⟨ds,rfl,hds⟩:=hr1;have:ds=[]:=by
     cases ds with
     | nil=>rfl
     | cons a b=>simp[cl0L,flatD]at hds
    subst this;refine⟨_,_,h1,some (.int .i64 0),st,ρ,τ,?_,rfl,.refl hS,rfl⟩;simp only[opD,he1,he2,h3,zD,zBH]
 case nbl t e=>obtain⟨hgo,hlen⟩:=ZX (o := .bld t e []) (c := .bld t e []) hS rfl;refine⟨_,_,h,some (.ptr st.nx 0),_,_,_,rfl,?_,hgo,rfl⟩;refine⟨by show p.rows.length<(p.newR _).rows.length;rw[hlen];omega,?_⟩;show D.ptr st.nx 0 = .ptr (if p.rows.length=p.rows.length then st.nx else _) 0;rw[zBu rfl]
 case rng x=>
  split at h<;>try contradiction
  next x hx=>rw[zA]at h;obtain⟨s,hs,h⟩:=h;obtain⟨e1,he1,hr1⟩:=xD hg hS hx;have:=ziB hs hr1;subst this;obtain⟨hgo,hlen⟩:=ZX (o := .iter s 0) (c := .iter s 0) hS rfl;refine⟨_,_,h,some (.ptr st.nx 0),_,_,_,by simp[opD,he1],?_,hgo,rfl⟩;refine⟨by show p.rows.length<(p.newR _).rows.length;rw[hlen];omega,?_⟩;show D.ptr st.nx 0 = .ptr (if p.rows.length=p.rows.length then st.nx else _) 0;rw[zBu rfl]
 case nxt x=>
  split at h<;>try contradiction
  next k hd=>
   split at h<;>try contradiction
   next s pos hw=>
    obtain⟨e1,he1,hr1⟩:=yp hg hS hd;obtain⟨hk,rfl⟩:=hr1;have hr':=j1 hw;obtain⟨o,ho,rfl⟩:=hS.rows k _ hr';rcases ho with ho | ho
    ·contradiction
    have ho:st.mem ((zy ρ τ p st).ρ k)=some (.iter s pos):=ho;split at h
    ·next hlt=>
     have hgo:=ZZ hS (c' := .iter s (pos+(Utf8.decode ⟨s.toArray⟩ pos).2)) (o := .iter s (pos+(Utf8.decode ⟨s.toArray⟩ pos).2)) hr' (KX hr' (by simp) (by simp)) rfl;refine⟨_,_,h,some (.tup [.bool true,.int .i64 pos,.int .i32 (Utf8.decode ⟨s.toArray⟩ pos).1]),_,ρ,τ,?_,rfl,hgo,rfl⟩;simp only[opD,he1,ho];rw[zBu hlt];rfl
    ·next hlt=>
     refine⟨_,_,h,some (.tup [.bool false]),st,ρ,τ,?_,rfl,.refl hS,rfl⟩;simp only[opD,he1,ho];rw[zBt hlt]
 case call f xs=>exact(hc1 f xs rfl).elim
 case callv f xs=>exact(hc2 f xs rfl).elim
theorem zpc{tm tm':PTm}{t:Nat}{d:PD}(h:zvf tm t d=some tm')(u:Nat):xb tm' u=(if u=t then some (false,d)else xb tm u)/\(∀ f e,xb tm t=some (f,e)->f=false):=by
 induction tm generalizing tm' with
 | nil=>
  simp only[zvf,zBB]at h;subst h;refine⟨?_,fun f e h=>by simp[xb]at h⟩;simp only[xb];by_cases e:u=t
  ·subst e;rw[Nat.beq_refl,zBu rfl]
  ·rw[zBt e];have:t.beq u=false:=by
    cases hb:t.beq u with
    | false=>rfl
    | true=>exact(e (zJ hb).symm).elim
   rw[this]
 | cons a s ih=>
  obtain⟨i,f,e⟩:=a;have bne : ∀ {a b:Nat},a≠b->a.beq b=false:=by
   intro a b hab;cases hb:a.beq b with
   | false=>rfl
   | true=>exact(hab (zJ hb)).elim
  simp only[zvf]at h;split at h
  ·next hi=>
   have hi:=zJ hi;subst hi;split at h<;>try contradiction
   injection h with h;subst h;refine⟨?_,fun f e h=>by simp only[xb,Nat.beq_refl,zBB,zBC]at h;exact h.1.symm⟩;by_cases hu:u=i
   ·subst hu;simp only[xb,Nat.beq_refl,zBu]
   ·simp only[xb,bne (fun h=>hu h.symm),zBt hu]
  ·next hi=>
   have hi:i≠t:=fun e=>by subst e;rw[Nat.beq_refl]at hi;contradiction
   split at h<;>try contradiction
   next r' hr=>
    injection h with h;subst h;obtain⟨h1,h2⟩:=ih hr;refine⟨?_,?_⟩
    ·simp only[xb];by_cases hiu:i=u
     ·subst hiu;rw[Nat.beq_refl,zBt hi]
     ·rw[bne hiu];exact h1
    ·intro f' e' h;simp only[xb,bne hi]at h;exact h2 f' e' h
theorem zcS{tm tm':PTm}{t:Nat}(h:zsZ tm t=some tm')(u:Nat):xb tm' u=(if u=t then none else xb tm u)/\(∀ f e,xb tm t=some (f,e)->f=false):=by
 induction tm generalizing tm' with
 | nil=>simp only[zsZ,zBB]at h;subst h;refine⟨?_,fun f e h=>by simp[xb]at h⟩;simp[xb]
 | cons a s ih=>
  obtain⟨i,f,e⟩:=a;have bne : ∀ {a b:Nat},a≠b->a.beq b=false:=by
   intro a b hab;cases hb:a.beq b with
   | false=>rfl
   | true=>exact(hab (zJ hb)).elim
  simp only[zsZ]at h;split at h
  ·next hi=>
   have hi:=zJ hi;subst hi;split at h<;>try contradiction
   obtain⟨h1,h2⟩:=ih h;refine⟨?_,fun f e h=>by simp only[xb,Nat.beq_refl,zBB,zBC]at h;exact h.1.symm⟩;rw[h1];by_cases hu:u=i
   ·rw[zBu hu,zBu hu]
   ·simp only[xb,bne (fun h=>hu h.symm),zBt hu]
  ·next hi=>
   have hi:i≠t:=fun e=>by subst e;rw[Nat.beq_refl]at hi;contradiction
   split at h<;>try contradiction
   next r' hr=>
    injection h with h;subst h;obtain⟨h1,h2⟩:=ih hr;refine⟨?_,?_⟩
    ·simp only[xb];by_cases hiu:i=u
     ·subst hiu;rw[Nat.beq_refl,zBt hi]
     ·rw[bne hiu];exact h1
    ·intro f' e' h;simp only[xb,bne hi]at h;exact h2 f' e' h
theorem KS(hS:Sim ρ τ p st){tm:PTm}{tm':Tm}(h1 : ∀ t f d,xb tm t=some (f,d) -> ∃ e,get tm' t=some e/\RP (zy ρ τ p st) d e)
  (h2 : ∀ t d,xb tm t=some (true,d)->xb p.tm t=some (true,d)/\get tm' t=get st.tm t):Goes ρ τ p st ρ τ { p with tm:=tm } { st with tm:=tm' } where
 sim:=⟨h1,hS.nx,hS.rows,hS.inj,hS.lin,hS.linj⟩
 nx:=zR _
 lo:=rfl
 len:=zR _
 ρs _ _:=rfl
 ρn k h1 h2:=absurd h2 (Nat.not_lt.2 h1)
 τn i l h := .inl ⟨i,h⟩
 wf hw:=⟨fun t d h=>hw.1 t d (h2 t d h).1,hw.2⟩
 ro _ _ _ h _:=h
 rof _ r' _ h hr:=⟨r',h,hr⟩
 rk _ _ := .inl rfl
 mem _ _ _:=rfl
 tip _ _ _:=rfl
 lw _ h _ _ _:=h
 flg _ t d h:=h2 t d h
theorem KF(hS:Sim ρ τ p st){dst:Option Nat}{d:Option PD}{e:Option D}(hr:RO (zy ρ τ p st) d e){p':PSt}(h:zbC p dst d=some p'):Goes ρ τ p st ρ τ p' (st.set dst e):=by
 unfold zbC at h;split at h
 ·injection h with h;subst h;have:st.set none e=st:=by cases e<;>rfl
  rw[this];exact .refl hS
 ·next t=>
  split at h
  ·next d=>
   split at h<;>try contradiction
   next tm hp=>
    injection h with h;subst h;cases e with
    | none=>exact hr.elim
    | some e=>
     refine KS hS (tm':=Ev.put st.tm t e) (fun u f d' hu => ?_) (fun u d' hu => ?_)
     ·rw[(zpc hp u).1]at hu;rw[get_put];split at hu
      ·next h=>injection hu with hu;injection hu with h3 h4;subst h4;rw[zBu h];exact⟨e,rfl,hr⟩
      ·next h=>rw[zBt h];exact hS.tm u f d' hu
     ·rw[(zpc hp u).1]at hu;split at hu
      ·injection hu with hu;injection hu with h3 h4;contradiction
      ·next h=>exact⟨hu,by rw[get_put,zBt h]⟩
  ·split at h<;>try contradiction
   next tm hp=>
    injection h with h;subst h;cases e with
    | some e=>exact hr.elim
    | none=>
     refine KS hS (tm':=Ev.del st.tm t) (fun u f d' hu => ?_) (fun u d' hu => ?_)
     ·rw[(zcS hp u).1]at hu;rw[Zx];split at hu
      ·contradiction
      ·next h=>rw[zBt h];exact hS.tm u f d' hu
     ·rw[(zcS hp u).1]at hu;split at hu
      ·contradiction
      ·next h=>exact⟨hu,by rw[Zx,zBt h]⟩
theorem zAB(l:List Nat)(t:Nat):hasB l t=has l t:=by
 induction l with
 | nil=>rfl
 | cons i r ih=>
  simp only[hasB,has];by_cases h:i=t
  ·subst h;rw[Nat.beq_refl,zBu rfl]
  ·have:i.beq t=false:=by
    cases hb:i.beq t with
    | false=>rfl
    | true=>exact(h (zJ hb)).elim
   rw[this,zBt h];exact ih
theorem zkY(l:List Nat)(tm:PTm)(u:Nat):xb (zaV l tm) u=if has l u then xb tm u else none:=by
 induction tm with
 | nil=>simp[zaV,xb]
 | cons a s ih=>
  obtain⟨i,f,e⟩:=a;simp only[zaV,xb,zAB];cases h:has l i with
  | true=>
   simp only[xb];cases hb:i.beq u with
   | true=>have:=zJ hb;subst this;rw[h,zBu rfl]
   | false=>exact ih
  | false=>
   simp only;rw[ih];cases hb:i.beq u with
   | true=>have:=zJ hb;subst this;rw[h];rfl
   | false=>rfl
theorem K6(hS:Sim ρ τ p st)(l:List Nat):Goes ρ τ p st ρ τ { p with tm:=zaV l p.tm } { st with tm:=kept l st.tm }:=by
 refine KS hS (fun u f d hu => ?_) (fun u d hu => ?_)
 ·rw[zkY]at hu;rw[vy];split at hu<;>try contradiction
  next h=>rw[zBu h];exact hS.tm u f d hu
 ·rw[zkY]at hu;split at hu<;>try contradiction
  next h=>exact⟨hu,by rw[vy,zBu h]⟩
end
end
section
def rowOf(m:Mem)(k:Nat):Option (List D):=match m k with | some (.row xs _)=>some xs | _=>none
mutual
theorem zxa{m m':Mem}(h : ∀ k,rowOf m k=rowOf m' k) : ∀ d:D,d.cl m=d.cl m'
 | .und=>rfl
 | .off=>rfl
 | .bool _=>rfl
 | .int _ _=>rfl
 | .float _ _=>rfl
 | .str _=>rfl
 | .nilp=>rfl
 | .nilf=>rfl
 | .nili=>rfl
 | .sl g n xs=>by simp only[D.cl,clL_row h xs]
 | .ref k off n c sz=>by have:=h k;simp only[D.cl];unfold rowOf at this;split at this<;>split at this<;>simp_all
 | .ptr _ _=>rfl
 | .el _=>rfl
 | .agg xs=>by simp only[D.cl,clL_row h xs]
 | .tup xs=>by simp only[D.cl,clL_row h xs]
 | .fn _ _=>rfl
 | .iface t d=>by simp only[D.cl,zxa h d]
theorem clL_row{m m':Mem}(h : ∀ k,rowOf m k=rowOf m' k) : ∀ l:List D,clL m l=clL m' l
 | []=>rfl
 | d::r=>by simp only[clL,zxa h d,clL_row h r]
end
theorem zsQ(st:St)(l:List Nat)(k:Nat):rowOf (frz st l).mem k=rowOf st.mem k:=by
 induction l generalizing st with
 | nil=>rfl
 | cons j r ih=>
  simp only[frz];split
  ·next xs b hj=>
   rw[ih];show rowOf (upd st.mem j _) k=_;unfold rowOf upd;by_cases e:k=j
   ·subst e;rw[zBu rfl,hj]
   ·rw[zBt e]
  ·exact ih st
theorem zek(st:St)(l:List Nat)(b:Nat)(h:b ∉ l):(frz st l).mem b=st.mem b:=by
 induction l generalizing st with
 | nil=>rfl
 | cons k r ih=>
  have h1:b≠k:=fun e=>h (by rw[e];exact zBY)
  have h2:b ∉ r:=fun hm=>h (zP _ hm)
  simp only[frz];split
  ·rw[ih _ h2];show upd st.mem k _ b=_;unfold upd;rw[zBt h1]
  ·exact ih _ h2
theorem zhr(st:St)(a b:List Nat):frz st (a++b)=frz (frz st a) b:=by
 induction a generalizing st with
 | nil=>rfl
 | cons j r ih=>simp only[List.cons_append,frz];split<;>exact ih _
def RA(ρ:Nat->Nat)(np:Nat):PA->D->Prop
 | .v x,d=>d=x.toD
 | .p j off,d=>j<np/\d = .ptr (ρ j) off
 | .fn f cap,d => ∃ es,d = .fn f es/\RCL ρ np cap es
 | .o _ _,_=>False
 | .g,_=>False
 | .u,_=>False
def RAL(ρ:Nat->Nat)(np:Nat):List PA->List D->Prop
 | [],[]=>True
 | a::r,d::s=>RA ρ np a d/\RAL ρ np r s
 | _,_=>False
def zqi(n:Nat)(x:V)(o:Ob):Prop := ∃ cs,o = .row cs false/\cl0L cs=toDL x.parts/\okN n x=true/\(n=1->x.one=true)
structure zhd(ρ:Nat->Nat)(pars:List (Bool×Nat×V))(ys:List V)(st st1 st':St):Prop where
 tm:st'.tm=st.tm
 lo:st'.lo=st.lo
 nx:st.nx<=st'.nx
 mem : ∀ b,b<st.nx->(∀ (j:Nat) (e:Bool×Nat×V),pars[j]?=some e->ρ j=b->e.1=true)->st'.mem b=st1.mem b
 tip : ∀ l,l<st.nx->st'.tip l=st.tip l
 lw : ∀ m,m<=st1.lw->m<=st.nx->(∀ (j:Nat) (e:Bool×Nat×V),pars[j]?=some e->e.1=false->m<=ρ j)->m<=st'.lw
 par : ∀ (j:Nat) (e:Bool×Nat×V),pars[j]?=some e -> ∃ y o,ys[j]?=some y/\st'.mem (ρ j)=some o/\zqi e.2.1 y o
 still:(∀ (j:Nat) (e:Bool×Nat×V),pars[j]?=some e->e.1=true)->st'=st1
def PcN(E:Env)(pc:PcT):Prop := ∀ f as pars r,pc f as pars=some r -> ∀ (ρ:Nat->Nat) (st:St) (ds:List D),
 RAL ρ pars.length as (clL st.mem ds) ->
 (∀ (j:Nat) (e:Bool×Nat×V),pars[j]?=some e->ρ j<st.nx /\ ∃ o,(frz st (refsL ds)).mem (ρ j)=some o/\zqi e.2.1 e.2.2 o) ->
 (∀ i j,i<pars.length->j<pars.length->ρ i=ρ j->i=j) ->
 ∃ st',zz E f ds st=some (.ret r.1.toD,st')/\zhd ρ pars r.2 st (frz st (refsL ds)) st'
def zw5(sz n:Nat)(st:St)(g:Tg):Prop:=g = .full \/ ∃ l,g = .ln l sz/\l<st.nx/\st.tip l=some n
structure zsB(sz:Nat)(g:Tg)(st st':St):Prop where
 tm:st'.tm=st.tm
 lo:st'.lo=st.lo
 nx:st.nx<=st'.nx
 mem : ∀ b,b<st.nx->st'.mem b=st.mem b
 tip : ∀ l,l<st.nx->g ≠ .ln l sz->st'.tip l=st.tip l
 lw : ∀ m,m<=st.lw->m<=st.nx->(∀ l,g = .ln l sz->m<=l)->m<=st'.lw
def zu4(E:Env)(pc:PcT)(f sz:Nat)(ds:List D):Prop := ∀ as q,pc f (.g::as) []=some q -> ∀ (ρ:Nat->Nat) (st:St),RAL ρ 0 as (clL st.mem ds) ->
 ∃ ys cs,q.1 = .sl ys/\cl0L cs=flatD ys/\yi sz ys=true /\ ∃ g st',zz E f ds st=some (.ret (.sl g ys.length cs),st') /\
  (g = .full/\st'=frz st (refsL ds)\/g = .ln (frz st (refsL ds)).nx sz/\st'={ frz st (refsL ds)with tip:=upd (frz st (refsL ds)).tip (frz st (refsL ds)).nx ys.length,nx:=(frz st (refsL ds)).nx+1 })
def PcG(E:Env)(md:Nat->Md)(pc:PcT):Prop := ∀ f sz ds,md f = .gv sz->zu4 E pc f sz ds
def PcW(E:Env)(md:Nat->Md)(pc:PcT):Prop := ∀ f sz ys xs q,md f = .raw sz->pc f (.o sz ys::xs.map PA.v) []=some q -> ∀ (st:St) (g:Tg) (cs es:List D),cl0L cs=flatD ys->yi sz ys=true->zw5 sz ys.length st g->cl0L es=toDL xs ->
 ∃ d st',zz E f (.sl g ys.length cs::es) st=some (.ret d,st')/\d.cl0=q.1.toD/\zsB sz g st st'
def YM:D->Bool
 | .sl .full _ _=>true
 | .ref _ _ n c _=>Nat.beq n c
 | _=>false
def PcF(E:Env)(md:Nat->Md)(pc:PcT):Prop := ∀ f as q,md f = .ful->pc f (.u::as) []=some q -> ∀ (ρ:Nat->Nat) (st:St) (d:D) (ds:List D),YM d=true->RAL ρ 0 as (clL st.mem (d::ds)) ->
 zz E f (d::ds) st=some (.ret q.1.toD,frz st (refsL (d::ds)))
def PcH(E:Env)(md:Nat->Md)(pc:PcT):Prop := ∀ f sz d ds,md f = .gvf sz->YM d=true->zu4 E pc f sz (d::ds)
structure zbt(E:Env)(md:Nat->Md)(pc:PcT):Prop where
 n:PcN E pc
 g:PcG E md pc
 w:PcW E md pc
 f:PcF E md pc
 h:PcH E md pc
 e : ∀ f e,md f = .eff e->E.ext f=some (.eff e)
section
variable {ρ:Nat->Nat} {τ:Nat->Option Nat} {p:PSt} {st:St} {ρ':Type} {r:ρ'}
theorem zcH(hS:Sim ρ τ p st){k sz off n c:Nat}{z:Bool}{e:D}(hk:k<p.rows.length)(hdd:e = .ref ((zy ρ τ p st).ρ k) (off*sz) n c sz/\(z=false\/0<c)\/c=0/\e = .sl .full 0 []/\z=true){p':PSt}(h:freeze p (k,z)=some p') :
  Goes ρ τ p st ρ τ p' (frz st e.refs)/\Le (zy ρ τ p st) (zy ρ τ p' (frz st e.refs))/\p'.tm=p.tm/\p'.rows.length=p.rows.length/\(∀ (j:Nat) (r':Row),p'.rows[j]?=some r'->r'.c.isArr=false->p.rows[j]?=some r') /\
   (∀ (j:Nat) (r':Row),p.rows[j]?=some r'->r'.c.isArr=false->p'.rows[j]?=some r'):=by
 -- the row's turn
 have key : ∀ {f f':Fz} {b b':Bool} {s:Nat} {xs:List V} {ds:List D},p.rows[k]?=some ⟨false,.arr f s xs⟩->st.mem (ρ k)=some (.row ds b)->cl0L ds=flatD xs->yi s xs=true->f'.ok b' ->
   Goes ρ τ p st ρ τ (p.setR k (.arr f' s xs)) (st.setOb (ρ k) (.row ds b'))/\Le (zy ρ τ p st) (zy ρ τ (p.setR k (.arr f' s xs)) (st.setOb (ρ k) (.row ds b'))):=by
  intro f f' b b' s xs ds hkk hm h1 h2 h3;have hrk2:=zkE (f':=f') hkk (ys:=xs) rfl;refine⟨ZZ hS hkk hrk2 ⟨ds,b',rfl,h3,h1,h2⟩,fun _ _=>rfl,by simp[zy,PSt.setR],fun j _ => .inl ?_,fun i l h=>⟨h,rfl⟩,zR _⟩;by_cases e:j=k
  ·subst e;exact hrk2
  ·show yj (p.setR k _).rows j=yj p.rows j;simp only[yj,PSt.setR,zCe (fun h=>e h.symm)]
 have other : ∀ {f f':Fz} {s:Nat} {xs:List V},p.rows[k]?=some ⟨false,.arr f s xs⟩->(∀ (j:Nat) (r':Row),(p.setR k (.arr f' s xs)).rows[j]?=some r'->r'.c.isArr=false->p.rows[j]?=some r') /\
   (∀ (j:Nat) (r':Row),p.rows[j]?=some r'->r'.c.isArr=false->(p.setR k (.arr f' s xs)).rows[j]?=some r'):=by
  intro f f' s xs hkk;refine⟨fun j r' hj hr' => ?_,fun j r' hj hr' => ?_⟩
  ·by_cases e:j=k
   ·subst e;simp[PSt.setR,zCd hk]at hj;subst hj;simp[RowC.isArr]at hr'
   ·simpa[PSt.setR,zCe (fun h=>e h.symm)]using hj
  ·by_cases e:j=k
   ·subst e;rw[hkk]at hj;injection hj with hj;subst hj;simp[RowC.isArr]at hr'
   ·simpa[PSt.setR,zCe (fun h=>e h.symm)]using hj
 have lenS : ∀ c,(p.setR k c).rows.length=p.rows.length:=fun c=>by simp[PSt.setR]
 have frz1 : ∀ {ds b},st.mem (ρ k)=some (.row ds b)->frz st [ρ k]=st.setOb (ρ k) (.row ds true):=by intro ds b hm;simp only[frz,hm]
 have row : ∀ {rr:Row} {f:Fz} {s:Nat} {xs:List V},p.rows[k]?=some rr->rr.c = .arr f s xs -> ∃ ds b,st.mem (ρ k)=some (.row ds b)/\f.ok b/\cl0L ds=flatD xs/\yi s xs=true:=by
  intro rr f s xs hkk hc;obtain⟨o,ho,h2⟩:=hS.rows k _ hkk;rw[hc]at h2;obtain⟨ds,b,rfl,h3,h4,h5⟩:=h2;rcases ho with ho | ho
  ·rw[hc]at ho;contradiction
  ·exact⟨ds,b,ho,h3,h4,h5⟩
 unfold freeze at h;split at h<;>try contradiction
 ·next ro s xs hkk=>
  injection h with h;subst h;obtain⟨ds,b,ho,h3,h4,h5⟩:=row hkk rfl;have h3:b=true:=h3;subst h3;rcases hdd with⟨rfl,_⟩ | ⟨_,rfl,_⟩
  ·-- it is held already: nothing turns but the mark of what has been touched
   have hmem : ∀ b,upd st.mem (ρ k) (.row ds true) b=st.mem b:=by
    intro b;unfold upd;split
    ·next e=>rw[e];exact ho.symm
    ·rfl
   have hst:frz st (D.refs (.ref ((zy ρ τ p st).ρ k) (off*sz) n c sz))={ st with lw:=if ρ k<st.lw then ρ k else st.lw }:=by show frz st [ρ k]=_;rw[frz1 ho];show({ st.touch (ρ k)with mem:=upd st.mem (ρ k) (.row ds true) }:St)=_;rw[funext hmem];rfl
   rw[hst];refine⟨⟨⟨hS.tm,hS.nx,hS.rows,hS.inj,hS.lin,hS.linj⟩,zR _,rfl,zR _,fun _ _=>rfl,fun j h1 h2=>absurd h2 (Nat.not_lt.2 h1),fun i l h => .inl ⟨i,h⟩,fun h=>h,fun _ _ _ h _=>h,fun _ r' _ h hr=>⟨r',h,hr⟩,fun _ _ => .inl rfl,fun _ _ _=>rfl,fun _ _ _=>rfl,fun m h1 _ h6 _ => ?_,fun _ t d h=>⟨h,rfl⟩⟩,⟨fun _ _=>rfl,zR _,fun _ _ => .inl rfl,fun i l h=>⟨h,rfl⟩,zR _⟩,rfl,rfl,fun _ _ h _=>h,fun _ _ h _=>h⟩;have:=h6 k _ hkk (.inr rfl);show m<=if ρ k<st.lw then ρ k else st.lw
   split<;>omega
  ·exact⟨.refl hS,⟨fun _ _=>rfl,zR _,fun _ _ => .inl rfl,fun i l h=>⟨h,rfl⟩,zR _⟩,rfl,rfl,fun _ _ h _=>h,fun _ _ h _=>h⟩
 ·next s xs hkk=>
  obtain⟨ds,b,ho,h3,h4,h5⟩:=row hkk rfl;cases z with
  | true=>
   injection h with h;subst h;rcases hdd with⟨rfl,_⟩ | ⟨_,rfl,_⟩
   ·have hst:frz st (D.refs (.ref ((zy ρ τ p st).ρ k) (off*sz) n c sz))=st.setOb (ρ k) (.row ds true):=frz1 ho;rw[hst];have hp:p.setR k (.arr .may s xs)=p:=by
     have:p.rows.set k ⟨false,.arr .may s xs⟩=p.rows:=by
      apply List.ext_getElem?;intro i;by_cases hi:i=k
      ·subst hi;rw[zCd (getElem?_lt hkk),hkk]
      ·rw[zCe (fun e=>hi e.symm)]
     simp only[PSt.setR,this]
    obtain⟨h6,h7⟩:=key (f' := .may) (b':=true) hkk ho h4 h5 trivial;rw[hp]at h6 h7;exact⟨h6,h7,rfl,rfl,fun _ _ h _=>h,fun _ _ h _=>h⟩
   ·exact⟨.refl hS,⟨fun _ _=>rfl,zR _,fun _ _ => .inl rfl,fun i l h=>⟨h,rfl⟩,zR _⟩,rfl,rfl,fun _ _ h _=>h,fun _ _ h _=>h⟩
  | false=>
   injection h with h;subst h;rcases hdd with⟨rfl,_⟩ | ⟨_,rfl,h8⟩
   ·have hst:frz st (D.refs (.ref ((zy ρ τ p st).ρ k) (off*sz) n c sz))=st.setOb (ρ k) (.row ds true):=frz1 ho;rw[hst];obtain⟨h6,h7⟩:=key (f' := .yes) (b':=true) hkk ho h4 h5 rfl;obtain⟨h9,h10⟩:=other (f' := .yes) hkk;exact⟨h6,h7,rfl,lenS _,h9,h10⟩
   ·contradiction
 ·next s xs hkk=>
  obtain⟨ds,b,ho,h3,h4,h5⟩:=row hkk rfl;cases z with
  | true=>
   injection h with h;subst h;obtain⟨h9,h10⟩:=other (f' := .may) hkk;rcases hdd with⟨rfl,_⟩ | ⟨_,rfl,_⟩
   ·have hst:frz st (D.refs (.ref ((zy ρ τ p st).ρ k) (off*sz) n c sz))=st.setOb (ρ k) (.row ds true):=frz1 ho;rw[hst];obtain⟨h6,h7⟩:=key (f' := .may) (b':=true) hkk ho h4 h5 trivial;exact⟨h6,h7,rfl,lenS _,h9,h10⟩
   ·obtain⟨h6,h7⟩:=key (f' := .may) (b':=b) hkk ho h4 h5 trivial;have hsame:st.setOb (ρ k) (.row ds b)={ st with lw:=if ρ k<st.lw then ρ k else st.lw }:=by
     show({ st.touch (ρ k)with mem:=upd st.mem (ρ k) (.row ds b) }:St)=_;have hmem : ∀ j,upd st.mem (ρ k) (.row ds b) j=st.mem j:=by
      intro j;unfold upd;split
      ·next e=>rw[e];exact ho.symm
      ·rfl
     rw[funext hmem];rfl
    rw[hsame]at h6 h7;refine⟨⟨⟨h6.sim.tm,h6.sim.nx,h6.sim.rows,h6.sim.inj,h6.sim.lin,h6.sim.linj⟩,h6.nx,h6.lo,h6.len,h6.ρs,h6.ρn,h6.τn,h6.wf,h6.ro,h6.rof,h6.rk,fun _ _ _=>rfl,fun _ _ _=>rfl,fun m h1 _ _ _=>h1,h6.flg⟩,⟨h7.ρ,h7.m,h7.rk,h7.τ,h7.ni⟩,rfl,lenS _,h9,h10⟩
  | false=>
   injection h with h;subst h;rcases hdd with⟨rfl,_⟩ | ⟨_,rfl,h8⟩
   ·have hst:frz st (D.refs (.ref ((zy ρ τ p st).ρ k) (off*sz) n c sz))=st.setOb (ρ k) (.row ds true):=frz1 ho;rw[hst];obtain⟨h6,h7⟩:=key (f' := .yes) (b':=true) hkk ho h4 h5 rfl;obtain⟨h9,h10⟩:=other (f' := .yes) hkk;exact⟨h6,h7,rfl,lenS _,h9,h10⟩
   ·contradiction
theorem znK(hS:Sim ρ τ p st){k sz off n c:Nat}{z:Bool}{e:D}(hr:RS (zy ρ τ p st) (.ref k sz off n c z) e){p':PSt}(h:freeze p (k,z)=some p') :
  Goes ρ τ p st ρ τ p' (frz st e.refs)/\Le (zy ρ τ p st) (zy ρ τ p' (frz st e.refs))/\p'.tm=p.tm/\p'.rows.length=p.rows.length/\(∀ (j:Nat) (r':Row),p'.rows[j]?=some r'->r'.c.isArr=false->p.rows[j]?=some r') /\
   (∀ (j:Nat) (r':Row),p.rows[j]?=some r'->r'.c.isArr=false->p'.rows[j]?=some r'):=zcH hS hr.1 hr.2.2.1 h
theorem zm5(hS:Sim ρ τ p st){k sz n:Nat}{e:D}(hr:RS (zy ρ τ p st) (.uref k sz n) e){p':PSt}(h:freeze p (k,false)=some p') :
  Goes ρ τ p st ρ τ p' (frz st e.refs)/\Le (zy ρ τ p st) (zy ρ τ p' (frz st e.refs))/\p'.tm=p.tm/\p'.rows.length=p.rows.length/\(∀ (j:Nat) (r':Row),p'.rows[j]?=some r'->r'.c.isArr=false->p.rows[j]?=some r') /\
   (∀ (j:Nat) (r':Row),p.rows[j]?=some r'->r'.c.isArr=false->p'.rows[j]?=some r'):=by
 obtain⟨h1,⟨cp,_,h2⟩,_⟩:=hr;exact zcH hS (off:=0) (n:=n) (sz:=sz) (c:=cp) h1 (.inl ⟨by rw[Nat.zero_mul];exact h2,.inl rfl⟩) h
theorem Le.refl(c:Cx):Le c c:=⟨fun _ _=>rfl,zR _,fun _ _ => .inl rfl,fun _ _ h=>⟨h,rfl⟩,zR _⟩
theorem Le.trans{a b c:Cx}(h:Le a b)(k:Le b c):Le a c where
 ρ j hj:=by rw[k.ρ j (zK hj h.m),h.ρ j hj]
 m:=zBK h.m k.m
 rk j hj:=by
  rcases k.rk j (zK hj h.m)with e | e
  ·rw[e];exact h.rk j hj
  ·exact .inr e
 τ i l hi:=by obtain⟨h1,h2⟩:=h.τ i l hi;obtain⟨h3,h4⟩:=k.τ i l h1;exact⟨h3,h4.trans h2⟩
 ni:=zBK h.ni k.ni
structure Held(ρ:Nat->Nat)(τ:Nat->Option Nat)(p:PSt)(st:St)(p':PSt)(st':St):Prop where
 goes:Goes ρ τ p st ρ τ p' st'
 le:Le (zy ρ τ p st) (zy ρ τ p' st')
 tm:p'.tm=p.tm
 len:p'.rows.length=p.rows.length
 to : ∀ (j:Nat) (r':Row),p'.rows[j]?=some r'->r'.c.isArr=false->p.rows[j]?=some r'
 fro : ∀ (j:Nat) (r':Row),p.rows[j]?=some r'->r'.c.isArr=false->p'.rows[j]?=some r'
 ni:p'.ni=p.ni
 big : ∀ b,st.nx<=b->st'.mem b=st.mem b
 nx:st'.nx=st.nx
theorem zkQ{p p':PSt}{kz:Nat×Bool}(h:freeze p kz=some p'):p'.ni=p.ni:=by
 unfold freeze at h;split at h<;>try contradiction
 ·injection h with h;subst h;rfl
 ·split at h<;>(injection h with h;subst h;rfl)
 ·split at h<;>(injection h with h;subst h;rfl)
theorem Held.refl(hS:Sim ρ τ p st):Held ρ τ p st p st:=⟨.refl hS,.refl _,rfl,rfl,fun _ _ h _=>h,fun _ _ h _=>h,rfl,fun _ _=>rfl,rfl⟩
theorem Held.trans{p1 p2:PSt}{st1 st2:St}(hw:Wf p)(h:Held ρ τ p st p1 st1)(k:Held ρ τ p1 st1 p2 st2):Held ρ τ p st p2 st2:=
 ⟨.trans hw h.goes k.goes,h.le.trans k.le,k.tm.trans h.tm,k.len.trans h.len,fun j r' h1 h2=>h.to j r' (k.to j r' h1 h2) h2,fun j r' h1 h2=>k.fro j r' (h.fro j r' h1 h2) h2,k.ni.trans h.ni,fun b hb=>(k.big b (by rw[h.nx];exact hb)).trans (h.big b hb),k.nx.trans h.nx⟩
theorem zr1(hS:Sim ρ τ p st){q:PS}{e:D}(hr:RS (zy ρ τ p st) q e){x:V}(h:q.outV p=some x):e.cl st.mem=x.toD:=by
 cases q;case ref k sz off n c z=>
  simp only[PS.outV]at h;split at h<;>try contradiction
  next fz szr xs hrr=>
   injection h with h;subst h;obtain⟨rr,hr1,hr2⟩:=qu hrr;obtain⟨hk,hn,hdd,hrk⟩:=hr;have hn1:=hn.1;obtain⟨hs,hlen⟩:=hrk _ _ (YR hr1 hr2);subst hs;obtain⟨o,ho,ds,b,rfl,hfz,hds,hsz⟩:=hS.row hrr (by simp);have ho:st.mem ((zy ρ τ p st).ρ k)=some (.row ds b):=ho;have hl:ds.length=xs.length*szr:=by have:=congrArg List.length hds;rw[yJ,xg hsz]at this;exact this
   have hll:((xs.drop off).take n).length=n:=by rw[zBI,zBJ];omega
   rcases hdd with⟨rfl,_⟩ | ⟨rfl,rfl,_⟩
   ·have hm:(off+n)*szr<=xs.length*szr:=zW _ (by omega);rw[zBW]at hm;simp only[D.cl,ho,V.toD,hll];rw[zBu ⟨hn.1,by omega⟩,vY,qw,hds,qS hsz,qn (kT hsz _)]
   ·have:n=0:=by omega
    subst this;simp[D.cl,clL,V.toD,flatD]
 case uref k sz n=>
  simp only[PS.outV]at h;split at h<;>try contradiction
  next fz szr xs hrr=>
   injection h with h;subst h;obtain⟨rr,hr1,hr2⟩:=qu hrr;obtain⟨hk,⟨cp,hcp,rfl⟩,hrk⟩:=hr;obtain⟨hs,hlen⟩:=hrk _ _ (YR hr1 hr2);subst hs;obtain⟨o,ho,ds,b,rfl,hfz,hds,hsz⟩:=hS.row hrr (by simp);have ho:st.mem ((zy ρ τ p st).ρ k)=some (.row ds b):=ho;have hl:ds.length=xs.length*szr:=by have:=congrArg List.length hds;rw[yJ,xg hsz]at this;exact this
   have hll:(xs.take n).length=n:=by rw[zBI];omega
   have hm:n*szr<=xs.length*szr:=zW _ hlen;simp only[D.cl,ho,V.toD,hll];rw[zBu ⟨hcp.2,by omega⟩,zU,vY,hds,qn hsz]
 all_goals exact(zpe (PS.pure_ok hr h) _).1
theorem zxG(hS:Sim ρ τ p st){ps:List PS}{es:List D}(hr:RSL (zy ρ τ p st) ps es){l:List V}(h:zbQ p ps=some l):clL st.mem es=toDL l:=by
 induction ps generalizing es l with
 | nil=>cases es with
  | nil=>simp[zbQ]at h;subst h;rfl
  | cons d s=>exact hr.elim
 | cons q r ih=>cases es with
  | nil=>exact hr.elim
  | cons d s=>
   simp only[zbQ]at h;split at h<;>try contradiction
   split at h<;>try contradiction
   next x hx _ l' hl=>injection h with h;subst h;simp only[clL,toDL,zr1 hS hr.1 hx,ih hr.2 hl]
theorem zsc(hS:Sim ρ τ p st){q:PD}{e:D}(hr:RP (zy ρ τ p st) q e){x:V}(h:q.outV p=some x):e.cl st.mem=x.toD:=by
 cases q with
 | s q=>exact zr1 hS hr h
 | agg ps=>
  obtain⟨es,rfl,h1,_⟩:=hr;simp only[PD.outV]at h;split at h<;>try contradiction
  next l hl=>injection h with h;subst h;simp only[D.cl,V.toD,zxG hS h1 hl]
theorem zho(hS:Sim ρ τ p st){q:PS}{e:D}(hr:RS (zy ρ τ p st) q e){x:V}(ho:q.outV p=some x){p':PSt}(h:wy p q.refs=some p'):Held ρ τ p st p' (frz st e.refs):=by
 cases q;case ref k sz off n c z=>
  simp only[PS.refs,wy]at h;split at h<;>try contradiction
  next p1 h1=>
   injection h with h;subst h;obtain⟨h2,h3,h4,h5,h6,h7⟩:=znK hS hr h1;refine⟨h2,h3,h4,h5,h6,h7,zkQ h1,fun b hb=>zek st _ b (fun hm => ?_),QN _ _⟩;obtain⟨hk,hn,hdd,hrk⟩:=hr;rcases hdd with⟨rfl,_⟩ | ⟨_,rfl,_⟩
   ·simp only[D.refs,zS,List.not_mem_nil,or_false]at hm;have:=hS.nx k hk;subst hm;exact absurd this (Nat.not_lt.2 hb)
   ·simp[D.refs,refsL]at hm
 case uref k sz n=>
  simp only[PS.refs,wy]at h;split at h<;>try contradiction
  next p1 h1=>injection h with h;subst h;obtain⟨h2,h3,h4,h5,h6,h7⟩:=zm5 hS hr h1;refine⟨h2,h3,h4,h5,h6,h7,zkQ h1,fun b hb=>zek st _ b (fun hm => ?_),QN _ _⟩;obtain⟨hk,⟨cp,_,rfl⟩,_⟩:=hr;simp only[D.refs,zS,List.not_mem_nil,or_false]at hm;have:=hS.nx k hk;subst hm;exact absurd this (Nat.not_lt.2 hb)
 all_goals
  simp only[PS.refs,wy,zBB]at h;subst h;have:=PS.pure_ok hr ho;rw[(zpe this st.mem).2];exact .refl hS
theorem zh9(p:PSt)(a b:List (Nat×Bool)):wy p (a++b)=(wy p a).bind fun p'=>wy p' b:=by
 induction a generalizing p with
 | nil=>rfl
 | cons k r ih=>
  simp only[List.cons_append,wy];split
  ·exact ih _
  ·rfl
def SameRows(p p':PSt):Prop := ∀ k:Nat,(∃ r r':Row,p.rows[k]?=some r/\p'.rows[k]?=some r'/\((∃ f f' s xs,r.c = .arr f s xs/\r'.c = .arr f' s xs)\/r=r'))\/p.rows[k]?=none/\p'.rows[k]?=none
theorem ztA{p':PSt}(h:SameRows p p')(q:PS):q.outV p'=q.outV p:=by
 cases q;case ref k sz off n c z=>
  simp only[PS.outV,zad];rcases h k with⟨r,r',h1,h2,⟨f,f',s,xs,h3,h4⟩ | h3⟩ | ⟨h1,h2⟩
  ·obtain⟨ro,c⟩:=r;obtain⟨ro',c'⟩:=r';simp only at h3 h4;subst h3;subst h4;simp only[h1,h2]
  ·subst h3;rw[h1,h2]
  ·rw[h1,h2]
 case uref k sz n=>
  simp only[PS.outV,zad];rcases h k with⟨r,r',h1,h2,⟨f,f',s,xs,h3,h4⟩ | h3⟩ | ⟨h1,h2⟩
  ·obtain⟨ro,c⟩:=r;obtain⟨ro',c'⟩:=r';simp only at h3 h4;subst h3;subst h4;simp only[h1,h2]
  ·subst h3;rw[h1,h2]
  ·rw[h1,h2]
 all_goals rfl
theorem SameRows.refl(p:PSt):SameRows p p:=fun k=>by
 cases h:p.rows[k]? with
 | none=>exact .inr ⟨rfl,rfl⟩
 | some r=>exact .inl ⟨r,r,rfl,rfl,.inr rfl⟩
theorem zpT{p p':PSt}{kz:Nat×Bool}(h:freeze p kz=some p'):SameRows p p':=by
 intro j;have key : ∀ {f f':Fz} {s:Nat} {xs:List V},p.rows[kz.1]?=some ⟨false,.arr f s xs⟩->p'={ p with rows:=p.rows.set kz.1 ⟨false,.arr f' s xs⟩ } ->
   (∃ r r':Row,p.rows[j]?=some r/\p'.rows[j]?=some r'/\((∃ f f' s xs,r.c = .arr f s xs/\r'.c = .arr f' s xs)\/r=r'))\/p.rows[j]?=none/\p'.rows[j]?=none:=by
  intro f f' s xs hk he;subst he;by_cases e:j=kz.1
  ·subst e;exact .inl ⟨_,⟨false,.arr f' s xs⟩,hk,by simp[zCd (getElem?_lt hk)],.inl ⟨f,f',s,xs,rfl,rfl⟩⟩
  ·simp only[zCe (fun h=>e h.symm)];exact SameRows.refl p j
 unfold freeze at h;split at h<;>try contradiction
 ·injection h with h;subst h;exact SameRows.refl p j
 ·next hk=>
  split at h
  ·injection h with h;subst h;exact SameRows.refl p j
  ·injection h with h;exact key hk h.symm
 ·next hk=>
  split at h
  ·injection h with h;exact key hk h.symm
  ·injection h with h;exact key hk h.symm
theorem zlN{p p':PSt}{l:List (Nat×Bool)}(h:wy p l=some p') : ∀ q:PS,q.outV p'=q.outV p:=by
 induction l generalizing p with
 | nil=>simp only[wy,zBB]at h;subst h;intro q;rfl
 | cons k r ih=>
  simp only[wy]at h;split at h<;>try contradiction
  next p1 h1=>intro q;rw[ih h q,ztA (zpT h1)]
theorem zpi(hS:Sim ρ τ p st)(hw:Wf p){ps:List PS}{es:List D}(hr:RSL (zy ρ τ p st) ps es){l:List V}(ho:zbQ p ps=some l){p':PSt}(h:wy p (ziC ps)=some p'):Held ρ τ p st p' (frz st (refsL es)):=by
 induction ps generalizing es l p st with
 | nil=>cases es with
  | nil=>simp only[ziC,wy,zBB]at h;subst h;exact .refl hS
  | cons d s=>exact hr.elim
 | cons q r ih=>cases es with
  | nil=>exact hr.elim
  | cons d s=>
   simp only[zbQ]at ho;split at ho<;>try contradiction
   split at ho<;>try contradiction
   next x hx _ l' hl=>
    simp only[ziC,zh9,zA]at h;obtain⟨p1,h1,h2⟩:=h;have hh:=zho hS hr.1 hx h1;have hl1:zbQ p1 r=some l':=by
     have hs:=zlN h1;have : ∀ ps:List PS,zbQ p1 ps=zbQ p ps:=by
      intro ps;induction ps with
      | nil=>rfl
      | cons q r ih=>simp only[zbQ,hs,ih]
     rw[this];exact hl
    simp only[refsL,zhr];exact hh.trans hw (ih hh.goes.sim (hh.goes.wf hw) (RSL.le hh.le hr.2) hl1 h2)
theorem zrd(hS:Sim ρ τ p st)(hw:Wf p){q:PD}{e:D}(hr:RP (zy ρ τ p st) q e){x:V}(ho:q.outV p=some x){p':PSt}(h:wy p q.refs=some p'):Held ρ τ p st p' (frz st e.refs):=by
 cases q with
 | s q=>exact zho hS hr ho h
 | agg ps=>
  obtain⟨es,rfl,h1,_⟩:=hr;simp only[PD.outV]at ho;split at ho<;>try contradiction
  next l hl=>simp only[D.refs];exact zpi hS hw h1 hl h
end
end
section
section
variable {ρ:Nat->Nat} {τ:Nat->Option Nat} {p:PSt} {st:St} {ρ':Type} {r:ρ'}
theorem ziJ(k:Nat)(ks:List Nat):(place k ks).2[(place k ks).1]?=some k/\(∃ e,(place k ks).2=ks++e)/\(ks.Nodup->(place k ks).2.Nodup) /\ ∀ j∈(place k ks).2,j∈ks\/j=k:=by
 unfold place;cases h:ks.findIdx? (fun j=>j.beq k)with
 | some j=>simp only;obtain⟨h1,h2,_⟩:=List.findIdx?_eq_some_iff_getElem.1 h;have h2:=zJ h2;exact⟨by rw[zL h1,h2],⟨[],by simp⟩,id,fun j hj => .inl hj⟩
 | none=>
  simp only;have h1:=List.findIdx?_eq_none_iff.1 h;refine⟨by simp,⟨[k],rfl⟩,fun hn => ?_,fun j hj => ?_⟩
  ·rw[List.nodup_append];refine⟨hn,by simp,?_⟩;intro a ha b hb;simp at hb;subst hb;intro e;subst e;have:=h1 a ha;rw[Nat.beq_refl]at this;contradiction
  ·simpa using hj
structure Ks(n:Nat)(ks ks':List Nat):Prop where
 ext : ∃ e,ks'=ks++e
 nd:ks.Nodup->ks'.Nodup
 lt:(∀ j∈ks,j<n) -> ∀ j∈ks',j<n
theorem Ks.refl(n:Nat)(ks:List Nat):Ks n ks ks:=⟨⟨[],by simp⟩,id,id⟩
theorem Ks.trans{n:Nat}{a b c:List Nat}(h:Ks n a b)(k:Ks n b c):Ks n a c:=by refine⟨?_,fun x=>k.nd (h.nd x),fun x=>k.lt (h.lt x)⟩;obtain⟨e,rfl⟩:=h.ext;obtain⟨f,rfl⟩:=k.ext;exact⟨e++f,by rw[zBN]⟩
theorem znX{n k:Nat}(hk:k<n)(ks:List Nat):Ks n ks (place k ks).2:=by
 obtain⟨_,h2,h3,h4⟩:=ziJ k ks;refine⟨h2,h3,fun h j hj => ?_⟩;rcases h4 j hj with h5 | h5
 ·exact h j h5
 ·rw[h5];exact hk
def at0(ρ:Nat->Nat)(ks:List Nat)(j:Nat):Nat:=ρ (ks.getD j 0)
theorem zqA{ρ:Nat->Nat}{ks e:List Nat}{j k:Nat}(h:ks[j]?=some k):at0 ρ (ks++e) j=ρ k/\j<(ks++e).length:=by have hj:=getElem?_lt h;refine⟨?_,by simp;omega⟩;unfold at0;rw[List.getD_eq_getElem?_getD,zBP hj,h];rfl
theorem zxi{m:Nat}{ks:List Nat}{cap:List CP}{ds:List D}(h:RCL ρ m cap ds):Ks m ks (zg0 ks cap).2 /\ ∀ e,RCL (at0 ρ ((zg0 ks cap).2++e)) ((zg0 ks cap).2++e).length (zg0 ks cap).1 ds:=by
 induction cap generalizing ks ds with
 | nil=>cases ds with
  | nil=>exact⟨.refl _ _,fun e=>trivial⟩
  | cons d s=>exact h.elim
 | cons q r ih=>cases ds with
  | nil=>exact h.elim
  | cons d s=>
   cases q with
   | v x=>obtain⟨h1,h2⟩:=ih (ks:=ks) h.2;exact⟨h1,fun e=>⟨h.1,h2 e⟩⟩
   | p k off=>obtain⟨h1,h2⟩:=ih (ks:=(place k ks).2) h.2;refine⟨(znX h.1.1 ks).trans h1,fun e=>⟨?_,h2 e⟩⟩;obtain⟨f,hf⟩:=h1.ext;simp only[zg0];rw[hf,zBN];obtain⟨h3,h4⟩:=zqA (ρ:=ρ) (e:=f++e) (ziJ k ks).1;exact⟨h4,by rw[h3];exact h.1.2⟩
theorem zx6(hS:Sim ρ τ p st)(hw:Wf p){ks:List Nat}{d:PD}{e:D}(hr:RP (zy ρ τ p st) d e){a:PA}{ks':List Nat}{p':PSt}(h:zth p ks d=some (a,ks',p')) :
  Ks p.rows.length ks ks'/\Held ρ τ p st p' (frz st e.refs) /\ ∀ f,RA (at0 ρ (ks'++f)) (ks'++f).length a (e.cl st.mem):=by
 unfold zth at h;split at h
 ·next k off=>
  injection h with h;simp only[zBC]at h;obtain⟨rfl,rfl,rfl⟩:=h;obtain⟨hk,rfl⟩:=hr;refine⟨znX hk ks,.refl hS,fun f => ?_⟩;obtain⟨h3,h4⟩:=zqA (ρ:=ρ) (e:=f) (ziJ k ks).1;exact⟨h4,by rw[h3];rfl⟩
 ·next f cap=>
  injection h with h;simp only[zBC]at h;obtain⟨rfl,rfl,rfl⟩:=h;obtain⟨ds,rfl,h1⟩:=hr;obtain⟨h2,h3⟩:=zxi (ks:=ks) h1;exact⟨h2,.refl hS,fun g=>⟨ds,rfl,h3 g⟩⟩
 ·split at h<;>try contradiction
  split at h<;>try contradiction
  next x hx _ p1 hp=>injection h with h;simp only[zBC]at h;obtain⟨rfl,rfl,rfl⟩:=h;exact⟨.refl _ _,zrd hS hw hr hx hp,fun g=>zsc hS hr hx⟩
theorem Kp(hS:Sim ρ τ p st)(hw:Wf p){ks:List Nat}{ds:List PD}{es:List D}(hr:RPL (zy ρ τ p st) ds es){as:List PA}{ks':List Nat}{p':PSt}(h:Wl p ks ds=some (as,ks',p')) :
  Ks p.rows.length ks ks'/\Held ρ τ p st p' (frz st (refsL es)) /\ ∀ f,RAL (at0 ρ (ks'++f)) (ks'++f).length as (clL st.mem es):=by
 induction ds generalizing es as ks p st with
 | nil=>cases es with
  | nil=>simp only[Wl,zBB,zBC]at h;obtain⟨rfl,rfl,rfl⟩:=h;exact⟨.refl _ _,.refl hS,fun f=>trivial⟩
  | cons d s=>exact hr.elim
 | cons d r ih=>cases es with
  | nil=>exact hr.elim
  | cons e s=>
   simp only[Wl]at h;split at h<;>try contradiction
   next a ks1 p1 h1=>
    split at h<;>try contradiction
    next l ks2 p2 h2=>
     injection h with h;simp only[zBC]at h;obtain⟨rfl,rfl,rfl⟩:=h;obtain⟨h3,h4,h5⟩:=zx6 hS hw hr.1 h1;obtain⟨h6,h7,h8⟩:=ih h4.goes.sim (h4.goes.wf hw) (RPL.le h4.le hr.2) h2;rw[h4.len]at h6;refine⟨h3.trans h6,by simp only[refsL,zhr];exact h4.trans hw h7,fun f=>⟨?_,?_⟩⟩
     ·obtain⟨g,hg⟩:=h6.ext;rw[hg,zBN];exact h5 (g++f)
     ·have:=h8 f;rw[clL_row (fun k=>zsQ st e.refs k)]at this;exact this
theorem zrL{c:Cx}{rc:RowC}{o:Ob}(h:RW c rc o){n:Nat}{x:V}(k:zhW rc=some (n,x)):zqi n x o:=by
 unfold zhW at k;split at k<;>try contradiction
 ·split at k<;>try contradiction
  next hn=>injection k with k;simp only[zBC]at k;obtain⟨rfl,rfl⟩:=k;obtain⟨ds,rfl,h1,h2⟩:=h;exact⟨ds,rfl,h1,h2,fun e=>by subst e;contradiction⟩
 ·split at k<;>try contradiction
  next ps _ l hl=>
   injection k with k;simp only[zBC]at k;obtain⟨rfl,rfl⟩:=k;obtain⟨ds,rfl,h1,h2⟩:=h;have h3:=Jy h1 hl;have h4:=zbu h3 h2;have h5:=ziF h4;have h6:l.length=ps.length:=by rw[WI h1,XK h3]
   refine⟨ds,rfl,by rw[h5];exact h3,Vb (by rw[h5];exact h6) (by rw[h5];exact h4),fun e => ?_⟩
   match l,h4,h6 with
   | [x],h4,_=>simpa[Kj,yE]using h4
   | [],_,h6=>simp at h6;omega
   | _::_::_,_,h6=>simp at h6;omega
theorem ziY{rc:RowC}{n:Nat}{x:V}(k:zhW rc=some (n,x)):rc.isArr=false/\rc ≠ .dead:=by
 unfold zhW at k;split at k<;>try contradiction
 ·exact⟨rfl,by simp⟩
 ·exact⟨rfl,by simp⟩
theorem zsf{c:Cx}{n:Nat}{x:V}{o:Ob}(h:zqi n x o):RW c (zbY n x) o:=by
 obtain⟨cs,rfl,h1,h2,h3⟩:=h;unfold zbY;split
 ·next hn=>
  have hn:=zJ hn;have hx:=h3 hn;have hp:x.parts=[x]:=by cases x<;>first | rfl | simp[V.one]at hx
  rw[hp]at h1;refine⟨cs,rfl,?_,v8 h1 (by simp[yE,hx])⟩;have:=zsA (c:=c) h1;simpa using this
 ·exact⟨cs,rfl,h1,h2⟩
theorem Ku(n:Nat)(x:V):(zbY n x).isArr=false/\(zbY n x).hasOwn=false:=by unfold zbY;split<;>exact⟨rfl,rfl⟩
theorem zvM{ks:List Nat}{pars:List (Bool×Nat×V)}(h:zkP p ks=some pars):pars.length=ks.length /\ ∀ (j:Nat) (e:Bool×Nat×V),pars[j]?=some e -> ∃ k rw,ks[j]?=some k/\p.rows[k]?=some rw/\rw.ro=e.1/\zhW rw.c=some (e.2.1,e.2.2):=by
 induction ks generalizing pars with
 | nil=>simp only[zkP,zBB]at h;subst h;exact⟨rfl,fun j e h=>by simp at h⟩
 | cons k r ih=>
  simp only[zkP]at h;split at h<;>try contradiction
  split at h<;>try contradiction
  split at h<;>try contradiction
  next ro c hk _ n x hx _ l hl=>
   injection h with h;subst h;obtain⟨h1,h2⟩:=ih hl;refine⟨by simp[h1],fun j e hj => ?_⟩;cases j with
   | zero=>simp at hj;subst hj;exact⟨k,⟨ro,c⟩,by simp,hk,rfl,hx⟩
   | succ j=>simpa using h2 j e (by simpa using hj)
theorem zwx{ys:List V}{j:Nat}{ks:List Nat}(hn:ks.Nodup){K:PSt->Option ρ'}(h:zfs p ys j ks K=some r) :
  ∃ p',K p'=some r/\p'.tm=p.tm/\(p'.ni=p.ni/\p'.lim=p.lim)/\p'.rows.length=p.rows.length/\(∀ k,k ∉ ks->p'.rows[k]?=p.rows[k]?) /\
   ∀ (i k:Nat) (rw:Row),ks[i]?=some k->p.rows[k]?=some rw->(rw.ro=true->p'.rows[k]?=some rw)/\(rw.ro=false -> ∃ n x y,zhW rw.c=some (n,x)/\ys[j+i]?=some y/\p'.rows[k]?=some ⟨false,zbY n y⟩):=by
 induction ks generalizing p j with
 | nil=>exact⟨p,h,rfl,⟨rfl,rfl⟩,rfl,fun _ _=>rfl,fun i k rw h=>by simp at h⟩
 | cons k0 ks ih=>
  rw[List.nodup_cons]at hn;simp only[zfs]at h;split at h<;>try contradiction
  ·next c hk=>
   obtain⟨p',h1,h2,h3,h4,h5,h6⟩:=ih hn.2 h;refine⟨p',h1,h2,h3,h4,fun k hk'=>h5 k (fun hm=>hk' (zP _ hm)),fun i k rw hi hr => ?_⟩;cases i with
   | zero=>simp at hi;subst hi;rw[hk]at hr;injection hr with hr;subst hr;exact⟨fun _=>by rw[h5 k0 hn.1];exact hk,fun h=>by contradiction⟩
   | succ i=>have:=h6 i k rw (by simpa using hi) hr;rw[Nat.add_right_comm]at this;exact this
  ·next c hk=>
   split at h<;>try contradiction
   next n x hx=>
    rw[zA]at h;obtain⟨y,hy,h⟩:=h;obtain⟨p',h1,h2,h3,h4,h5,h6⟩:=ih hn.2 h;have hlen:(p.setR k0 (zbY n y)).rows.length=p.rows.length:=by simp[PSt.setR]
    have hself:(p.setR k0 (zbY n y)).rows[k0]?=some ⟨false,zbY n y⟩:=by simp[PSt.setR,zCd (getElem?_lt hk)]
    have hoth : ∀ k,k≠k0->(p.setR k0 (zbY n y)).rows[k]?=p.rows[k]?:=fun k hk=>by simp[PSt.setR,zCe (fun h=>hk h.symm)]
    refine⟨p',h1,h2,h3,by rw[h4,hlen],fun k hk' => ?_,fun i k rw hi hr => ?_⟩
    ·rw[h5 k (fun hm=>hk' (zP _ hm)),hoth k (fun e=>hk' (by rw[e];exact zBY))]
    ·cases i with
     | zero=>simp at hi;subst hi;rw[hk]at hr;injection hr with hr;subst hr;exact⟨fun h=>by contradiction,fun _=>⟨n,x,y,hx,hy,by rw[h5 k0 hn.1];exact hself⟩⟩
     | succ i=>
      have hi:ks[i]?=some k:=by simpa using hi
      have hne:k≠k0:=fun e=>by subst e;exact hn.1 (List.mem_of_getElem? hi)
      have:=h6 i k rw hi (by rw[hoth k hne];exact hr);rw[Nat.add_right_comm]at this;exact this
theorem zd7{rows:List Row}{k:Nat}{rw:Row}(h:rows[k]?=some rw)(ha:rw.c.isArr=false):yj rows k=none:=by obtain⟨ro,c⟩:=rw;unfold yj;rw[h];cases c<;>first | rfl | simp[RowC.isArr]at ha
theorem zrl{p p':PSt}{kz:Nat×Bool}(h:freeze p kz=some p'):p'.lim=p.lim:=by
 unfold freeze at h;split at h<;>try contradiction
 ·injection h with h;subst h;rfl
 ·split at h<;>(injection h with h;subst h;rfl)
 ·split at h<;>(injection h with h;subst h;rfl)
theorem zoa{p p':PSt}{l:List (Nat×Bool)}(h:wy p l=some p'):p'.lim=p.lim:=by
 induction l generalizing p with
 | nil=>simp only[wy,zBB]at h;rw[h]
 | cons k r ih=>
  simp only[wy]at h;split at h<;>try contradiction
  next p1 h1=>exact(ih h).trans (zrl h1)
theorem zd9{p:PSt}{ks:List Nat}{ds:List PD}{as:List PA}{ks':List Nat}{p':PSt}(h:Wl p ks ds=some (as,ks',p')):p'.lim=p.lim:=by
 induction ds generalizing as ks ks' p p' with
 | nil=>simp only[Wl,zBB,zBC]at h;rw[h.2.2]
 | cons d r ih=>
  simp only[Wl]at h;split at h<;>try contradiction
  next a ks1 p1 h1=>
   split at h<;>try contradiction
   next l ks2 p2 h2=>
    injection h with h;simp only[zBC]at h;rw[<- h.2.2];refine(ih h2).trans ?_;unfold zth at h1;split at h1
    ·injection h1 with h1;simp only[zBC]at h1;rw[h1.2.2]
    ·injection h1 with h1;simp only[zBC]at h1;rw[h1.2.2]
    ·split at h1<;>try contradiction
     split at h1<;>try contradiction
     next hp=>injection h1 with h1;simp only[zBC]at h1;obtain⟨_,_,rfl⟩:=h1;exact zoa hp
theorem zoh{E:Env}{pc:PcT}(hpc:PcN E pc)(hS:Sim ρ τ p st)(hw:Wf p){f:Nat}{ds:List PD}{es:List D}(hr:RPL (zy ρ τ p st) ds es){K:PD->PSt->Option ρ'}(h:XX pc f ds p K=some r) :
  ∃ d p',K d p'=some r /\ ∃ e st',zz E f es st=some (.ret e,st')/\RP (zy ρ τ p' st') d e/\Goes ρ τ p st ρ τ p' st'/\st'.tm=st.tm/\p'.tm=p.tm /\
   ((∀ (k:Nat) (rw:Row),p.rows[k]?=some rw->rw.ro=true)->p'.rows=p.rows/\p'.ni=p.ni/\st'.mem=st.mem/\st'.tip=st.tip/\st'.nx=st.nx)/\p'.lim=p.lim:=by
 unfold XX at h;split at h<;>try contradiction
 next as ks p1 h1=>
  split at h<;>try contradiction
  next pars h2=>
   rw[zA]at h;obtain⟨q,hq,h⟩:=h;obtain⟨h3,h4,h5⟩:=Kp hS hw hr h1;have hnd:=h3.nd List.nodup_nil;have hlt:=h3.lt (fun j hj=>by simp at hj);obtain⟨h6,h7⟩:=zvM h2;have hS1:=h4.goes.sim;have h8:=h5 [];rw[List.append_nil,<- h6]at h8;have hnx1:(frz st (refsL es)).nx=st.nx:=QN _ _;have hat : ∀ j k,ks[j]?=some k->at0 ρ ks j=ρ k:=fun j k hj=>by
    have:=(zqA (ρ:=ρ) (e:=[]) hj).1
    rwa [List.append_nil]at this
   obtain⟨st',h9,h10⟩:=hpc f as pars q hq (at0 ρ ks) st es h8 (fun j e hj=>by
     obtain⟨k,rw',hk1,hk2,hk3,hk4⟩:=h7 j e hj;rw[hat j k hk1];obtain⟨o,ho1,ho2⟩:=hS1.rows k rw' hk2;refine⟨hS.nx k (hlt k (List.mem_of_getElem? hk1)),o,?_,zrL ho2 hk4⟩;rcases ho1 with ho1 | ho1
     ·exact((ziY hk4).2 ho1).elim
     ·exact ho1) (fun i j hi hj hij=>by
     rw[h6]at hi hj;obtain⟨a,ha⟩:=YV hi;obtain⟨b,hb⟩:=YV hj;rw[hat i a ha,hat j b hb]at hij;have:=hS.inj a b (hlt a (List.mem_of_getElem? ha)) (hlt b (List.mem_of_getElem? hb)) hij;subst this;exact(List.getElem?_inj hi hnd).1 (ha.trans hb.symm))
   obtain⟨p',h11,h12,⟨h13,h13'⟩,h14,h15,h16⟩:=zwx hnd h
   -- what is behind the call
   have hmem : ∀ b,b<st.nx->(∀ (k:Nat) (rw:Row),k∈ks->p1.rows[k]?=some rw->ρ k=b->rw.ro=true)->st'.mem b=(frz st (refsL es)).mem b:=by intro b hb hk;refine h10.mem b hb (fun j e hj hjb => ?_);obtain⟨k,rw',hk1,hk2,hk3,hk4⟩:=h7 j e hj;rw[hat j k hk1]at hjb;rw[<- hk3];exact hk k rw' (List.mem_of_getElem? hk1) hk2 hjb
   have hkidx : ∀ k,k∈ks -> ∃ (j:Nat) (e:Bool×Nat×V),ks[j]?=some k/\pars[j]?=some e:=by
    intro k hk;obtain⟨j,hj⟩:=List.getElem?_of_mem hk;have:j<pars.length:=by rw[h6];exact getElem?_lt hj
    exact⟨j,pars[j],hj,zL this⟩
   have hrow : ∀ (k:Nat) (rw':Row),p'.rows[k]?=some rw'->(∃ rw,p1.rows[k]?=some rw/\rw=rw'/\(k∈ks->rw.ro=true)) \/
     ∃ (j n:Nat) (x y:V) (o:Ob) (rw:Row),ks[j]?=some k/\p1.rows[k]?=some rw/\rw.ro=false/\zhW rw.c=some (n,x)/\rw'=⟨false,zbY n y⟩/\st'.mem (ρ k)=some o/\zqi n y o:=by
    intro k rw' hk;by_cases hm:k∈ks
    ·obtain⟨j,e,hj,hje⟩:=hkidx k hm;obtain⟨k',rw,hk1,hk2,hk3,hk4⟩:=h7 j e hje;rw[hj]at hk1;injection hk1 with hk1;subst hk1;obtain⟨h17,h18⟩:=h16 j k rw hj hk2;cases hro:rw.ro with
     | true=>left;rw[h17 hro]at hk;injection hk with hk;exact⟨rw,hk2,hk,fun _=>hro⟩
     | false=>right;obtain⟨n,x,y,h19,h20,h21⟩:=h18 hro;obtain⟨y',o,h22,h23,h24⟩:=h10.par j e hje;rw[zBE]at h20;rw[h20]at h22;injection h22 with h22;subst h22;rw[hk4]at h19;simp only[zBB,zBC]at h19;rw[h21]at hk;injection hk with hk;refine⟨j,n,x,y,o,rw,hj,hk2,hro,by rw[hk4,<- h19.1,<- h19.2],hk.symm,by rw[<- hat j k hj];exact h23,by rw[<- h19.1];exact h24⟩
    ·left;rw[h15 k hm]at hk;exact⟨rw',hk,rfl,fun h=>(hm h).elim⟩
   have hrk : ∀ k,yj p'.rows k=yj p1.rows k:=by
    intro k;cases hk:p'.rows[k]? with
    | none=>
     have:p1.rows[k]?=none:=by rw[List.getElem?_eq_none_iff]at hk ⊢;omega
     simp only[yj,hk,this]
    | some rw'=>
     rcases hrow k rw' hk with⟨rw,h17,rfl,_⟩ | ⟨j,n,x,y,o,rw,_,h18,_,h19,rfl,_,_⟩
     ·simp only[yj,hk,h17]
     ·rw[zd7 hk (Ku n y).1,zd7 h18 (ziY h19).1]
   have htip : ∀ l,l<st.nx->st'.tip l=st.tip l:=h10.tip;have htip1:(frz st (refsL es)).tip=st.tip:=by
    have : ∀ (l:List Nat) (s:St),(frz s l).tip=s.tip:=by
     intro l;induction l with
     | nil=>intro s;rfl
     | cons k r ih=>intro s;simp only[frz];split<;>rw[ih];rfl
    exact this _ _
   have hle:Le (zy ρ τ p1 (frz st (refsL es))) (zy ρ τ p' st'):=
    ⟨fun _ _=>rfl,by simp[zy,h14],fun k _ => .inl (hrk k),fun i l hi=>⟨hi,by have hi:τ i=some l:=hi;show st'.tip l=(frz st (refsL es)).tip l;rw[htip l (hS.lin i l hi).2,htip1]⟩,by simp[zy,h13]⟩
   have hgo:Goes ρ τ p1 (frz st (refsL es)) ρ τ p' st':=by
    refine⟨⟨fun t f d ht => ?_,fun k hk => ?_,fun k rw' hk => ?_,fun a b ha hb => ?_,fun i l h => ?_,hS1.linj⟩,by rw[hnx1];exact h10.nx,?_,by omega,fun _ _=>rfl,fun k hk1 hk2=>by omega,fun i l h => .inl ⟨i,h⟩,fun hw=>⟨fun t d ht=>hw.1 t d (by rw[<- h12];exact ht),fun k rw' hk hro => ?_⟩,fun hw k rw hk hro => ?_,fun k rw' hkl hk hro => ?_,fun k _ => .inl (hrk k),fun b hb hb2 => ?_,fun l hl _ => ?_,fun m hm1 hm2 hm3 _ => ?_,fun _ t d ht=>⟨by rw[<- h12];exact ht,by rw[h10.tm,W9]⟩⟩
    ·rw[h12]at ht;obtain⟨e,he1,he2⟩:=hS1.tm t f d ht;exact⟨e,by rw[h10.tm];rw[W9]at he1;exact he1,RP.le hle he2⟩
    ·exact zK (hS.nx k (by have:=h4.len;omega)) h10.nx
    ·rcases hrow k rw' hk with⟨rw,h17,rfl,h18⟩ | ⟨j,n,x,y,o,rw,_,_,_,_,rfl,h19,h20⟩
     ·obtain⟨o,ho1,ho2⟩:=hS1.rows k rw h17;refine⟨o,?_,RW.le hle ho2⟩;rcases ho1 with ho1 | ho1
      ·exact .inl ho1
      ·right;have hkl:k<p.rows.length:=by rw[<- h4.len];exact getElem?_lt h17
       rw[hmem (ρ k) (hS.nx k hkl) ?_]
       ·exact ho1
       ·intro k2 rw2 hk2 hr2 he;have:=hS.inj k2 k (hlt k2 hk2) hkl he;subst this;rw[h17]at hr2;injection hr2 with hr2;subst hr2;exact h18 hk2
     ·exact⟨o,.inr h19,zsf h20⟩
    ·rw[h14]at ha hb;exact hS1.inj a b ha hb
    ·obtain⟨h17,h18⟩:=hS1.lin i l h;rw[hnx1]at h18;exact⟨by rw[h13];exact h17,zK h18 h10.nx⟩
    ·rw[h10.lo];exact(h4.goes.lo).symm
    ·rcases hrow k rw' hk with⟨rw,h17,rfl,_⟩ | ⟨j,n,x,y,o,rw,_,_,_,_,rfl,_,_⟩
     ·exact hw.2 k rw h17 hro
     ·exact(Ku n y).2
    ·by_cases hm:k∈ks
     ·obtain⟨j,e,hj,hje⟩:=hkidx k hm;exact(h16 j k rw hj hk).1 hro
     ·rw[h15 k hm];exact hk
    ·rcases hrow k rw' hk with⟨rw,h17,rfl,_⟩ | ⟨j,n,x,y,o,rw,_,_,_,_,rfl,_,_⟩
     ·exact⟨rw,h17,hro⟩
     ·contradiction
    ·rw[hnx1]at hb;exact hmem b hb (fun k rw _ hk he=>hb2 k rw hk he)
    ·rw[hnx1]at hl;rw[htip l hl,htip1]
    ·rw[hnx1]at hm2;refine h10.lw m hm1 hm2 (fun j e hj hje => ?_);obtain⟨k,rw',hk1,hk2,hk3,hk4⟩:=h7 j e hj;rw[hat j k hk1];exact hm3 k rw' hk2 (.inl (by rw[hk3];exact hje))
   refine⟨_,p',h11,_,st',h9,W3 q.1,h4.goes.trans hw hgo,h10.tm,by rw[h12,h4.tm],fun hall => ?_,h13'.trans (zd9 h1)⟩
   -- nothing turns where all rows are held
   have hall1 : ∀ (k:Nat) (rw:Row),p1.rows[k]?=some rw->rw.ro=true:=by
    intro k rw hk;have hk':k<p.rows.length:=by rw[<- h4.len];exact getElem?_lt hk
    obtain⟨r0,hr0⟩:=YV hk';have hro:=hall k r0 hr0;have:=h4.goes.ro hw k r0 hr0 hro;rw[hk]at this;injection this with this;subst this;exact hro
   have hst:st'=frz st (refsL es):=h10.still (fun j e hj=>by obtain⟨k,rw',hk1,hk2,hk3,hk4⟩:=h7 j e hj;rw[<- hk3];exact hall1 k rw' hk2);have hrows1:p1.rows=p.rows:=by
    apply List.ext_getElem?;intro k;cases hk:p.rows[k]? with
    | none=>rw[List.getElem?_eq_none_iff]at hk ⊢;have:=h4.len;omega
    | some r0=>exact h4.goes.ro hw k r0 hk (hall k r0 hk)
   have hrows2:p'.rows=p1.rows:=by
    apply List.ext_getElem?;intro k;cases hk:p1.rows[k]? with
    | none=>rw[List.getElem?_eq_none_iff]at hk ⊢;omega
    | some r0=>exact hgo.ro (h4.goes.wf hw) k r0 hk (hall1 k r0 hk)
   have hm:(frz st (refsL es)).mem=st.mem:=by
    funext b;rcases zBD b st.nx with hb | hb
    ·exact h4.goes.mem b hb (fun k rw hk _=>hall k rw hk)
    ·exact h4.big b hb
   rw[hst];exact⟨by rw[hrows2,hrows1],by rw[h13,h4.ni],hm,htip1,hnx1⟩
theorem zoN(hS:Sim ρ τ p st){id:Nat}{st':St}(htm:st'.tm=st.tm)(hmem : ∀ b,b<st.nx->st'.mem b=st.mem b)(hlo:st'.lo=st.lo)(hnx:st.nx<=st'.nx)
  (htip : ∀ j,j<st.nx->τ id≠some j->st'.tip j=st.tip j) (hlw : ∀ m,m<=st.lw->m<=st.nx->(∀ l,τ id=some l->m<=l)->m<=st'.lw):Goes ρ τ p st ρ τ (p.strip id) st':=by
 have hlen:(p.strip id).rows.length=p.rows.length:=zjf id p.rows;have hrof : ∀ (j:Nat) (r':Row),j<p.rows.length->(p.strip id).rows[j]?=some r'->r'.ro=true -> ∃ r:Row,p.rows[j]?=some r/\r.ro=true:=by intro j r' _ hj hr;simp only[PSt.strip,qq,zB]at hj;obtain⟨r0,h1,rfl⟩:=hj;exact⟨r0,h1,hr⟩
 have hle:LeS id (zy ρ τ p st) (zy ρ τ (p.strip id) st'):=
  ⟨fun _ _=>rfl,by simp[zy,hlen],fun k _ => .inl (zcz id p.rows k),fun i j hi hj=>⟨hj,htip j (hS.lin i j hj).2 (fun e=>hi (hS.linj i id j hj e))⟩,zR _⟩
 refine⟨⟨fun t f d ht => ?_,fun j hj => ?_,fun j r hj => ?_,fun a b ha hb h => ?_,fun i j h => ?_,hS.linj⟩,hnx,hlo,by omega,fun _ _=>rfl,fun j h1 h2=>by omega,fun i j h => .inl ⟨i,h⟩,fun hw=>⟨fun t d ht => ?_,fun j r hj hr => ?_⟩,fun hw j r hj hr => ?_,hrof,fun j _ => .inl (zcz id p.rows j),fun b hb hr=>hmem b hb,fun j hj hn=>htip j hj (hn id),fun m h1 h2 h3 h4=>hlw m h1 h2 (fun l h=>h4 id l h),fun hw t d ht => ?_⟩
 ·simp only[PSt.strip,Z3,zB]at ht;obtain⟨⟨f',d'⟩,h1,h2⟩:=ht;simp only[zBC]at h2;obtain⟨rfl,rfl⟩:=h2;obtain⟨e,h3,h4⟩:=hS.tm t f' d' h1;exact⟨e,by rw[htm];exact h3,RP.leS hle h4⟩
 ·rw[hlen]at hj;exact zK (hS.nx j hj) hnx
 ·have hjl:j<p.rows.length:=by rw[<- hlen];exact getElem?_lt hj
  simp only[PSt.strip,qq,zB]at hj;obtain⟨r',h1,rfl⟩:=hj;obtain⟨o,h2,h3⟩:=hS.rows j r' h1;refine⟨o,?_,RW.leS hle h3⟩;rcases h2 with h2 | h2
  ·left;simp only[h2,RowC.strip]
  ·right;rw[hmem _ (hS.nx j hjl)];exact h2
 ·rw[hlen]at ha hb;exact hS.inj a b ha hb h
 ·obtain⟨h1,h2⟩:=hS.lin i j h;exact⟨h1,zK h2 hnx⟩
 ·simp only[PSt.strip,Z3,zB]at ht;obtain⟨⟨f',d'⟩,h1,h2⟩:=ht;simp only[zBC]at h2;obtain⟨rfl,rfl⟩:=h2;rw[PD.strip_noOwn (hw.1 t d' h1)];exact hw.1 t d' h1
 ·simp only[PSt.strip,qq,zB]at hj;obtain⟨r',h1,rfl⟩:=hj;have:=hw.2 j r' h1 hr;simp only;rw[RowC.strip_noOwn this];exact this
 ·simp only[PSt.strip,qq,hj,zC,RowC.strip_noOwn (hw.2 j r hj hr)]
 ·simp only[PSt.strip,Z3,zB]at ht;obtain⟨⟨f',d'⟩,h1,h2⟩:=ht;simp only[zBC]at h2;obtain⟨rfl,rfl⟩:=h2;rw[PD.strip_noOwn (hw.1 t d' h1)];exact⟨h1,by rw[htm]⟩
theorem zyy(hS:Sim ρ τ p st):Goes ρ τ p st ρ τ { p with ni:=p.ni+1 } st:=by
 have hle:Le (zy ρ τ p st) (zy ρ τ { p with ni:=p.ni+1 } st):=⟨fun _ _=>rfl,zR _,fun k _ => .inl rfl,fun i j h=>⟨h,rfl⟩,Nat.le_succ _⟩
 refine⟨⟨fun t f d ht => ?_,hS.nx,fun j r hj => ?_,hS.inj,fun i j h => ?_,hS.linj⟩,zR _,rfl,zR _,fun _ _=>rfl,fun j h1 h2=>absurd h2 (Nat.not_lt.2 h1),fun i j h => .inl ⟨i,h⟩,fun hw=>hw,fun _ _ _ h _=>h,fun _ r' _ h hr=>⟨r',h,hr⟩,fun _ _ => .inl rfl,fun b _ _=>rfl,fun j hj _=>rfl,fun m h1 _ _ _=>h1,fun _ t d h=>⟨h,rfl⟩⟩
 ·obtain⟨e,h1,h2⟩:=hS.tm t f d ht;exact⟨e,h1,RP.le hle h2⟩
 ·obtain⟨o,h1,h2⟩:=hS.rows j r hj;exact⟨o,h1,RW.le hle h2⟩
 ·obtain⟨h1,h2⟩:=hS.lin i j h;exact⟨Nat.lt_succ_of_lt h1,h2⟩
theorem zoK{E:Env}{pc:PcT}(hS:Sim ρ τ p st)(hw:Wf p){f sz:Nat}{ds:List PD}{es:List D}(hpc:zu4 E pc f sz es)(hr:RPL (zy ρ τ p st) ds es){K:PD->PSt->Option ρ'}(h:J1 pc sz f ds p K=some r) :
  ∃ d p',K d p'=some r /\ ∃ e st' τ1,zz E f es st=some (.ret e,st')/\RP (zy ρ τ1 p' st') d e/\Goes ρ τ p st ρ τ1 p' st'/\st'.tm=st.tm /\ ∀ x0,jq x0 τ p st->Soft x0 τ p st τ1 p' st':=by
 unfold J1 at h;split at h<;>try contradiction
 next as p1 h1=>
  rw[zA]at h;obtain⟨q,hq,h⟩:=h;rw[zA]at h;obtain⟨xs,hxs,h⟩:=h;obtain⟨h3,h4,h5⟩:=Kp hS hw hr h1;have h6:=h5 [];obtain⟨ys,cs,hq1,hcs,hsz,g,st',hcall,hg⟩:=hpc as q hq _ st h6;have hxy:xs=ys:=by rw[hq1]at hxs;simp only[slV,zBB]at hxs;exact hxs.symm
  subst hxy;have hm:zoS p->p1.rows=p.rows/\(frz st (refsL es)).mem=st.mem:=by
   intro ha;refine⟨?_,?_⟩
   ·apply List.ext_getElem?;intro k;cases hk:p.rows[k]? with
    | none=>rw[List.getElem?_eq_none_iff]at hk ⊢;have:=h4.len;omega
    | some r0=>exact h4.goes.ro hw k r0 hk (ha k r0 hk)
   ·funext b;rcases zBD b st.nx with hb | hb
    ·exact h4.goes.mem b hb (fun k rw hk _=>ha k rw hk)
    ·exact h4.big b hb
  have hnx:(frz st (refsL es)).nx=st.nx:=QN _ _;have htp:(frz st (refsL es)).tip=st.tip:=by
   have : ∀ (l:List Nat) (s:St),(frz s l).tip=s.tip:=by
    intro l;induction l with
    | nil=>intro s;rfl
    | cons k r ih=>intro s;simp only[frz];split<;>rw[ih];rfl
   exact this _ _
  have hlm:p1.lim=p.lim:=zd9 h1;rcases hg with⟨rfl,rfl⟩ | ⟨rfl,rfl⟩
  ·exact⟨_,_,h,_,_,τ,hcall,⟨_,_,rfl,hcs,hsz,zCf _,.inl rfl⟩,h4.goes.trans hw (zyy h4.goes.sim),W9 _ _,fun x0 hi=>⟨(hm hi.ro).1,hlm,by show p.ni<=p1.ni+1;rw[h4.ni];omega,(hm hi.ro).2,fun _ _=>rfl,hi.hi,fun l _=>by rw[htp]⟩⟩
  ·refine⟨_,_,h,_,_,fun i=>if i=p1.ni then some (frz st (refsL es)).nx else τ i,hcall,⟨_,_,rfl,hcs,hsz,zCf _,.inr ⟨_,rfl,?_,?_⟩⟩,h4.goes.trans hw (zi0 h4.goes.sim rfl rfl rfl (Nat.le_succ _) (zCf _) (zR _) (fun j hj => ?_) rfl),W9 _ _,fun x0 hi=>⟨(hm hi.ro).1,hlm,by show p.ni<=p1.ni+1;rw[h4.ni];omega,(hm hi.ro).2,fun i h => ?_,fun i l h1 h2 => ?_,fun l hl => ?_⟩⟩
   ·show(if p1.ni=p1.ni then some (frz st (refsL es)).nx else τ p1.ni)=_;rw[zBu rfl]
   ·show upd _ _ _ _=_;unfold upd;rw[zBu rfl]
   ·show upd _ _ _ j=_;unfold upd;rw[zBt hj]
   ·have:=hi.lim;have:=h4.ni;show(if i=p1.ni then _ else _)=_;rw[zBt (by omega)]
   ·have h2:(if i=p1.ni then some (frz st (refsL es)).nx else τ i)=some l:=h2;split at h2
    ·injection h2 with h2;have:=hi.nx;omega
    ·exact hi.hi i l h1 h2
   ·have:=hi.nx;show upd (frz st (refsL es)).tip (frz st (refsL es)).nx _ l=_;unfold upd;rw[zBt (by omega),htp]
theorem zpJ{c:Cx}{ds:List PD}{es:List D}(hr:RPL c ds es){xs:List V}(h:zk6 ds=some xs):cl0L es=toDL xs:=by
 induction ds generalizing es xs with
 | nil=>cases es with
  | nil=>simp[zk6]at h;subst h;rfl
  | cons _ _=>exact hr.elim
 | cons d s ih=>cases es with
  | nil=>exact hr.elim
  | cons e t=>
   simp only[zk6]at h;split at h<;>try contradiction
   split at h<;>try contradiction
   next x hx _ l hl=>injection h with h;subst h;simp only[cl0L,toDL,PD.pure_ok hr.1 hx,ih hr.2 hl]
theorem zwZ{E:Env}{md:Nat->Md}{pc:PcT}(hpc:PcW E md pc)(hS:Sim ρ τ p st){f sz:Nat}(hf:md f = .raw sz){ds:List PD}{es:List D}(hr:RPL (zy ρ τ p st) ds es){K:PD->PSt->Option ρ'}(h:zh1 pc sz f ds p K=some r) :
  ∃ d p',K d p'=some r /\ ∃ e st',zz E f es st=some (.ret e,st')/\RP (zy ρ τ p' st') d e/\Goes ρ τ p st ρ τ p' st'/\st'.tm=st.tm:=by
 unfold zh1 at h;split at h<;>try contradiction
 ·next id sz' ys rest=>
  split at h<;>try contradiction
  next hsz=>
   have hsz:=zJ hsz;subst hsz;split at h<;>try contradiction
   next xs hxs=>
    rw[zA]at h;obtain⟨q,hq,h⟩:=h;cases es with
    | nil=>exact hr.elim
    | cons e es=>
     obtain⟨⟨g,cs,rfl,hcs,hz,hid,hg⟩,hr2⟩:=hr;have hvs:=zpJ hr2 hxs;have htip:zw5 sz ys.length st g:=by
      rcases hg with hg | ⟨l,hg,hτ,ht⟩
      ·exact .inl hg
      ·exact .inr ⟨l,hg,(hS.lin id l hτ).2,ht⟩
     obtain⟨d,st',hc,hd,hgo⟩:=hpc f sz ys xs q hf hq st g cs es hcs hz htip hvs;have hgl : ∀ l,g = .ln l sz->τ id=some l:=by
      intro l e;rcases hg with hg | ⟨l',hg,hτ,_⟩
      ·rw[hg]at e;contradiction
      ·rw[hg]at e;injection e with e;subst e;exact hτ
     refine⟨_,_,h,d,st',hc,hd,zoN hS hgo.tm hgo.mem hgo.lo hgo.nx (fun j hj hne=>hgo.tip j hj (fun e=>hne (hgl j e))) (fun m h1 h2 h3=>hgo.lw m h1 h2 (fun l e=>h3 l (hgl l e))),hgo.tm⟩
 ·next ys rest=>
  split at h<;>try contradiction
  next xs hxs=>
   obtain⟨hz,h⟩:=yq h;rw[zA]at h;obtain⟨q,hq,h⟩:=h;cases es with
   | nil=>exact hr.elim
   | cons e es=>obtain⟨⟨cs,rfl,hcs⟩,hr2⟩:=hr;have hvs:=zpJ hr2 hxs;obtain⟨d,st',hc,hd,hgo⟩:=hpc f sz ys xs q hf hq st .full cs es hcs hz (.inl rfl) hvs;refine⟨_,_,h,d,st',hc,hd,zoN hS hgo.tm hgo.mem hgo.lo hgo.nx (fun j hj _=>hgo.tip j hj (by simp)) (fun m h1 h2 _=>hgo.lw m h1 h2 (fun l e=>by simp at e)),hgo.tm⟩
theorem zo9(hS:Sim ρ τ p st)(hw:Wf p){ds:List PD}{es:List D}(hr:RPL (zy ρ τ p st) ds es){as:List PA}{p1:PSt}(h1:Wl p [] ds=some (as,[],p1)):zoS p->p1.rows=p.rows/\(frz st (refsL es)).mem=st.mem:=by
 intro ha;obtain⟨h3,h4,h5⟩:=Kp hS hw hr h1;refine⟨?_,?_⟩
 ·apply List.ext_getElem?;intro k;cases hk:p.rows[k]? with
  | none=>rw[List.getElem?_eq_none_iff]at hk ⊢;have:=h4.len;omega
  | some r0=>exact h4.goes.ro hw k r0 hk (ha k r0 hk)
 ·funext b;rcases zBD b st.nx with hb | hb
  ·exact h4.goes.mem b hb (fun k rw hk _=>ha k rw hk)
  ·exact h4.big b hb
theorem zrR{c:Cx}{d:PD}{e:D}(hr:RP c d e){k:Option ρ'}(h:zf4 d k=some r):YM e=true/\k=some r:=by
 unfold zf4 at h;split at h<;>try contradiction
 ·obtain⟨cs,rfl,_⟩:=hr;exact⟨rfl,h⟩
 ·obtain⟨h1,h⟩:=yq h;refine⟨?_,h⟩;obtain⟨_,_,hdd,_⟩:=hr;rcases hdd with⟨rfl,_⟩ | ⟨_,rfl,_⟩
  ·exact h1
  ·rfl
theorem zvv{E:Env}{md:Nat->Md}{pc:PcT}(hpc:PcF E md pc)(hS:Sim ρ τ p st)(hw:Wf p){f:Nat}(hf:md f = .ful){ds:List PD}{es:List D}(hr:RPL (zy ρ τ p st) ds es){K:PD->PSt->Option ρ'}(h:zhK pc f ds p K=some r) :
  ∃ d p',K d p'=some r /\ ∃ e st',zz E f es st=some (.ret e,st')/\RP (zy ρ τ p' st') d e/\Goes ρ τ p st ρ τ p' st'/\st'.tm=st.tm /\ ∀ x0,jq x0 τ p st->Soft x0 τ p st τ p' st':=by
 unfold zhK at h;split at h<;>try contradiction
 next d ds=>
  cases es with
  | nil=>exact hr.elim
  | cons e es=>
   obtain⟨hrm,h⟩:=zrR hr.1 h;split at h<;>try contradiction
   next as p1 h1=>
    rw[zA]at h;obtain⟨q,hq,h⟩:=h;obtain⟨h3,h4,h5⟩:=Kp hS hw hr h1;have h6:=h5 [];have hcall:=hpc f as q hf hq _ st e es hrm h6;have hm:=zo9 hS hw hr h1;have htp:(frz st (refsL (e::es))).tip=st.tip:=by
     have : ∀ (l:List Nat) (s:St),(frz s l).tip=s.tip:=by
      intro l;induction l with
      | nil=>intro s;rfl
      | cons k r ih=>intro s;simp only[frz];split<;>rw[ih];rfl
     exact this _ _
    have hlm:p1.lim=p.lim:=zd9 h1;exact⟨_,_,h,_,_,hcall,Qd _,h4.goes,W9 _ _,fun x0 hi=>⟨(hm hi.ro).1,hlm,by rw[h4.ni];exact zR _,(hm hi.ro).2,fun _ _=>rfl,hi.hi,fun l _=>by rw[htp]⟩⟩
theorem zgL{τ:Nat->Option Nat}{p p':PSt}{st st':St}(h7:(∀ (k:Nat) (rw:Row),p.rows[k]?=some rw->rw.ro=true)->p'.rows=p.rows/\p'.ni=p.ni/\st'.mem=st.mem/\st'.tip=st.tip/\st'.nx=st.nx)(h8:p'.lim=p.lim){x0:Nat}(hi:jq x0 τ p st):Soft x0 τ p st τ p' st':=by obtain⟨a,b,c,d,e⟩:=h7 hi.ro;exact⟨a,h8,by rw[b];exact zR _,c,fun _ _=>rfl,hi.hi,fun l _=>by rw[d]⟩
theorem zus{x:V}{c:UInt8}(h:asByte x=some c) : ∃ n,x = .int .u8 n/\0<=n/\n<256/\c=UInt8.ofNat n.toNat:=by
 unfold asByte at h;split at h<;>try contradiction
 next n=>
  split at h<;>try contradiction
  next hn=>injection h with h;exact⟨n,rfl,hn.1,hn.2,h.symm⟩
theorem zx5{d:D}{k:IntKind}{n:Int}(h:d.cl0=(V.int k n).toD):d = .int k n:=by cases d<;>simp[D.cl0,V.toD]at h;obtain⟨rfl,rfl⟩:=h;rfl
theorem zxP{E:Env}{f:Nat}{ef:Eff}(hx:E.ext f=some (.eff ef))(hS:Sim ρ τ p st){ds:List PD}{es:List D}(hr:RPL (zy ρ τ p st) ds es){K:PD->PSt->Option ρ'}(h:zo7 ef ds p K=some r) :
  ∃ d p',K d p'=some r /\ ∃ e st',zz E f es st=some (.ret e,st')/\RP (zy ρ τ p' st') d e/\Goes ρ τ p st ρ τ p' st'/\st'.tm=st.tm /\
   ∀ x0,jq x0 τ p st->Soft x0 τ p st τ p' st':=by
 have two : ∀ {k:Nat} {x:V},ds=[.s (.ptr k 0),.s (.v x)] -> ∃ d2,es=[.ptr (ρ k) 0,d2]/\d2.cl0=x.toD:=by
  intro k x hd;subst hd
  match es,hr with
  | [d1,d2],⟨h1,h2,_⟩=>exact⟨d2,by rw[h1.2];rfl,h2⟩
  | [_],⟨_,h2⟩=>exact h2.elim
  | _::_::_::_,⟨_,_,h3⟩=>exact h3.elim
 have hard : ∀ {k:Nat} {c:RowC} {p':PSt} {st':St},p.rows[k]?=some ⟨false,c⟩ -> ∀ x0,jq x0 τ p st->Soft x0 τ p st τ p' st':=by intro k c p' st' hk x0 hi;have:=hi.ro k _ hk;simp at this
 cases ef with
 | ws t e=>
  simp only[zo7]at h;split at h<;>try contradiction
  next k x=>
   obtain⟨d2,rfl,h2⟩:=two rfl;split at h<;>try contradiction
   next t' e' s hw=>
    split at h<;>try contradiction
    next hc=>
     simp only[zG]at hc;have h3:=zJ hc.1;subst h3;have h4:=zJ hc.2;subst h4;rw[zA]at h;obtain⟨u,hu,h⟩:=h;obtain⟨hlen,h⟩:=yq h;have hlen:=of_decide_eq_true hlen;have:=ziB hu h2;subst this;have hr':=j1 hw;obtain⟨o,ho,rfl⟩:=hS.rows k _ hr';rcases ho with ho | ho
     ·contradiction
     have hgo:=ZZ hS (c' := .bld t' e' (s++u)) (o := .bld t' e' (s++u)) hr' (KX hr' (by simp) (by simp)) rfl;refine⟨_,_,h,.tup [.int .i64 (u.length:Nat),.nili],_,?_,rfl,hgo,rfl,hard hr'⟩;rw[zdG hx];simp only[effD,ho];rw[zBu ⟨trivial,trivial,hlen⟩];rfl
 | wb t e=>
  simp only[zo7]at h;split at h<;>try contradiction
  next k x=>
   obtain⟨d2,rfl,h2⟩:=two rfl;split at h<;>try contradiction
   next t' e' s hw=>
    split at h<;>try contradiction
    next hc=>
     simp only[zG]at hc;have h3:=zJ hc.1;subst h3;have h4:=zJ hc.2;subst h4;rw[zA]at h;obtain⟨u,hu,h⟩:=h;obtain⟨hlen,h⟩:=yq h;have hlen:=of_decide_eq_true hlen;obtain⟨n,rfl,hn0,hn1,rfl⟩:=zus hu;have:=zx5 h2;subst this;have hr':=j1 hw;obtain⟨o,ho,rfl⟩:=hS.rows k _ hr';rcases ho with ho | ho
     ·contradiction
     have hgo:=ZZ hS (c' := .bld t' e' (s++[UInt8.ofNat n.toNat])) (o := .bld t' e' (s++[UInt8.ofNat n.toNat])) hr' (KX hr' (by simp) (by simp)) rfl;refine⟨_,_,h,.nili,_,?_,rfl,hgo,rfl,hard hr'⟩;rw[zdG hx];simp only[effD,ho];rw[zBu ⟨trivial,trivial,hlen,hn0,hn1⟩];rfl
 | bs t e=>
  simp only[zo7]at h;split at h<;>try contradiction
  next k=>
   obtain⟨rfl⟩:es=[.ptr (ρ k) 0]:=by
    match es,hr with
    | [d1],⟨h1,_⟩=>rw[h1.2];rfl
    | _::_::_,⟨_,h2⟩=>exact h2.elim
   split at h<;>try contradiction
   next t' e' s hw=>
    split at h<;>try contradiction
    next hc=>
     simp only[zG]at hc;have h3:=zJ hc.1;subst h3;have h4:=zJ hc.2;subst h4;have hr':=j1 hw;obtain⟨o,ho,rfl⟩:=hS.rows k _ hr';rcases ho with ho | ho
     ·contradiction
     have hgo:=ztM hS hr' (KX hr' (by simp) (by simp));refine⟨_,_,h,.str s,_,?_,rfl,hgo,rfl,hard hr'⟩;rw[zdG hx];simp only[effD,ho];rw[zBu ⟨trivial,trivial⟩];rfl
theorem zwK{E:Env}{md:Nat->Md}{pc:PcT}(hpc:zbt E md pc)(hS:Sim ρ τ p st)(hw:Wf p){f:Nat}{ds:List PD}{es:List D}(hr:RPL (zy ρ τ p st) ds es){K:PD->PSt->Option ρ'}(h:YF md pc f ds p K=some r) :
  ∃ d p',K d p'=some r /\ ∃ e st' τ1,zz E f es st=some (.ret e,st')/\RP (zy ρ τ1 p' st') d e/\Goes ρ τ p st ρ τ1 p' st'/\st'.tm=st.tm /\
   ((∀ sz,md f ≠ .raw sz) -> ∀ x0,jq x0 τ p st->Soft x0 τ p st τ1 p' st'):=by
 unfold YF at h;split at h
 ·next hf=>
  obtain⟨d,p',h1,e,st',h2,h3,h4,h5,h6,h7,h8⟩:=zoh hpc.n hS hw hr h;exact⟨d,p',h1,e,st',τ,h2,h3,h4,h5,fun _ x0 ha=>zgL h7 h8 ha⟩
 ·next sz hf=>
  obtain⟨d,p',h1,e,st',τ1,h2,h3,h4,h5,h6⟩:=zoK hS hw (hpc.g f sz es hf) hr h;exact⟨d,p',h1,e,st',τ1,h2,h3,h4,h5,fun _=>h6⟩
 ·next sz hf=>
  obtain⟨d,p',h1,e,st',h2,h3,h4,h5⟩:=zwZ hpc.w hS hf hr h;exact⟨d,p',h1,e,st',τ,h2,h3,h4,h5,fun hm=>(hm sz hf).elim⟩
 ·next hf=>
  obtain⟨d,p',h1,e,st',h2,h3,h4,h5,h6⟩:=zvv hpc.f hS hw hf hr h;exact⟨d,p',h1,e,st',τ,h2,h3,h4,h5,fun _=>h6⟩
 ·next sz hf=>
  split at h<;>try contradiction
  next d0 r0=>
   cases es with
   | nil=>exact hr.elim
   | cons e0 es=>obtain⟨hrm,h⟩:=zrR hr.1 h;obtain⟨d,p',h1,e,st',τ1,h2,h3,h4,h5,h6⟩:=zoK hS hw (hpc.h f sz e0 es hf hrm) hr h;exact⟨d,p',h1,e,st',τ1,h2,h3,h4,h5,fun _=>h6⟩
 ·next ef hf=>
  obtain⟨d,p',h1,e,st',h2,h3,h4,h5,h6⟩:=zxP (hpc.e f ef hf) hS hr h;exact⟨d,p',h1,e,st',τ,h2,h3,h4,h5,fun _=>h6⟩
end
end
section
section
variable {ρ:Nat->Nat} {τ:Nat->Option Nat} {p:PSt} {st:St} {ρ':Type} {r:ρ'}
theorem zmq{E:Env}{cf:Cf}{st:St}{o:O}(h1 : ∀ f xs,o ≠ .call f xs)(h2 : ∀ f xs,o ≠ .callv f xs)(h3 : ∀ x,o ≠ .pan x):opX E cf st o=(opD E st o).map fun p => .val p.1 p.2:=by cases o<;>first | rfl | exact(h1 _ _ rfl).elim | exact(h2 _ _ rfl).elim | exact(h3 _ rfl).elim
theorem zp4{c:Cx}{a b:List PD}{d e:List D}(h:RPL c a d)(k:RPL c b e):RPL c (a++b) (d++e):=by
 induction a generalizing d with
 | nil=>cases d with | nil=>simpa using k | cons _ _=>exact h.elim
 | cons x r ih=>cases d with
  | nil=>exact h.elim
  | cons y s=>exact⟨h.1,ih h.2⟩
theorem zx2{c:Cx}{cap:List CP}{ds:List D}(h:RCL c.ρ c.m cap ds):RPL c (cap.map zAC) ds:=by
 induction cap generalizing ds with
 | nil=>cases ds with | nil=>trivial | cons _ _=>exact h.elim
 | cons q r ih=>cases ds with
  | nil=>exact h.elim
  | cons d s=>cases q<;>exact⟨h.1,ih h.2⟩
theorem zBr{E:Env}{gl:Gl}{pc:PcT}(hg:GlR E gl)(hpc:zbt E gl.md pc)(hS:Sim ρ τ p st)(hw:Wf p){o:O}{K:Option PD->PSt->Option ρ'}(h:VF gl pc p o K=some r) :
  ∃ d p',K d p'=some r /\ ∃ e st' ρ1 τ1,opX E (zz E) st o=some (.val e st')/\RO (zy ρ1 τ1 p' st') d e/\Goes ρ τ p st ρ1 τ1 p' st'/\st'.tm=st.tm /\
   (still gl.md o=true -> ∀ x0,jq x0 τ p st->ρ1=ρ/\Soft x0 τ p st τ1 p' st'):=by
 have XX : ∀ {f:Nat} {ds:List PD} {es:List D},RPL (zy ρ τ p st) ds es->XX pc f ds p (fun d p'=>K (some d) p')=some r->opX E (zz E) st o=((zz E f es st).map outV) ->
   ∃ d p',K d p'=some r /\ ∃ e st' ρ1 τ1,opX E (zz E) st o=some (.val e st')/\RO (zy ρ1 τ1 p' st') d e/\Goes ρ τ p st ρ1 τ1 p' st'/\st'.tm=st.tm /\
    (still gl.md o=true -> ∀ x0,jq x0 τ p st->ρ1=ρ/\Soft x0 τ p st τ1 p' st'):=by
  intro f ds es hr hk he;obtain⟨d,p',h1,e,st',h2,h3,h4,h5,h6,h7,h8⟩:=zoh hpc.n hS hw hr hk;exact⟨some d,p',h1,some e,st',ρ,τ,by rw[he,h2];rfl,h3,h4,h5,fun _ x0 ha=>⟨rfl,zgL h7 h8 ha⟩⟩
 by_cases hc1 : ∃ f xs,o = .call f xs
 ·obtain⟨f,xs,rfl⟩:=hc1;simp only[VF]at h;split at h<;>try contradiction
  next ds hds=>obtain⟨es,h1,h2⟩:=zdw hg hS hds;obtain⟨d,p',h3,e,st',τ1,h4,h5,h6,h7,h8⟩:=zwK hpc hS hw h2 h;refine⟨some d,p',h3,some e,st',ρ,τ1,by simp[opX,h1,h4,outV],h5,h6,h7,fun hs x0 ha=>⟨rfl,h8 (fun sz hm => ?_) x0 ha⟩⟩;simp[still,hm]at hs
 by_cases hc2 : ∃ f xs,o = .callv f xs
 ·obtain⟨g,xs,rfl⟩:=hc2;simp only[VF]at h;split at h<;>try contradiction
  ·next f cap hf=>
   split at h<;>try contradiction
   next hlt=>
   split at h<;>try contradiction
   next ds hds=>obtain⟨e,he,hr⟩:=yp hg hS hf;obtain⟨cs,rfl,hcs⟩:=hr;obtain⟨es,h1,h2⟩:=zdw hg hS hds;exact XX (zp4 h2 (zx2 hcs)) h (by rw[Nat.blt_eq]at hlt;simp[opX,he,h1,hlt])
  ·next x hx=>
   split at h<;>try contradiction
   next ds hds=>
    rw[zA]at h;obtain⟨q,hq,h⟩:=h;obtain⟨e,he,hr⟩:=yp hg hS hx;have hfn:=zxn hq hr;subst hfn;split at h<;>try contradiction
    next hq2=>
     split at h<;>try contradiction
     next hlt=>
     obtain⟨es,h1,h2⟩:=zdw hg hS hds;exact XX h2 h (by rw[Nat.blt_eq]at hlt;simp[opX,he,h1,hq2,toDL,hlt])
 have hc1 : ∀ f xs,o ≠ .call f xs:=fun f xs e=>hc1 ⟨f,xs,e⟩
 have hc2 : ∀ f xs,o ≠ .callv f xs:=fun f xs e=>hc2 ⟨f,xs,e⟩
 have hc3 : ∀ x,o ≠ .pan x:=fun x e=>by subst e;simp[VF]at h
 by_cases hq:quiet o=true
 ·obtain⟨d,h1,e,h2,h3⟩:=zzr hg hS hq h;exact⟨some d,p,h1,some e,st,ρ,τ,by rw[zmq hc1 hc2 hc3,h2];rfl,h3,.refl hS,rfl,fun _ x0 hi=>⟨rfl,.refl hi⟩⟩
 by_cases hap:zr7 o=true
 ·obtain⟨d,p',h1,e,st',ρ1,τ1,h2,h3,h4,h5,h6⟩:=zBf hg hS hap h;exact⟨d,p',h1,e,st',ρ1,τ1,by rw[zmq hc1 hc2 hc3,h2];rfl,h3,h4,h5,fun _=>h6⟩
 ·obtain⟨d,p',h1,e,st',ρ1,τ1,h2,h3,h4,h5⟩:=zBj hg hS hc1 hc2 h;refine⟨d,p',h1,e,st',ρ1,τ1,by rw[zmq hc1 hc2 hc3,h2];rfl,h3,h4,h5,fun hs => ?_⟩;exfalso;cases o<;>simp[quiet,still,zr7]at hq hs hap
  ·exact hc1 _ _ rfl
  ·exact hc2 _ _ rfl
theorem zAo{E:Env}{gl:Gl}{pc:PcT}(hg:GlR E gl)(hpc:zbt E gl.md pc)(hS:Sim ρ τ p st)(hw:Wf p){o:O}{dst:Option Nat}{K:PSt->Option ρ'}(h:(VF gl pc p o fun r p'=>match zbC p' dst r with | some p''=>K p'' | none=>none)=some r) :
  ∃ p',K p'=some r /\ ∃ st' ρ1 τ1,opR E (zz E) dst st o=some (.ok st')/\Goes ρ τ p st ρ1 τ1 p' st'/\(∀ t,dst≠some t->get st'.tm t=get st.tm t) /\
   (still gl.md o=true -> ∀ x0,jq x0 τ p st->ρ1=ρ/\Soft x0 τ p st τ1 p' st'):=by
 obtain⟨d,p',h1,e,st',ρ1,τ1,h2,h3,h4,h5,h6⟩:=zBr hg hpc hS hw h;split at h1<;>try contradiction
 next p'' hp=>
  have h7:=KF h4.sim h3 hp;refine⟨p'',h1,st'.set dst e,ρ1,τ1,by simp[opR,h2,Rv.to],h4.trans hw h7,fun t ht => ?_,fun hs x0 ha => ?_⟩
  ·rw[<- h5];cases e with
   | none=>cases dst with
    | none=>rfl
    | some u=>show get (Ev.del st'.tm u) t=_;rw[Zx,zBt (fun e=>ht (by rw[e]))]
   | some e=>cases dst with
    | none=>rfl
    | some u=>show get (Ev.put st'.tm u e) t=_;rw[get_put,zBt (fun e=>ht (by rw[e]))]
  ·obtain⟨rfl,h9⟩:=h6 hs x0 ha;have hrow:p''.rows=p'.rows/\p''.ni=p'.ni/\p''.lim=p'.lim:=by
    unfold zbC at hp;split at hp
    ·injection hp with hp;subst hp;exact⟨rfl,rfl,rfl⟩
    ·split at hp<;>(split at hp<;>try contradiction)<;>(injection hp with hp;subst hp;exact⟨rfl,rfl,rfl⟩)
   have hst:(st'.set dst e).mem=st'.mem/\(st'.set dst e).tip=st'.tip/\(st'.set dst e).nx=st'.nx:=by cases e<;>cases dst<;>exact⟨rfl,rfl,rfl⟩
   exact⟨rfl,hrow.1.trans h9.rows,hrow.2.2.trans h9.lim,by rw[hrow.2.1];exact h9.ni,hst.1.trans h9.mem,h9.τ,h9.hi,fun l hl=>by rw[hst.2.1];exact h9.tip l hl⟩
theorem zwd(hS:Sim ρ τ p st){dst:Option Nat}{p':PSt}(h:zbC p dst none=some p'):Goes ρ τ p st ρ τ p' (st.put dst .off):=by
 unfold zbC at h;split at h
 ·injection h with h;subst h;exact .refl hS
 ·next t=>
  simp only at h;split at h<;>try contradiction
  next tm hp=>
   injection h with h;subst h;refine KS hS (tm':=Ev.put st.tm t .off) (fun u f d' hu => ?_) (fun u d' hu => ?_)
   ·rw[(zcS hp u).1]at hu;rw[get_put];split at hu
    ·contradiction
    ·next h=>rw[zBt h];exact hS.tm u f d' hu
   ·rw[(zcS hp u).1]at hu;split at hu
    ·contradiction
    ·next h=>exact⟨hu,by rw[get_put,zBt h]⟩
theorem zbX{E:Env}{gl:Gl}{pc:PcT}(hg:GlR E gl)(hpc:zbt E gl.md pc)(hS:Sim ρ τ p st)(hw:Wf p){o:OpC}{K:PSt->Option ρ'}(h:zhH gl pc o p K=some r) :
  ∃ p',K p'=some r /\ ∃ st' ρ1 τ1,opC E (zz E) o st=some (.ok st')/\Goes ρ τ p st ρ1 τ1 p' st'/\(still gl.md o.op=true -> ∀ x0,jq x0 τ p st->ρ1=ρ/\Soft x0 τ p st τ1 p' st'):=by
 unfold zhH at h;split at h
 ·next hgd=>
  obtain⟨p',h1,st',ρ1,τ1,h2,h3,_,h4⟩:=zAo hg hpc hS hw h;exact⟨p',h1,st',ρ1,τ1,by simp[opC,yO,hgd,h2],h3,h4⟩
 ·next t b hgd=>
  split at h<;>try contradiction
  next c hc=>
   rw[zA]at h;obtain⟨cb,hcb,h⟩:=h;obtain⟨e,he,hr⟩:=xD (E:=E) hg hS hc;have:=Yg hcb hr;subst this;have he:get st.tm t=some (.bool cb):=he;split at h
   ·next hcb2=>
    obtain⟨p',h1,st',ρ1,τ1,h2,h3,_,h4⟩:=zAo hg hpc hS hw h;refine⟨p',h1,st',ρ1,τ1,?_,h3,h4⟩;subst hcb2;simp[opC,yO,hgd,he,h2]
   ·next hcb2=>
    split at h<;>try contradiction
    next p'' hp=>
     have h7:=zwd hS hp;refine⟨p'',h,st.put o.dst .off,ρ,τ,?_,h7,fun _ x0 hi=>⟨rfl,?_⟩⟩
     ·have:(cb==b)=false:=by cases cb<;>cases b<;>simp_all
      simp only[opC,yO,hgd,he,this]
     ·have hrow:p''.rows=p.rows/\p''.ni=p.ni/\p''.lim=p.lim:=by
       unfold zbC at hp;split at hp
       ·injection hp with hp;subst hp;exact⟨rfl,rfl,rfl⟩
       ·split at hp<;>(split at hp<;>try contradiction)<;>(injection hp with hp;subst hp;exact⟨rfl,rfl,rfl⟩)
      refine⟨hrow.1,hrow.2.2,by rw[hrow.2.1];exact zR _,?_,fun _ _=>rfl,hi.hi,fun l _ => ?_⟩<;>cases o.dst<;>rfl
theorem KW{tm:PTm}{l:List Nat}(h:zmX tm l=true){t:Nat}{f:Bool}{d:PD}(ht:xb tm t=some (f,d)):t ∉ l:=by
 induction l with
 | nil=>simp
 | cons u r ih=>
  simp only[zmX,zG]at h;intro hm;rcases List.mem_cons.1 hm with rfl | hm
  ·rw[ht]at h;exact absurd h.1 (by simp)
  ·exact ih h.2 hm
theorem ku(E:Env):wH (zz E):=by intro f ds st o st' h;obtain⟨m,hm⟩:=wJ.1 h;exact Fq.call f ds st o st' hm
theorem zlu{E:Env}{l:List OpC}{st st':St}(h:runOps E (zz E) l st=some (.ok st')){t:Nat}(ht : ∀ o∈l,o.dst≠some t):get st'.tm t=get st.tm t:=by
 induction l generalizing st with
 | nil=>simp only[runOps,zBB,Rs.ok.injEq]at h;rw[h]
 | cons o r ih=>
  simp only[runOps]at h;cases ho:opC E (zz E) o st with
  | none=>rw[ho]at h;simp at h
  | some q=>cases q with
   | pan d s=>rw[ho]at h;simp at h
   | ok s=>rw[ho]at h;rw[ih h (fun o' ho'=>ht o' (zP _ ho')),qA (ku E) ho (ht o zBY)]
theorem ziP(g:Option (Nat×Bool))(o:OpC):(KD g o).dst=o.dst:=by unfold KD;split<;>rfl
theorem KG{g:Option (Nat×Bool)}{l:PO}{t:Nat}(ht:t ∉ xN l) : ∀ o∈xc g l,o.dst≠some t:=by
 induction l generalizing g with
 | nil=>intro o ho;simp[xc]at ho
 | one o r ih=>
  simp only[xN,zBO,not_or]at ht;intro o' ho';simp only[xc,zS]at ho';rcases ho' with rfl | ho'
  ·rw[ziP];intro e;rw[e]at ht;simp at ht
  ·exact ih ht.2 o' ho'
 | box n dst x r ih=>
  simp only[xN,zS,not_or]at ht;intro o' ho';simp only[xc,zS]at ho';rcases ho' with rfl | ho'
  ·intro e;injection e with e;exact ht.1 e.symm
  ·exact ih ht.2 o' ho'
 | grp c w ops dst a b r ih1 ih2=>
  simp only[xN,zBO,zS,not_or]at ht;intro o' ho';simp only[xc,zBO,zS]at ho';rcases ho' with ho' | rfl | ho'
  ·exact ih1 ht.1 o' ho'
  ·intro e;injection e with e;exact ht.2.1 e.symm
  ·exact ih2 ht.2.2 o' ho'
theorem zut{E:Env}{c:Nat}{w:Bool}{l:PO}(hc:c ∉ xN l){st:St}(hg:get st.tm c=some (.bool w)):runOps E (zz E) (xc (some (c,w)) l) st=runOps E (zz E) (xc none l) st:=by
 have one : ∀ (d:Option Nat) (op:O) (st:St),get st.tm c=some (.bool w)->opC E (zz E) ⟨d,op,some (c,w)⟩ st=opC E (zz E) ⟨d,op,none⟩ st:=by intro d op st hg;simp only[opC,yO,hg,BEq.rfl]
 induction l generalizing st with
 | nil=>rfl
 | one o r ih=>
  simp only[xN,zBO,not_or]at hc;simp only[xc,runOps];have ho:opC E (zz E) (KD (some (c,w)) o) st=opC E (zz E) (KD none o) st:=by
   unfold KD;cases o.gd with
   | none=>exact one _ _ st hg
   | some _=>rfl
  rw[ho];cases h:opC E (zz E) (KD none o) st with
  | none=>rfl
  | some q=>cases q with
   | pan d s=>rfl
   | ok s=>refine ih hc.2 ?_;rw[qA (ku E) h ?_];exact hg;rw[ziP];intro e;rw[e]at hc;simp at hc
 | box n dst x r ih=>
  simp only[xN,zS,not_or]at hc;simp only[xc,runOps];rw[one _ _ st hg];cases h:opC E (zz E) ⟨some dst,.box x,none⟩ st with
  | none=>rfl
  | some q=>cases q with
   | pan d s=>rfl
   | ok s=>refine ih hc.2 ?_;rw[qA (ku E) h (fun e=>hc.1 (by injection e with e;exact e.symm))];exact hg
 | grp c2 w2 ops dst a b r ih1 ih2=>
  simp only[xN,zBO,zS,not_or]at hc;simp only[xc];rw[xH,xH];cases h:runOps E (zz E) (xc (some (c2,w2)) ops) st with
  | none=>rfl
  | some q=>cases q with
   | pan d s=>rfl
   | ok s=>
    have hs:get s.tm c=some (.bool w):=by rw[zlu h (KG hc.1)];exact hg
    simp only[runOps];rw[one _ _ s hs];cases h2:opC E (zz E) ⟨some dst,zjm c2 w2 a b,none⟩ s with
    | none=>rfl
    | some q=>cases q with
     | pan d s=>rfl
     | ok s2=>refine ih2 hc.2.2 ?_;rw[qA (ku E) h2 (fun e=>hc.2.1 (by injection e with e;exact e.symm))];exact hs
def Not(st:St)(c:Nat)(w:Bool):Prop:=(∃ b,b≠w/\get st.tm c=some (.bool b))\/get st.tm c=some .off
theorem znL{l:List Nat}{t:Nat}:hasB l t=true↔t∈l:=by
 induction l with
 | nil=>simp[hasB]
 | cons i r ih=>
  simp only[hasB,zS];cases hb:i.beq t with
  | true=>have:=zJ hb;subst this;simp
  | false=>
   have:t≠i:=fun e=>by subst e;rw[Nat.beq_refl]at hb;contradiction
   simp[this,ih]
theorem YX{E:Env}{cf:Cf}(a b:List OpC)(st:St):runStill E cf (a++b) st=(runStill E cf a st).bind fun s=>runStill E cf b s:=by
 induction a generalizing st with
 | nil=>rfl
 | cons o r ih=>
  simp only[List.cons_append,runStill];cases opC E cf o st with
  | none=>rfl
  | some q=>cases q with
   | ok s=>
    simp only;split
    ·exact ih s
    ·rfl
   | pan d s=>rfl
theorem ze3{E:Env}{l:List OpC}{st st':St}(h:runStill E (zz E) l st=some st'){t:Nat}(ht : ∀ o∈l,o.dst≠some t):get st'.tm t=get st.tm t:=by
 induction l generalizing st with
 | nil=>simp only[runStill,zBB]at h;rw[h]
 | cons o r ih=>
  simp only[runStill]at h;cases ho:opC E (zz E) o st with
  | none=>rw[ho]at h;simp at h
  | some q=>cases q with
   | pan d s=>rw[ho]at h;simp at h
   | ok s=>
    rw[ho]at h;simp only at h;split at h<;>try contradiction
    rw[ih h (fun o' ho'=>ht o' (zP _ ho')),qA (ku E) ho (ht o zBY)]
theorem zuf{E:Env}{c:Nat}{w:Bool}{l:PO}(hc:c ∉ xN l){st s:St}(hg:get st.tm c=some (.bool w))(h:runStill E (zz E) (xc none l) st=some s):runStill E (zz E) (xc (some (c,w)) l) st=some s:=by
 have one : ∀ (d:Option Nat) (op:O) (st:St),get st.tm c=some (.bool w)->opC E (zz E) ⟨d,op,some (c,w)⟩ st=opC E (zz E) ⟨d,op,none⟩ st:=by intro d op st hg;simp only[opC,yO,hg,BEq.rfl]
 induction l generalizing st with
 | nil=>exact h
 | one o r ih=>
  simp only[xN,zBO,not_or]at hc;simp only[xc,runStill]at h ⊢;have ho:opC E (zz E) (KD (some (c,w)) o) st=opC E (zz E) (KD none o) st:=by
   unfold KD;cases o.gd with
   | none=>exact one _ _ st hg
   | some _=>rfl
  rw[ho];cases hh:opC E (zz E) (KD none o) st with
  | none=>rw[hh]at h;simp at h
  | some q=>cases q with
   | pan d s=>rw[hh]at h;simp at h
   | ok s1=>
    rw[hh]at h;simp only at h ⊢;split at h<;>try contradiction
    next hm=>rw[zBu hm];refine ih hc.2 ?_ h;rw[qA (ku E) hh ?_];exact hg;rw[ziP];intro e;rw[e]at hc;simp at hc
 | box n dst x r ih=>
  simp only[xN,zS,not_or]at hc;simp only[xc,runStill]at h ⊢;rw[one _ _ st hg];cases hh:opC E (zz E) ⟨some dst,.box x,none⟩ st with
  | none=>rw[hh]at h;simp at h
  | some q=>cases q with
   | pan d s=>rw[hh]at h;simp at h
   | ok s1=>
    rw[hh]at h;simp only at h ⊢;split at h<;>try contradiction
    next hm=>rw[zBu hm];refine ih hc.2 ?_ h;rw[qA (ku E) hh (fun e=>hc.1 (by injection e with e;exact e.symm))];exact hg
 | grp c2 w2 ops dst a b r ih1 ih2=>
  simp only[xN,zBO,zS,not_or]at hc;simp only[xc]at h ⊢;rw[YX,zA]at h ⊢;obtain⟨s1,h1,h2⟩:=h;refine⟨s1,h1,?_⟩;have hs:get s1.tm c=some (.bool w):=by rw[ze3 h1 (KG hc.1)];exact hg
  simp only[runStill]at h2 ⊢;rw[one _ _ s1 hs];cases hh:opC E (zz E) ⟨some dst,zjm c2 w2 a b,none⟩ s1 with
  | none=>rw[hh]at h2;simp at h2
  | some q=>cases q with
   | pan d s=>rw[hh]at h2;simp at h2
   | ok s2=>
    rw[hh]at h2;simp only at h2 ⊢;split at h2<;>try contradiction
    next hm=>rw[zBu hm];refine ih2 hc.2.2 ?_ h2;rw[qA (ku E) hh (fun e=>hc.2.1 (by injection e with e;exact e.symm))];exact hs
theorem zpy{E:Env}{cf:Cf}{l:PO}{c:Nat}{w:Bool}{W:List Nat}(hn:zdm W l=true){st:St}(hg:Not st c w)(hW : ∀ t∈W,get st.tm t=some .off) :
  ∃ tm,(runOps E cf (xc (some (c,w)) l) st=some (.ok { st with tm:=tm })/\runStill E cf (xc (some (c,w)) l) st=some { st with tm:=tm })/\(∀ t,t ∉ xN l->get tm t=get st.tm t) /\ ∀ t,t∈xN l->get tm t=some .off:=by
 have one : ∀ {c:Nat} {w:Bool} (d:Option Nat) (op:O) (st:St),Not st c w->opC E cf ⟨d,op,some (c,w)⟩ st=some (.ok (st.put d .off)):=by
  intro c w d op st hg;rcases hg with⟨b,hb,hg⟩ | hg
  ·have hbw:(b==w)=false:=by cases b<;>cases w<;>simp_all
   simp only[opC,yO,hg,hbw]
  ·simp only[opC,yO,hg]
 have put1 : ∀ (d:Option Nat) (st:St) (t:Nat),get (st.put d .off).tm t=if d=some t then some .off else get st.tm t:=by
  intro d st t;cases d with
  | none=>rfl
  | some u=>
   show get (Ev.put st.tm u .off) t=_;rw[get_put];by_cases e:t=u
   ·subst e;simp
   ·rw[zBt e,zBt (fun h=>e (by injection h with h;exact h.symm))]
 have keep : ∀ {c:Nat} {w:Bool} (d:Option Nat) (st:St),Not st c w->Not (st.put d .off) c w:=by
  intro c w d st hg;unfold Not;rw[put1];by_cases e:d=some c
  ·rw[zBu e];exact .inr rfl
  ·rw[zBt e];exact hg
 have stput : ∀ (d:Option Nat) (st:St),∃ tm,st.put d .off={ st with tm:=tm }:=by intro d st;cases d<;>exact⟨_,rfl⟩
 have offs : ∀ (d:Option Nat) (st:St) (W:List Nat),(∀ t∈W,get st.tm t=some .off) -> ∀ t∈(match d with | some t=>[t] | none=>[])++W,get (st.put d .off).tm t=some .off:=by
  intro d st W hW t ht;rw[put1];split
  ·rfl
  ·next hne=>
   rcases List.mem_append.1 ht with ht | ht
   ·exfalso;cases d with
    | none=>simp at ht
    | some u=>simp at ht;exact hne (by rw[ht])
   ·exact hW t ht
 induction l generalizing st W c w with
 | nil=>exact⟨st.tm,⟨rfl,rfl⟩,fun _ _=>rfl,fun t ht=>by simp[xN]at ht⟩
 | one o r ih=>
  simp only[zdm,zG]at hn;cases hgd:o.gd with
  | some _=>rw[hgd]at hn;simp at hn
  | none=>
   obtain⟨tm,h1,h2,h3⟩:=ih hn.2 (keep o.dst st hg) (offs o.dst st W hW);obtain⟨tm',hst⟩:=stput o.dst st;refine⟨tm,?_,fun t ht => ?_,fun t ht => ?_⟩
   ·rw[hst]at h1;refine⟨?_,?_⟩
    ·simp only[xc,runOps,KD,hgd,one _ _ st hg];rw[hst];exact h1.1
    ·simp only[xc,runStill,KD,hgd,one _ _ st hg];rw[hst,zBu rfl];exact h1.2
   ·simp only[xN,zBO,not_or]at ht;rw[h2 t ht.2,put1,zBt];intro e;rw[e]at ht;simp at ht
   ·by_cases hm:t∈xN r
    ·exact h3 t hm
    ·rw[h2 t hm];simp only[xN,zBO]at ht;rcases ht with ht | ht
     ·rw[put1,zBu];cases hd:o.dst with
      | none=>rw[hd]at ht;simp at ht
      | some u=>rw[hd]at ht;simp at ht;rw[ht]
     ·exact(hm ht).elim
 | box n dst x r ih=>
  simp only[zdm]at hn;obtain⟨tm,h1,h2,h3⟩:=ih hn (keep (some dst) st hg) (offs (some dst) st W hW);refine⟨tm,?_,fun t ht => ?_,fun t ht => ?_⟩
  ·refine⟨?_,?_⟩
   ·simp only[xc,runOps,one _ _ st hg];exact h1.1
   ·simp only[xc,runStill,one _ _ st hg];rw[zBu (show(st.put (some dst) .off).mem=st.mem from rfl)];exact h1.2
  ·simp only[xN,zS,not_or]at ht;rw[h2 t ht.2,put1,zBt];intro e;injection e with e;exact ht.1 e.symm
  ·by_cases hm:t∈xN r
   ·exact h3 t hm
   ·rw[h2 t hm];simp only[xN,zS]at ht;rcases ht with rfl | ht
    ·rw[put1,zBu rfl]
    ·exact(hm ht).elim
 | grp c2 w2 ops dst a b r ih1 ih2=>
  simp only[zdm,zG]at hn;have hc2:=hW c2 (znL.1 hn.1.1);obtain⟨tm1,h1,h2,h3⟩:=ih1 (c:=c2) (w:=w2) hn.1.2 (.inr hc2) (fun t ht=>by simp at ht);have hg1:Not { st with tm:=tm1 } c w:=by
   unfold Not;by_cases hm:c∈xN ops
   ·exact .inr (h3 c hm)
   ·show(∃ b,b≠w/\get tm1 c=some (.bool b))\/get tm1 c=some .off;rw[h2 c hm];exact hg
  have hW1 : ∀ t∈W,get ({ st with tm:=tm1 }:St).tm t=some .off:=by
   intro t ht;show get tm1 t=_;by_cases hm:t∈xN ops
   ·exact h3 t hm
   ·rw[h2 t hm];exact hW t ht
  obtain⟨tm,h4,h5,h6⟩:=ih2 hn.2 (keep (some dst) _ hg1) (offs (some dst) _ W hW1);refine⟨tm,?_,fun t ht => ?_,fun t ht => ?_⟩
  ·refine⟨?_,?_⟩
   ·simp only[xc];rw[xH,h1.1];simp only[runOps,one _ _ _ hg1];exact h4.1
   ·simp only[xc];rw[YX,h1.2];simp only[zD,runStill,one _ _ _ hg1];rw[zBu (show(({ st with tm:=tm1 }:St).put (some dst) .off).mem=st.mem from rfl)];exact h4.2
  ·simp only[xN,zBO,zS,not_or]at ht;rw[h5 t ht.2.2,put1,zBt]
   ·exact h2 t ht.1
   ·intro e;injection e with e;exact ht.2.1 e.symm
  ·by_cases hm:t∈xN r
   ·exact h6 t hm
   ·rw[h5 t hm,put1];split
    ·rfl
    ·next hne=>
     simp only[xN,zBO,zS]at ht;rcases ht with ht | rfl | ht
     ·exact h3 t ht
     ·exact(hne rfl).elim
     ·exact(hm ht).elim
theorem RS.sealOf{c c':Cx}(h1:c'.ρ=c.ρ)(h2:c'.m=c.m)(h3 : ∀ k,c'.rk k=c.rk k){q:PS}{d:D}(hr:RS c q d):RS c' q.sealOf d:=by
 cases q with
 | own i sz xs=>obtain⟨g,ds,rfl,h4,_⟩:=hr;show(D.sl _ _ _).cl0=_;simp only[D.cl0,V.toD,h4]
 | v x=>exact hr
 | full xs=>exact hr
 | ptr k off=>exact⟨by rw[h2];exact hr.1,by rw[h1];exact hr.2⟩
 | ptrA k sz i off=>exact⟨by rw[h2];exact hr.1,by rw[h1];exact hr.2.1,fun s n hs=>hr.2.2 s n (by rw[<- h3];exact hs)⟩
 | ref k sz off n cp z=>exact⟨by rw[h2];exact hr.1,hr.2.1,by rw[h1];exact hr.2.2.1,fun s n hs=>hr.2.2.2 s n (by rw[<- h3];exact hs)⟩
 | uref k sz n=>exact⟨by rw[h2];exact hr.1,by rw[h1];exact hr.2.1,fun s n hs=>hr.2.2 s n (by rw[<- h3];exact hs)⟩
 | el cs=>exact hr
 | elx sz x off=>exact hr
 | fn f cap=>obtain⟨ds,h4,h5⟩:=hr;exact⟨ds,h4,by rw[h1,h2];exact h5⟩
theorem RSL.sealOf{c c':Cx}(h1:c'.ρ=c.ρ)(h2:c'.m=c.m)(h3 : ∀ k,c'.rk k=c.rk k){ps:List PS}{ds:List D}(hr:RSL c ps ds):RSL c' (zc6 ps) ds:=by
 induction ps generalizing ds with
 | nil=>cases ds with | nil=>trivial | cons _ _=>exact hr.elim
 | cons q r ih=>cases ds with
  | nil=>exact hr.elim
  | cons d s=>exact⟨RS.sealOf h1 h2 h3 hr.1,ih hr.2⟩
theorem zlq(q:PS):vG [q.sealOf]=false:=by cases q<;>rfl
theorem seal_own(ps:List PS):vG (zc6 ps)=false:=by
 induction ps with
 | nil=>rfl
 | cons q r ih=>rw[zc6,Kc,zlq,ih];rfl
theorem zkx(tm:PTm)(t:Nat):xb (zsl tm) t=(xb tm t).map fun q=>(q.1,q.2.sealOf):=by
 induction tm with
 | nil=>rfl
 | cons e r ih=>
  obtain⟨i,f,d⟩:=e;simp only[zsl,xb];cases i.beq t
  ·exact ih
  ·rfl
theorem jQ(rows:List Row)(k:Nat):(ZO rows)[k]?=(rows[k]?).map fun r=>⟨true,r.c.sealC⟩:=by
 induction rows generalizing k with
 | nil=>simp[ZO]
 | cons r s ih=>obtain⟨f,c⟩:=r;cases c<;>cases k<;>simp_all [ZO,RowC.sealC]
theorem vZ(rows:List Row):(ZO rows).length=rows.length:=by
 induction rows with
 | nil=>rfl
 | cons r s ih=>obtain⟨f,c⟩:=r;cases c<;>simp_all [ZO]
theorem K4(rows:List Row)(k:Nat):yj (ZO rows) k=yj rows k:=by
 simp only[yj,jQ];cases h:rows[k]? with
 | none=>rfl
 | some r=>obtain⟨f,c⟩:=r;cases c<;>rfl
theorem zog(hS:Sim ρ τ p st):Sim ρ (fun _=>none) p.sealOf st where
 tm t f d h:=by
  simp only[PSt.sealOf,zkx,zB]at h;obtain⟨⟨f',d'⟩,h1,h2⟩:=h;simp only[zBC]at h2;obtain⟨rfl,rfl⟩:=h2;obtain⟨e,h3,h4⟩:=hS.tm t f' d' h1;refine⟨e,h3,?_⟩;cases d' with
  | s q=>exact RS.sealOf (c:=zy ρ τ p st) (c':=zy ρ (fun _=>none) p.sealOf st) rfl (vZ p.rows) (K4 p.rows) h4
  | agg ps=>obtain⟨ds,h5,h6,h7⟩:=h4;exact⟨ds,h5,RSL.sealOf (c:=zy ρ τ p st) (c':=zy ρ (fun _=>none) p.sealOf st) rfl (vZ p.rows) (K4 p.rows) h6,h7⟩
 nx k hk:=hS.nx k (by rwa [PSt.sealOf,vZ]at hk)
 rows k r hk:=by
  simp only[PSt.sealOf,jQ,zB]at hk;obtain⟨r',h1,rfl⟩:=hk;obtain⟨o,h2,h3⟩:=hS.rows k r' h1;obtain⟨f,c⟩:=r';refine⟨o,?_,?_⟩
  ·rcases h2 with h2 | h2
   ·left;simp only at h2;subst h2;rfl
   ·exact .inr h2
  ·cases c with
   | cells ps=>obtain⟨ds,h5,h6,h7⟩:=h3;exact⟨ds,h5,RSL.sealOf (c:=zy ρ τ p st) (c':=zy ρ (fun _=>none) p.sealOf st) rfl (vZ p.rows) (K4 p.rows) h6,h7⟩
   | _=>exact h3
 inj j k hj hk:=hS.inj j k (by rwa [PSt.sealOf,vZ]at hj) (by rwa [PSt.sealOf,vZ]at hk)
 lin i l h:=by contradiction
 linj i j l h:=by contradiction
theorem PD.seal_own(d:PD):d.sealOf.hasOwn=false:=by
 cases d with
 | s q=>exact zlq q
 | agg ps=>exact Ev.seal_own ps
theorem zbZ(p:PSt):Wf p.sealOf:=by
 refine⟨fun t d h => ?_,fun k r hk _ => ?_⟩
 ·simp only[PSt.sealOf,zkx,zB]at h;obtain⟨⟨f',d'⟩,h1,h2⟩:=h;simp only[zBC]at h2;obtain⟨_,rfl⟩:=h2;exact PD.seal_own d'
 ·simp only[PSt.sealOf,jQ,zB]at hk;obtain⟨r',h1,rfl⟩:=hk;obtain⟨f,c⟩:=r';cases c with
  | cells ps=>exact seal_own ps
  | _=>rfl
theorem ze6(hS:Sim ρ τ p st){ρ1:Nat->Nat}{τ1:Nat->Option Nat}{p1:PSt}{st1:St}(h:Goes ρ (fun _=>none) p.sealOf st ρ1 τ1 p1 st1)(ht : ∀ t f d,xb p.tm t=some (f,d)->get st1.tm t=get st.tm t):Goes ρ τ p st ρ τ p st1:=by
 have hmem : ∀ b,b<st.nx->st1.mem b=st.mem b:=by intro b hb;refine h.mem b hb (fun k r hk _ => ?_);simp only[PSt.sealOf,jQ,zB]at hk;obtain⟨r',_,rfl⟩:=hk;rfl
 have htip : ∀ l,l<st.nx->st1.tip l=st.tip l:=fun l hl=>h.tip l hl (fun i=>by simp)
 have hle:Le (zy ρ τ p st) (zy ρ τ p st1):=⟨fun _ _=>rfl,zR _,fun _ _ => .inl rfl,fun i l hi=>⟨hi,htip l (hS.lin i l hi).2⟩,zR _⟩
 refine⟨⟨fun t f d hd => ?_,fun k hk=>zK (hS.nx k hk) h.nx,fun k r hk => ?_,hS.inj,fun i l hi=>⟨(hS.lin i l hi).1,zK (hS.lin i l hi).2 h.nx⟩,hS.linj⟩,h.nx,h.lo,zR _,fun _ _=>rfl,fun k h1 h2=>absurd h2 (Nat.not_lt.2 h1),fun i l h => .inl ⟨i,h⟩,fun h=>h,fun _ _ _ h _=>h,fun _ r' _ h hr=>⟨r',h,hr⟩,fun _ _ => .inl rfl,fun b hb _=>hmem b hb,fun l hl _=>htip l hl,fun m h1 h2 h3 h4 => ?_,fun _ t d hd=>⟨hd,ht t true d hd⟩⟩
 ·obtain⟨e,h1,h2⟩:=hS.tm t f d hd;exact⟨e,by rw[ht t f d hd];exact h1,RP.le hle h2⟩
 ·obtain⟨o,h1,h2⟩:=hS.rows k r hk;refine⟨o,?_,RW.le hle h2⟩;rcases h1 with h1 | h1
  ·exact .inl h1
  ·right;rw[hmem _ (hS.nx k (getElem?_lt hk))];exact h1
 ·refine h.lw m h1 h2 (fun k r hk hr => ?_) (fun i l hi=>by contradiction);simp only[PSt.sealOf,jQ,zB]at hk;obtain⟨r',hk',rfl⟩:=hk;refine h3 k r' hk' (.inr ?_);rcases hr with hr | hr
  ·contradiction
  ·obtain⟨f,c⟩:=r';cases c<;>simp_all [RowC.sealC,RowC.isArr]
theorem zpa{E:Env}{gl:Gl}{tm:Tm}{x:X}{d:PD}(h:evH gl p x=some d)(ht : ∀ t f d,xb p.tm t=some (f,d)->get tm t=get st.tm t):ev E tm x=ev E st.tm x:=by
 cases x with
 | s t=>simp only[evH,jX,zB]at h;obtain⟨⟨f,d'⟩,h1,_⟩:=h;exact ht t f d' h1
 | k c=>rfl
 | g n=>rfl
theorem XM{E:Env}{gl:Gl}{pc:PcT}(hg:GlR E gl)(hpc:zbt E gl.md pc)(l:PO) : ∀ {ρ':Type} {r:ρ'} {ρ:Nat->Nat} {τ:Nat->Option Nat} {p:PSt} {st:St} {K:PSt->Option ρ'},Sim ρ τ p st->Wf p->vC gl pc l p K=some r ->
  ∃ p',K p'=some r /\ ∃ st' ρ1 τ1,runOps E (zz E) (vX l) st=some (.ok st')/\Goes ρ τ p st ρ1 τ1 p' st':=by
 induction l with
 | nil=>intro _ r ρ τ p st K hS hw h;exact⟨p,h,st,ρ,τ,rfl,.refl hS⟩
 | one o s ih=>
  intro _ r ρ τ p st K hS hw h;simp only[vC]at h;obtain⟨p1,h1,st1,ρ1,τ1,h2,h3,_⟩:=zbX hg hpc hS hw h;obtain⟨p',h4,st',ρ2,τ2,h5,h6⟩:=ih h3.sim (h3.wf hw) h1;refine⟨p',h4,st',ρ2,τ2,?_,h3.trans hw h6⟩;have ho:KD none o=o:=by obtain⟨d,op,gd⟩:=o;cases gd<;>rfl
  simp only[vX,xc,runOps,ho,h2];exact h5
 | box n dst x s ih=>
  intro _ r ρ τ p st K hS hw h;simp only[vC]at h;split at h<;>try contradiction
  next d hd=>
    obtain⟨e,he,hr⟩:=yp (E:=E) hg hS hd;have key : ∃ c,(match zbC (p.newR c) (some dst) (some (.s (.ptr p.rows.length 0)))with | some p'=>vC gl pc s p' K | none=>none)=some r/\yd e.cells=true/\RW ⟨fun k=>if k=p.rows.length then st.nx else ρ k,τ,p.rows.length+1,yj (p.newR c).rows,st.tip,p.ni⟩ c (.row e.cells false):=by
     unfold zc2 at h;split at h
     ·split at h
      ·next x=>
       obtain⟨h1,h2⟩:=yq h;have hc:=cells_ok (show e.cl0=x.toD from hr);exact⟨_,h2,v8 hc (wB h1),_,rfl,hc,h1⟩
      ·obtain⟨cs,h1,h2,h3,h4,h5⟩:=Ya hr h;exact⟨_,h1,h4,_,rfl,RSL.le (zsC _) h3,h4⟩
     ·obtain⟨cs,h1,h2,h3,h4,h5⟩:=Ya hr h;exact⟨_,h1,h4,_,rfl,RSL.le (zsC _) h3,h4⟩
    obtain⟨c,h1,h2,h4⟩:=key;split at h1<;>try contradiction
    next p1 hp1=>
     obtain⟨hgo,hlen⟩:=ZX hS h4;have hro:RO (zy (fun k=>if k=p.rows.length then st.nx else ρ k) τ (p.newR c) (st.newOb (.row e.cells false))) (some (.s (.ptr p.rows.length 0))) (some (.ptr st.nx 0)):=by refine⟨by show p.rows.length<(p.newR _).rows.length;rw[hlen];omega,?_⟩;show D.ptr st.nx 0 = .ptr (if p.rows.length=p.rows.length then st.nx else _) 0;rw[zBu rfl]
     have h5:=KF hgo.sim hro hp1;obtain⟨p',h6,st',ρ2,τ2,h7,h8⟩:=ih h5.sim (h5.wf (hgo.wf hw)) h1;refine⟨p',h6,st',ρ2,τ2,?_,hgo.trans hw (h5.trans (hgo.wf hw) h8)⟩;have hop:opC E (zz E) ⟨some dst,.box x,none⟩ st=some (.ok ((st.newOb (.row e.cells false)).set (some dst) (some (.ptr st.nx 0)))):=by simp[opC,yO,opR,opX,opD,he,h2,Rv.to]
     simp only[vX,xc,runOps,hop];exact h7
 | grp c w ops dst a b s ih1 ih2=>
  intro _ r ρ τ p st K hS hw h;simp only[vC]at h;split at h<;>try contradiction
  split at h<;>try contradiction
  split at h<;>try contradiction
  split at h<;>try contradiction
  next cv hc _ bd hb _ bv hbv _ hfr=>
   simp only[zG]at hfr;obtain⟨hfr,hnest⟩:=hfr;rw[zA]at h;obtain⟨cb,hcb,h⟩:=h;rw[zA]at h;obtain⟨x,hx,h⟩:=h;split at h<;>try contradiction
   next p1 hp1=>
    obtain⟨ec,hec,hrc⟩:=xD (E:=E) hg hS hc;have:=Yg hcb hrc;subst this;have hec:get st.tm c=some (.bool cb):=hec;have hcF : ∃ f d,xb p.tm c=some (f,d):=by
     unfold evV at hc;split at hc<;>try contradiction
     next y hy=>simp only[evH,jX,zB]at hy;obtain⟨⟨f,d'⟩,h1,_⟩:=hy;exact⟨f,d',h1⟩
    obtain⟨fc,dc,hcF⟩:=hcF;have hcd:=KW hfr hcF;have hsame : ∀ {tm:Tm},(∀ t,t ∉ xN ops->get tm t=get st.tm t) -> ∀ t f d,xb p.tm t=some (f,d)->get tm t=get st.tm t:=
     fun h t f d ht=>h t (KW hfr ht)
    -- the state behind the group, and what the choice yields there
    have key : ∃ st1 e,runOps E (zz E) (xc (some (c,w)) ops) st=some (.ok st1)/\Goes ρ τ p st ρ τ p st1/\get st1.tm c=some (.bool cb)/\ev E st1.tm (if cb=w then a else b)=some e/\e.cl0=x.toD:=by
     split at hx
     ·next hcw=>
      subst hcw;obtain⟨p',h1,st1,ρ1,τ1,h2,h3⟩:=ih1 (zog hS) (zbZ p) hx;have h4 : ∀ t,t ∉ xN ops->get st1.tm t=get st.tm t:=fun t ht=>zlu h2 (KG ht)
      split at h1<;>try contradiction
      next da hda=>obtain⟨e,he,hr⟩:=yp (E:=E) hg h3.sim hda;exact⟨st1,e,by rw[zut hcd hec];exact h2,ze6 hS h3 (hsame h4),by rw[h4 c hcd];exact hec,by rw[zBu rfl];exact he,PD.pure_ok hr h1⟩
     ·next hcw=>
      injection hx with hx;subst hx;obtain⟨tm,h1,h2,_⟩:=zpy (E:=E) (cf:=zz E) (w:=w) hnest (.inl ⟨cb,hcw,hec⟩) (fun t ht=>by simp at ht);obtain⟨e,he,hr⟩:=yp (E:=E) hg hS hb;have ht:=hsame h2;refine⟨_,e,h1.1,?_,by show get tm c=_;rw[h2 c hcd];exact hec,by rw[zBt hcw];show ev E tm b=_;rw[zpa (st:=st) hb ht];exact he,PD.pure_ok hr hbv⟩;have:=KS hS (tm:=p.tm) (tm':=tm) (fun t f d hd=>by rw[ht t f d hd];exact hS.tm t f d hd) (fun t d hd=>⟨hd,ht t true d hd⟩);exact this
    obtain⟨st1,e,h1,h2,h3,h4,h5⟩:=key;have h6:=KF (e:=some e) h2.sim (show RO _ (some (.s (.v x))) (some e)from h5) hp1;obtain⟨p',h7,st',ρ2,τ2,h8,h9⟩:=ih2 h6.sim (h6.wf (h2.wf hw)) h;refine⟨p',h7,st',ρ2,τ2,?_,h2.trans hw (h6.trans (h2.wf hw) h9)⟩;simp only[vX,xc];rw[xH,h1];have hp:opC E (zz E) ⟨some dst,zjm c w a b,none⟩ st1=some (.ok (st1.set (some dst) (some e))):=by have h3':ev E st1.tm (.s c)=some (.bool cb):=h3;cases w<;>cases cb<;>simp only[zBu,zBt,zF,zX,not_false_eq_true]at h4<;>simp[opC,yO,opR,opX,opD,h3',h4,Rv.to,zjm]
    simp only[runOps,hp];exact h8
end
end
section
def Vals(v:Nat->V)(i:Nat)(l:List V):Prop := ∀ (j:Nat) (x:V),l[j]?=some x->v (i+j)=x
theorem Vals.app{v:Nat->V}{i:Nat}{a b:List V}(h:Vals v i (a++b)):Vals v i a/\Vals v (i+a.length) b:=by refine⟨fun j x hj=>h j x (by rw[zBP (getElem?_lt hj)];exact hj),fun j x hj => ?_⟩;rw[Nat.add_assoc];exact h _ x (by rw[List.getElem?_append_right (Nat.le_add_right _ _),Nat.add_sub_cancel_left];exact hj)
theorem Vals.vec(l:List V):Vals (vec l) 0 l:=fun j x hj=>by show(l.getD (0+j) .nilp)=x;rw[zBE,List.getD_eq_getElem?_getD,hj];rfl
def jx:List (Option Nat)->List Nat->List Nat
 | [],s=>s
 | none::r,s=>jx r s
 | some i::r,s=>jx r (i::s)
def Fresh:List (Option Nat)->List Nat->Prop
 | [],_=>True
 | none::r,s=>Fresh r s
 | some i::r,s=>i ∉ s/\Fresh r (i::s)
theorem JD(a b:List (Option Nat))(s:List Nat):jx (a++b) s=jx b (jx a s):=by
 induction a generalizing s with
 | nil=>rfl
 | cons x r ih=>cases x<;>exact ih _
theorem Fresh.app{a b:List (Option Nat)}{s:List Nat}(h:Fresh a s)(k:Fresh b (jx a s)):Fresh (a++b) s:=by
 induction a generalizing s with
 | nil=>exact k
 | cons x r ih=>cases x with
  | none=>exact ih (s:=s) h k
  | some i=>exact⟨h.1,ih h.2 k⟩
theorem Fresh.notin{a:List (Option Nat)}{s:List Nat}(h:Fresh a s){j i:Nat}(hj:a[j]?=some (some i)):i ∉ s:=by
 induction a generalizing s j with
 | nil=>simp at hj
 | cons x r ih=>cases x with
  | none=>cases j with
   | zero=>simp at hj
   | succ j=>exact ih (s:=s) h (by simpa using hj)
  | some a=>cases j with
   | zero=>simp at hj;subst hj;exact h.1
   | succ j=>exact fun hm=>ih h.2 (by simpa using hj) (zP _ hm)
theorem Fresh.inj{a:List (Option Nat)}{s:List Nat}(h:Fresh a s){j k i:Nat}(hj:a[j]?=some (some i))(hk:a[k]?=some (some i)):j=k:=by
 induction a generalizing s j k with
 | nil=>simp at hj
 | cons x r ih=>
  cases j with
  | zero=>cases k with
   | zero=>rfl
   | succ k=>simp at hj;subst hj;exact(Fresh.notin h.2 (by simpa using hk) zBY).elim
  | succ j=>cases k with
   | zero=>simp at hk;subst hk;exact(Fresh.notin h.2 (by simpa using hj) zBY).elim
   | succ k=>
    have hr : ∃ s',Fresh r s':=by cases x with
     | none=>exact⟨s,h⟩
     | some i=>exact⟨_,h.2⟩
    obtain⟨s',hr⟩:=hr;exact congrArg Nat.succ (ih hr (by simpa using hj) (by simpa using hk))
structure zj5(c c':Cx):Prop where
 ρ : ∀ k,k<c'.m->c'.ρ k=c.ρ k
 m:c'.m<=c.m
 rk : ∀ k,k<c'.m->c'.rk k=c.rk k\/c'.rk k=none
 tip:c'.tip=c.tip
def IdsOk(c c':Cx)(ni:Nat)(idl:List (Option Nat)):Prop := ∀ (j:Nat) (o:Option Nat),idl[j]?=some o->c'.τ (ni+j)=o.bind c.τ/\ni+j<c'.ni
theorem IdsOk.app{c c':Cx}{ni:Nat}{a b:List (Option Nat)}(h:IdsOk c c' ni (a++b)):IdsOk c c' ni a/\IdsOk c c' (ni+a.length) b:=by refine⟨fun j x hj=>h j x (by rw[zBP (getElem?_lt hj)];exact hj),fun j x hj => ?_⟩;rw[Nat.add_assoc];exact h _ x (by rw[List.getElem?_append_right (Nat.le_add_right _ _),Nat.add_sub_cancel_left];exact hj)
section
variable {ρ':Type} {r:ρ'}
theorem zso{m:Nat}{kd:Kd}{q:PS}{ids:List Nat}{K:List V->List Nat->Option ρ'}(h:encS m kd q ids K=some r) :
  ∃ l idl,K l (jx idl ids)=some r/\Fresh idl ids /\ ∀ v i ni,Vals v i l->(JJ kd v i ni).2=(i+l.length,ni+idl.length) /\
   ∀ (c c':Cx) (e:D),c'.m=m->RS c q e->zj5 c c'->IdsOk c c' ni idl->RS c' (JJ kd v i ni).1 e:=by
 cases kd with
 | v=>
  simp only[encS]at h;split at h<;>try contradiction
  next x hx=>refine⟨[x],[],h,trivial,fun v i ni hv=>⟨rfl,fun c c' e _ hr _ _ => ?_⟩⟩;have:=hv 0 x rfl;show e.cl0=(v i).toD;rw[show v i=x from this];exact PS.pure_ok hr hx
 | own sz=>
  simp only[encS]at h;split at h<;>try contradiction
  ·next id sz' xs=>
   split at h<;>try contradiction
   next hc=>
    simp only[zG,Bool.not_eq_true']at hc;have hsz:=zJ hc.1;subst hsz;have hid:id ∉ ids:=fun hm=>by rw[znL.2 hm]at hc;simp at hc
    refine⟨[.sl xs],[some id],h,⟨hid,trivial⟩,fun v i ni hv=>⟨rfl,fun c c' e _ hr hcx hio => ?_⟩⟩;have hv0:=hv 0 _ rfl;have hv0:v i = .sl xs:=hv0;obtain⟨g,ds,h1,h2,h3,h4,h5⟩:=hr;obtain⟨h6,h7⟩:=hio 0 (some id) rfl;show RS c' (.own ni sz (v i).elems) e;rw[hv0];refine⟨g,ds,h1,h2,h3,h7,?_⟩;rcases h5 with h5 | ⟨l,h8,h9,h10⟩
    ·exact .inl h5
    ·exact .inr ⟨l,h8,by rw[show ni=ni+0 from rfl,h6];exact h9,by rw[hcx.tip];exact h10⟩
  ·next xs=>
   obtain⟨hs,h⟩:=yq h;refine⟨[.sl xs],[none],h,trivial,fun v i ni hv=>⟨rfl,fun c c' e _ hr hcx hio => ?_⟩⟩;have hv0:v i = .sl xs:=hv 0 _ rfl;obtain⟨ds,h1,h2⟩:=hr;obtain⟨h6,h7⟩:=hio 0 none rfl;show RS c' (.own ni sz (v i).elems) e;rw[hv0];exact⟨.full,ds,h1,h2,hs,h7,.inl rfl⟩
 | ptr k off=>
  simp only[encS]at h;split at h<;>try contradiction
  next k' off'=>
   split at h<;>try contradiction
   next hc=>simp only[zG]at hc;have h1:=zJ hc.1.1;subst h1;have h2:=zJ hc.1.2;subst h2;have h3:k<m:=zT hc.2;refine⟨[],[],h,trivial,fun v i ni hv=>⟨rfl,fun c c' e hm hr hcx hio => ?_⟩⟩;exact⟨by rw[hm];exact h3,by rw[hcx.ρ k (by rw[hm];exact h3)];exact hr.2⟩
 | ref k sz z=>
  simp only[encS]at h;split at h<;>try contradiction
  next k' sz' off n cp z'=>
   split at h<;>try contradiction
   next hc=>
    simp only[zG]at hc;have h1:=zJ hc.1.1.1;subst h1;have h2:=zJ hc.1.1.2;subst h2;have h3:k<m:=zT hc.1.2;have h4:z=z':=by simpa using hc.2
    subst h4;refine⟨[.int .i64 off,.int .i64 n,.int .i64 cp],[],h,trivial,fun v i ni hv=>⟨rfl,fun c c' e hm hr hcx hio => ?_⟩⟩;have hv0:v i = .int .i64 off:=hv 0 _ rfl;have hv1:v (i+1) = .int .i64 n:=hv 1 _ rfl;have hv2:v (i+2) = .int .i64 cp:=hv 2 _ rfl;show RS c' (.ref k sz (WR (v i)) (WR (v (i+1))) (WR (v (i+2))) z) e;rw[hv0,hv1,hv2];have hk:k<c'.m:=by rw[hm];exact h3
    refine⟨hk,hr.2.1,by rw[hcx.ρ k hk];exact hr.2.2.1,fun s n' hs => ?_⟩;rcases hcx.rk k hk with e | e
    ·exact hr.2.2.2 s n' (by rw[<- e];exact hs)
    ·rw[e]at hs;contradiction
 | same=>simp[encS]at h
theorem zsj{m:Nat}{kds:List Kd}{qs:List PS}{ids:List Nat}{K:List V->List Nat->Option ρ'}(h:ziI m kds qs ids K=some r) :
  ∃ l idl,K l (jx idl ids)=some r/\Fresh idl ids /\ ∀ v i ni,Vals v i l->(zj2 v i ni kds).2=(i+l.length,ni+idl.length) /\
   ∀ (c c':Cx) (es:List D),c'.m=m->RSL c qs es->zj5 c c'->IdsOk c c' ni idl->RSL c' (zj2 v i ni kds).1 es:=by
 induction kds generalizing qs ids K with
 | nil=>
  cases qs with
  | cons _ _=>simp[ziI]at h
  | nil=>exact⟨[],[],h,trivial,fun v i ni hv=>⟨rfl,fun c c' es _ hr _ _=>by cases es with | nil=>trivial | cons _ _=>exact hr.elim⟩⟩
 | cons kd rest ih=>
  cases qs with
  | nil=>simp[ziI]at h
  | cons q s=>
   simp only[ziI]at h;obtain⟨l1,idl1,h1,h2,h3⟩:=zso h;obtain⟨l2,idl2,h4,h5,h6⟩:=ih h1;refine⟨l1++l2,idl1++idl2,by rw[JD];exact h4,h2.app h5,fun v i ni hv => ?_⟩;obtain⟨hv1,hv2⟩:=hv.app;obtain⟨h7,h8⟩:=h3 v i ni hv1;obtain⟨h9,h10⟩:=h6 v (i+l1.length) (ni+idl1.length) hv2;simp only[zj2,h7];refine⟨by rw[h9];simp[Nat.add_assoc],fun c c' es hm hr hcx hio => ?_⟩;cases es with
   | nil=>exact hr.elim
   | cons e es=>obtain⟨hi1,hi2⟩:=hio.app;exact⟨h8 c c' e hm hr.1 hcx hi1,h10 c c' es hm hr.2 hcx hi2⟩
def zmE(strict head:Bool)(m:Nat)(p p':PSt)(ni:Nat)(idl:List (Option Nat))(t:Nat)(f:Bool)(d:PD):Prop:=
 (∃ f0 f' d',xb p.tm t=some (f0,d)/\f=(head||f0)/\xb p'.tm t=some (f',d')/\(strict=true->f'=true)/\d'.hasOwn=false) \/
 (f=false /\ ∃ dp,xb p'.tm t=some (false,dp) /\ ∀ (c c':Cx) (e:D),c'.m=m->RP c dp e->zj5 c c'->IdsOk c c' ni idl->RP c' d e)
theorem zys{strict:Bool}{m:Nat}{p':PSt}{sl:List (Nat×Kd)}{ids:List Nat}{K:List V->List Nat->Option ρ'}(h:zjP strict m p' sl ids K=some r) :
  ∃ l idl,K l (jx idl ids)=some r/\Fresh idl ids /\ ∀ head p v i ni,Vals v i l -> ∀ tm i' ni',znW head p v i ni sl=some (tm,i',ni') ->
   i'=i+l.length/\ni'=ni+idl.length /\ ∀ t f d,xb tm t=some (f,d)->zmE strict head m p p' ni idl t f d:=by
 have later : ∀ {strict head:Bool} {m:Nat} {p p':PSt} {ni:Nat} {a b:List (Option Nat)} {t:Nat} {f:Bool} {d:PD},zmE strict head m p p' (ni+a.length) b t f d->zmE strict head m p p' ni (a++b) t f d:=by
  intro strict head m p p' ni a b t f d hh;rcases hh with hh | ⟨h1,dp,h2,h3⟩
  ·exact .inl hh
  ·exact .inr ⟨h1,dp,h2,fun c c' e hm hr hcx hio=>h3 c c' e hm hr hcx hio.app.2⟩
 induction sl generalizing ids K with
 | nil=>refine⟨[],[],h,trivial,fun head p v i ni hv tm i' ni' hd => ?_⟩;simp only[znW,zBB,zBC]at hd;obtain⟨rfl,rfl,rfl⟩:=hd;exact⟨rfl,rfl,fun t f d ht=>by simp[xb]at ht⟩
 | cons a rest ih=>
  obtain⟨t0,kd⟩:=a;simp only[zjP]at h;split at h<;>try contradiction
  next f' d' hF=>
   -- a kind that is encoded
   have other : ∀ {l1:List V} {idl1:List (Option Nat)} {q1:(Nat->V)->Nat->Nat->PS},f'=false->kd ≠ .same ->
     zjP strict m p' rest (jx idl1 ids) (fun l' ids=>K (l1++l') ids)=some r->Fresh idl1 ids ->
     (∀ v i ni,Vals v i l1->(JJ kd v i ni).2=(i+l1.length,ni+idl1.length) /\ ∀ (c c':Cx) (e:D),c'.m=m->RP c d' e->zj5 c c'->IdsOk c c' ni idl1->RP c' (.s (JJ kd v i ni).1) e) ->
     ∃ l idl,K l (jx idl ids)=some r/\Fresh idl ids /\ ∀ head p v i ni,Vals v i l -> ∀ tm i' ni',znW head p v i ni ((t0,kd)::rest)=some (tm,i',ni') ->
      i'=i+l.length/\ni'=ni+idl.length /\ ∀ t f d,xb tm t=some (f,d)->zmE strict head m p p' ni idl t f d:=by
    intro l1 idl1 _ hf hne h1 h2 h3;obtain⟨l2,idl2,h4,h5,h6⟩:=ih h1;refine⟨l1++l2,idl1++idl2,by rw[JD];exact h4,h2.app h5,fun head p v i ni hv tm i' ni' hd => ?_⟩;obtain⟨hv1,hv2⟩:=hv.app;obtain⟨h7,h8⟩:=h3 v i ni hv1;have hd:(match znW head p v (JJ kd v i ni).2.1 (JJ kd v i ni).2.2 rest with | some (l,q)=>some ((t0,false,PD.s (JJ kd v i ni).1)::l,q) | none=>none)=some (tm,i',ni'):=by cases kd<;>first | exact hd | exact(hne rfl).elim
    rw[h7]at hd;split at hd<;>try contradiction
    next tm2 q hq=>
     obtain⟨i2,ni2⟩:=q;obtain⟨h9,h10,h11⟩:=h6 head p v _ _ hv2 tm2 i2 ni2 hq;simp only[zBB,zBC]at hd;obtain⟨rfl,rfl,rfl⟩:=hd;refine⟨by rw[h9];simp[Nat.add_assoc],by rw[h10];simp[Nat.add_assoc],fun t f d ht => ?_⟩;simp only[xb]at ht;split at ht
     ·next hb=>
      have hb:=zJ hb;subst hb;simp only[zBB,zBC]at ht;obtain⟨rfl,rfl⟩:=ht;exact .inr ⟨rfl,d',by rw[hF,hf],fun c c' e hm hr hcx hio=>h8 c c' e hm hr hcx hio.app.1⟩
     ·exact later (h11 t f d ht)
   split at h
   ·split at h<;>try contradiction
    next hc=>
     simp only[zG,zCc,Bool.not_eq_true']at hc;obtain⟨l2,idl2,h4,h5,h6⟩:=ih h;refine⟨l2,idl2,h4,h5,fun head p v i ni hv tm i' ni' hd => ?_⟩;simp only[znW]at hd;split at hd<;>try contradiction
     next f0 d0 hF0=>
      split at hd<;>try contradiction
      next tm2 q hq=>
       obtain⟨i2,ni2⟩:=q;obtain⟨h9,h10,h11⟩:=h6 head p v _ _ hv tm2 i2 ni2 hq;simp only[zBB,zBC]at hd;obtain⟨rfl,rfl,rfl⟩:=hd;refine⟨h9,h10,fun t f d ht => ?_⟩;simp only[xb]at ht;split at ht
       ·next hb=>
        have hb:=zJ hb;subst hb;simp only[zBB,zBC]at ht;obtain⟨rfl,rfl⟩:=ht;refine .inl ⟨f0,f',d',hF0,rfl,hF,fun hs => ?_,hc.2⟩;rcases hc.1 with h12 | h12
        ·rw[hs]at h12;contradiction
        ·exact h12
       ·exact h11 t f d ht
   ·next hne=>
    split at h<;>try contradiction
    next _=>
     split at h
     ·next q=>
      obtain⟨l1,idl1,h1,h2,h3⟩:=zso h;exact other (q1:=fun v i ni=>(JJ kd v i ni).1) rfl (fun e=>hne e) h1 h2 (fun v i ni hv=>⟨(h3 v i ni hv).1,fun c c' e hm hr hcx hio=>(h3 v i ni hv).2 c c' e hm hr hcx hio⟩)
     ·next ps=>
      split at h<;>try contradiction
      split at h<;>try contradiction
      next x hx=>refine other (l1:=[.agg x]) (idl1:=[]) (q1:=fun v i ni=>(JJ .v v i ni).1) rfl (by simp) h trivial (fun v i ni hv=>⟨rfl,fun c c' e hm hr hcx hio => ?_⟩);have hv0:v i = .agg x:=hv 0 _ rfl;show e.cl0=(v i).toD;rw[hv0];obtain⟨ds,rfl,h1,_⟩:=hr;simp only[D.cl0,V.toD,Jy h1 hx]
def znO(strict head:Bool)(m:Nat)(ni:Nat)(idl:List (Option Nat))(r0 r' q:Row):Prop:=
 (q=⟨head||r0.ro,r0.c⟩/\(strict=true->r'.ro=true)/\r'.c.hasOwn=false) \/
 (q.ro=false/\r'.ro=false/\(∀ f s x,q.c = .arr f s x -> ∃ f' x',r'.c = .arr f' s x'/\x'.length=x.length)/\(q.c = .dead\/r'.c ≠ .dead) /\ ∀ (c c':Cx) (o:Ob),c'.m=m->RW c r'.c o->zj5 c c'->IdsOk c c' ni idl->RW c' q.c o)
theorem zyo{a b:Fz}(h:zz3 a b=true):a=b:=by cases a<;>cases b<;>simp_all [zz3]
theorem zxZ{strict:Bool}{m:Nat}{rks:List RK}{rows:List Row}{ids:List Nat}{K:List V->List Nat->Option ρ'}(h:encR strict m rks rows ids K=some r) :
  ∃ l idl,K l (jx idl ids)=some r/\Fresh idl ids /\ ∀ head (rows0:List Row) v i ni,Vals v i l -> ∀ qs i' ni',YS head v i ni rks rows0=some (qs,i',ni') ->
   ni'=ni+idl.length/\qs.length=rows0.length/\qs.length<=rows.length /\ ∀ (k:Nat) (q:Row),qs[k]?=some q -> ∃ r0 r',rows0[k]?=some r0/\rows[k]?=some r'/\znO strict head m ni idl r0 r' q:=by
 have later : ∀ {strict head:Bool} {m:Nat} {ni:Nat} {a b:List (Option Nat)} {r0 r' q:Row},znO strict head m (ni+a.length) b r0 r' q->znO strict head m ni (a++b) r0 r' q:=by
  intro strict head m ni a b r0 r' q hh;rcases hh with hh | ⟨h1,h2,h3,h4,h5⟩
  ·exact .inl hh
  ·exact .inr ⟨h1,h2,h3,h4,fun c c' o hm hr hcx hio=>h5 c c' o hm hr hcx hio.app.2⟩
 induction rks generalizing rows ids K with
 | nil=>
  have h:K [] ids=some r:=by
   cases rows with
   | nil=>exact h
   | cons _ _=>simp only[encR]at h;split at h<;>first | exact h | contradiction
  refine⟨[],[],h,trivial,fun head rows0 v i ni hv qs i' ni' hd => ?_⟩;cases rows0 with
  | cons _ _=>simp[YS]at hd
  | nil=>simp only[YS,zBB,zBC]at hd;obtain⟨rfl,rfl,rfl⟩:=hd;exact⟨rfl,rfl,Nat.zero_le _,fun k q hk=>by simp at hk⟩
 | cons rk rest ih=>
  cases rows with
  | nil=>simp[encR]at h
  | cons rw s=>
   obtain⟨f,c⟩:=rw;simp only[encR]at h
   -- a kind that is encoded
   have other : ∀ {l1:List V} {idl1:List (Option Nat)},f=false ->
     encR strict m rest s (jx idl1 ids) (fun l' ids=>K (l1++l') ids)=some r->Fresh idl1 ids ->
     (∀ v i ni,Vals v i l1 -> ∃ cq:RowC,(∀ head (f0:Bool) (c0:RowC) rows0,YS head v i ni (rk::rest) (⟨f0,c0⟩::rows0)=match YS head v (i+l1.length) (ni+idl1.length) rest rows0 with | some (l,q)=>some (⟨false,cq⟩::l,q) | none=>none) /\
      (∀ f s x,cq = .arr f s x -> ∃ f' x',c = .arr f' s x'/\x'.length=x.length)/\(cq = .dead\/c ≠ .dead) /\ ∀ (cx c':Cx) (o:Ob),c'.m=m->RW cx c o->zj5 cx c'->IdsOk cx c' ni idl1->RW c' cq o) ->
     ∃ l idl,K l (jx idl ids)=some r/\Fresh idl ids /\ ∀ head (rows0:List Row) v i ni,Vals v i l -> ∀ qs i' ni',YS head v i ni (rk::rest) rows0=some (qs,i',ni') ->
      ni'=ni+idl.length/\qs.length=rows0.length/\qs.length<=(⟨f,c⟩::s).length /\ ∀ (k:Nat) (q:Row),qs[k]?=some q -> ∃ r0 r',rows0[k]?=some r0/\((⟨f,c⟩:Row)::s)[k]?=some r'/\znO strict head m ni idl r0 r' q:=by
    intro l1 idl1 hf h1 h2 h3;obtain⟨l2,idl2,h4,h5,h6⟩:=ih h1;refine⟨l1++l2,idl1++idl2,by rw[JD];exact h4,h2.app h5,fun head rows0 v i ni hv qs i' ni' hd => ?_⟩;obtain⟨hv1,hv2⟩:=hv.app;obtain⟨cq,h7,h8,h8',h9⟩:=h3 v i ni hv1;cases rows0 with
    | nil=>simp[YS]at hd
    | cons r0 rows0=>
     obtain⟨f0,c0⟩:=r0;rw[h7]at hd;split at hd<;>try contradiction
     next qs2 q2 hq=>
      obtain⟨i2,ni2⟩:=q2;obtain⟨h10,h11,h12,h13⟩:=h6 head rows0 v _ _ hv2 qs2 i2 ni2 hq;simp only[zBB,zBC]at hd;obtain⟨rfl,rfl,rfl⟩:=hd;refine⟨by rw[h10];simp[Nat.add_assoc],by simp[h11],by simp;exact h12,fun k q hk => ?_⟩;cases k with
      | zero=>simp at hk;subst hk;exact⟨⟨f0,c0⟩,⟨f,c⟩,by simp,by simp,.inr ⟨rfl,hf,h8,h8',fun cx c' o hm hr hcx hio=>h9 cx c' o hm hr hcx hio.app.1⟩⟩
      | succ k=>obtain⟨r0,r',h14,h15,h16⟩:=h13 k q (by simpa using hk);exact⟨r0,r',by simpa using h14,by simpa using h15,later h16⟩
   split at h
   ·-- untouched
    split at h<;>try contradiction
    next hc=>
     simp only[zG,zCc,Bool.not_eq_true']at hc;obtain⟨l2,idl2,h4,h5,h6⟩:=ih h;refine⟨l2,idl2,h4,h5,fun head rows0 v i ni hv qs i' ni' hd => ?_⟩;cases rows0 with
     | nil=>simp[YS]at hd
     | cons r0 rows0=>
      obtain⟨f0,c0⟩:=r0;simp only[YS]at hd;split at hd<;>try contradiction
      next qs2 q2 hq=>
       obtain⟨i2,ni2⟩:=q2;obtain⟨h10,h11,h12,h13⟩:=h6 head rows0 v _ _ hv qs2 i2 ni2 hq;simp only[zBB,zBC]at hd;obtain⟨rfl,rfl,rfl⟩:=hd;refine⟨h10,by simp[h11],by simp;exact h12,fun k q hk => ?_⟩;cases k with
       | zero=>
        simp at hk;subst hk;refine⟨⟨f0,c0⟩,⟨f,c⟩,by simp,by simp,.inl ⟨rfl,fun hs => ?_,hc.2⟩⟩;rcases hc.1 with h14 | h14
        ·rw[hs]at h14;contradiction
        ·exact h14
       | succ k=>obtain⟨r0,r',h14,h15,h16⟩:=h13 k q (by simpa using hk);exact⟨r0,r',by simpa using h14,by simpa using h15,h16⟩
   ·-- dead
    split at h<;>try contradiction
    next _=>refine other (l1:=[]) (idl1:=[]) rfl h trivial (fun v i ni hv=>⟨.dead,fun head f0 c0 rows0=>rfl,fun f s x e=>by contradiction,.inl rfl,fun _ _ _ _ _ _ _=>trivial⟩)
   ·-- a box
    next n=>
    split at h<;>try contradiction
    next _=>
     split at h<;>try contradiction
     ·next n' x=>
      split at h<;>try contradiction
      next hn=>have hn:=zJ hn;subst hn;refine other (l1:=[x]) (idl1:=[]) rfl h trivial (fun v i ni hv=>⟨.box n (v i),fun head f0 c0 rows0=>rfl,fun f s x e=>by contradiction,.inr (by simp),fun cx c' o _ hr _ _ => ?_⟩);have hv0:v i=x:=hv 0 _ rfl;rw[hv0];exact hr
     ·next ps=>
      split at h<;>try contradiction
      next hn=>
       simp only[zG]at hn;have hn1:=zJ hn.1;split at h<;>try contradiction
       next l hl=>refine other (l1:=[.agg l]) (idl1:=[]) rfl h trivial (fun v i ni hv=>⟨.box n (v i),fun head f0 c0 rows0=>rfl,fun f s x e=>by contradiction,.inr (by simp),fun cx c' o _ hr _ _ => ?_⟩);have hv0:v i = .agg l:=hv 0 _ rfl;rw[hv0];obtain⟨ds,rfl,h1,h2⟩:=hr;have h3:=Jy h1 hl;exact⟨ds,rfl,h3,Vb (by show l.length=n;rw[hn1,WI h1,XK h3]) (zbu h3 h2)⟩
   ·-- cells
    next kds=>
    split at h<;>try contradiction
    next _=>
     split at h<;>try contradiction
     ·next ps=>
      obtain⟨l1,idl1,h1,h2,h3⟩:=zsj h;refine other rfl h1 h2 (fun v i ni hv=>⟨.cells (zj2 v i ni kds).1,fun head f0 c0 rows0 => ?_,fun f s x e=>by contradiction,.inr (by simp),fun cx c' o hm hr hcx hio => ?_⟩)
      ·have h7:=(h3 v i ni hv).1;simp only[YS];rw[h7];cases YS head v (i+l1.length) (ni+idl1.length) rest rows0<;>rfl
      ·obtain⟨ds,rfl,h4,h5⟩:=hr;exact⟨ds,rfl,(h3 v i ni hv).2 cx c' ds hm h4 hcx hio,h5⟩
     ·next n x=>
      have hh : ∃ ps,(okN n x=true->ps=x.parts.map .v)/\ziI m kds ps ids (fun l ids=>encR strict m rest s ids fun l' ids=>K (l++l') ids)=some r:=by
       by_cases hx:okN n x=true
       ·exact⟨_,fun _=>rfl,WU hx h⟩
       ·rcases zck h with⟨_,h2⟩ | ⟨_,h2⟩
        ·exact⟨_,fun h=>(hx h).elim,h2⟩
        ·exact⟨_,fun h=>(hx h).elim,h2⟩
      obtain⟨ps,hps,h⟩:=hh;obtain⟨l1,idl1,h1,h2,h3⟩:=zsj h;refine other rfl h1 h2 (fun v i ni hv=>⟨.cells (zj2 v i ni kds).1,fun head f0 c0 rows0 => ?_,fun f s x e=>by contradiction,.inr (by simp),fun cx c' o hm hr hcx hio => ?_⟩)
      ·have h7:=(h3 v i ni hv).1;simp only[YS];rw[h7];cases YS head v (i+l1.length) (ni+idl1.length) rest rows0<;>rfl
      ·obtain⟨ds,rfl,h4,h5⟩:=hr;have h6:=zsA (c:=cx) h4;rw[<- hps h5]at h6;exact⟨ds,rfl,(h3 v i ni hv).2 cx c' ds hm h6 hcx hio,v8 h4 (wB h5)⟩
   ·-- elements
    next fz sz=>
    split at h<;>try contradiction
    next _=>
     split at h<;>try contradiction
     next fz' sz' xs=>
      split at h<;>try contradiction
      next hc=>
       simp only[zG]at hc;have h1:=zJ hc.1;subst h1;have h2:=zyo hc.2;subst h2;refine other (l1:=[.sl xs]) (idl1:=[]) rfl h trivial (fun v i ni hv => ?_);have hv0:v i = .sl xs:=hv 0 _ rfl;refine⟨.arr fz sz (v i).elems,fun head f0 c0 rows0=>rfl,fun f s x e => ?_,.inr (by simp),fun cx c' o _ hr _ _ => ?_⟩
       ·simp only[RowC.arr.injEq]at e;obtain⟨rfl,rfl,rfl⟩:=e;exact⟨fz,xs,rfl,by rw[hv0];rfl⟩
       ·rw[hv0];exact hr
   ·-- a text that is gone through
    split at h<;>try contradiction
    next _=>
     split at h<;>try contradiction
     next x n=>refine other (l1:=[.str x,.int .i64 (n:Int)]) (idl1:=[]) rfl h trivial (fun v i ni hv => ?_);have hv0:v i = .str x:=hv 0 _ rfl;have hv1:v (i+1) = .int .i64 (n:Int):=hv 1 _ rfl;refine⟨.iter (ziq (v i)) (WR (v (i+1))),fun head f0 c0 rows0=>rfl,fun f s x e=>by contradiction,.inr (by simp),fun cx c' o _ hr _ _ => ?_⟩;rw[hv0,hv1,show WR (.int .i64 (n:Int))=n by simp[WR]];exact hr
   ·-- a builder
    split at h<;>try contradiction
    next _=>
     split at h<;>try contradiction
     next t' e' x=>
      split at h<;>try contradiction
      next hc=>simp only[zG]at hc;have h1:=zJ hc.1;subst h1;have h2:=zJ hc.2;subst h2;refine other (l1:=[.str x]) (idl1:=[]) rfl h trivial (fun v i ni hv => ?_);have hv0:v i = .str x:=hv 0 _ rfl;refine⟨.bld _ _ (ziq (v i)),fun head f0 c0 rows0=>rfl,fun f s x e=>by contradiction,.inr (by simp),fun cx c' o _ hr _ _ => ?_⟩;rw[hv0];exact hr
end
end
end Go.Ev
