/- What functions compute, put together. -/
import Derived.Test.YtnefgdahdccldaaGreatDoorKSD
import Derived.Test.YtnefgdahdccldaaGreatDoorKSB
import Derived.Test.YtnefgdahdccldaaGreatDoorKSC
set_option linter.all false
open Option renaming bind_eq_some_iff->zA,map_eq_some_iff->zB,map_some->zC,bind_some->zD
open Bool renaming false_eq_true->zF,and_eq_true->zG,not_true->zH,not_false->zI,true_eq_false->zX
open List renaming getElem?_eq_getElem->zL,getElem?_cons_zero->zM,getElem?_cons_succ->zN,drop_eq_getElem_cons->zO,mem_cons_of_mem->zP,drop_eq_nil_of_le->zQ,mem_cons->zS,drop_zero->zU,take_of_length_le->zV,length_append->zZ
open Nat renaming le_refl->zR
namespace Go.Ev
abbrev vV:=And.intro @zm @wB
end Go.Ev
namespace Go.Ev
abbrev qR:=And.intro @z5 @v8
end Go.Ev
namespace Go.Ev
abbrev xG:=And.intro @if_true.{1} (And.intro @zCn (And.intro @zp @zj))
end Go.Ev
namespace Go.Ev
abbrev yB:=And.intro @zm (And.intro @wB (And.intro @ze (And.intro @if_false.{1} @zF)))
end Go.Ev
namespace Go.Ev
section
attribute [local irreducible] P0
def zgS(l:List OpR):List V:=l.map OpR.val
theorem YR(l:List OpR):(zgS l).length=l.length:=List.length_map ..
theorem zdD(l:List OpR)(i:Nat):(zgS l)[i]?=(l[i]?).map OpR.val:=zCK ..
theorem vS(o:OpR):okN 11 o.val=true:=rfl
theorem zyb(l:List OpR):yn 11 (zgS l)=true:=by
 induction l with
 | nil=>rfl
 | cons o r ih=>show yn 11 (o.val::zgS r)=true;rw[yY];exact⟨vS o,ih⟩
theorem zcI(l:List OpR):yu 11 (.sl (zgS l))=some (zgS l):=by unfold yu;simp only[zyb]
theorem zbC(o:OpR):XD o.val 3 8=o.value.val:=by rw[Tree.val_eq];rfl
theorem Ww(o:OpR):zc o.val 0=some (.int .i64 o.op):=rfl
theorem X1(o:OpR):zc o.val 1=some (.sl (strs o.path)):=rfl
theorem zcU(o:OpR):zc o.val 2=some (.sl (strs o.from')):=rfl
theorem zwl(x b:V):P0 qK [.p 0 0,.p 1 0,.v .nili] [(false,8,x),(false,1,b)]=some (.tup [],[x,b]):=by rw[zcW];unfold KB;rfl
theorem zuY(x b:V):P0 qK [.p 0 0,.p 1 0,.v (.iface zgm (.agg []))] [(false,8,x),(false,1,b)]=some (.tup [],[.agg [.int .i64 0,.bool false,.bool false,.sl [],.int .i64 0,.str [],.sl [],.sl []],.bool false]):=by rw[zcW];unfold KB;rfl
theorem zes:Tree.zero.val = .agg [.int .i64 0,.bool false,.bool false,.sl [],.int .i64 0,.str [],.sl [],.sl []]:=by rw[Tree.val_eq];rfl
theorem zrN(t:Tree)(o:OpR)(r:Option Tree)(h:P0 wr [.v t.val,.v o.val] []=some (wj r,[])) :
  P0 yz [.v t.val,.v o.val] []=some (.tup [(r.getD Tree.zero).val,.bool r.isSome],[]):=by
 rw[zsb];unfold zl7;cases r with
 | some x=>simp only[vV,zj,vS,zp,h,wj,zl,zM,zN,ze,zCl,zwl,Option.getD_some,zCJ]
 | none=>simp only[yB,zj,vS,zp,h,wj,qJ,zl,zM,zN,zuY,Option.getD_none,Option.isSome_none,zes]
theorem zq3(t:Tree)(o:OpR)(h:Sz t)(ho:o.op=1)(hp:o.path.length<=1000000):P0 wr [.v t.val,.v o.val] []=some (wj (vj t o),[]):=by
 have e:vj t o=Xz t o.path o.value:=zCk ho;rw[e,k9];unfold kQ;have ha:=zof t o.path o.value h hp;cases hx:Xz t o.path o.value with
 | none=>rw[hx]at ha;simp only[xG,yB,vS,Ww,X1,ho,zv,zbC,ha,wj,qJ,zl,zM,zN]
 | some x=>rw[hx]at ha;simp only[vV,xG,vS,Ww,X1,ho,zv,ze,zbC,ha,wj,zl,zM,zN]
theorem zqx{t v r:Tree}{p:List Str}(ht:OrdT t)(hv:OrdT v)(h:Xz t p v=some r):OrdT r/\yb r<=yb t+yb v:=by
 unfold Xz at h;split at h
 ·injection h with h;subst h;exact⟨hv,by omega⟩
 ·rw[zA]at h;obtain⟨x,hx,h⟩:=h;have hxo:=(Qp _ hx ht).1;split at h
  ·next hk=>
   have ho:OrdT (obj (we (yN p) v (al x))):=zde (Vg hxo.al_srt) (fun q hq=>by
    rcases znm hq with rfl | hq
    ·exact hv
    ·exact hxo.al_ord q hq)
   have w:=zwR (n:=yN p) (v:=v) hxo.al_srt;have hw:yb x=1+wA (al x):=by rw[<- Yv,<- hxo.obj hk]
   obtain⟨u,h5,h6,h7⟩:=zd3 _ ht ho hx;rw[h5]at h;injection h with h;subst h;rw[Yv]at h7;exact⟨h6,by omega⟩
  ·split at h
   ·next hk=>
    rw[zA]at h;obtain⟨i,hi,h⟩:=h;have ho:OrdT (arr (x.v.take i++v::x.v.drop i)):=znY (fun z hz=>by
     rcases List.mem_append.1 hz with hz | hz
     ·exact hxo.sub z (List.mem_of_mem_take hz)
     ·rcases List.mem_cons.1 hz with rfl | hz
      ·exact hv
      ·exact hxo.sub z (List.mem_of_mem_drop hz))
    obtain⟨u,h5,h6,h7⟩:=zd3 _ ht ho hx;rw[h5]at h;injection h with h;subst h;have e1:=Vx x.v i;have e2:=wu x;have:=zbx x;rw[zjl,J0,weightL]at h7;exact⟨h6,by omega⟩
   ·contradiction
theorem zsY : ∀ t,yb t<=1000000->P0 Z8 [.v t.val] []=some (.bool (zpF t),[]):=by
 intro t;induction t using Tree.ind with
 | h t ih=>
 intro hw;rw[wu]at hw;have hl:=Vi t.v;rw[zr5,zz9];unfold zle;have hg : ∀ x,x∈t.v->P0 jO [.v x.val] []=some (.bool (!zpF x),[]):=by intro x hx;rw[znM];unfold zfX;simp only[vV,zj,zp,ih x hx (by have:=Je hx;omega),yE]
 have hc:=zx7 jO rfl _ t.v hg (by omega);rw[zxM];by_cases h:t.v.length<=300
 ·have c1:((t.v.length:Nat):Int)<=300:=by omega
  simp only[vV,xG,xw,zb,zh,c1,hc,yE,h,Bool.true_and]
 ·have c1 : ¬ ((t.v.length:Nat):Int)<=300:=by omega
  simp only[vV,zj,zp,xw,zb,zh,c1,zCo,zF,zCm,h,Bool.false_and]
theorem zwC(t:Tree)(w:Int)(h:yb t<=1000000):P0 Yl [.v t.val,.v (.int .i64 w)] []=some (.bool (zrM t w),[]):=by
 have hn:=zny t;rw[zoF];unfold zhg zrM;by_cases c1:(yb t:Int)<=w
 ·by_cases c2:(vk t:Int)<=2000
  ·by_cases c3:(depth t:Int)<=64
   ·simp only[vV,xG,QC t (by omega),zeR t (by omega),zmk t (by omega),zsY t h,VY,c1,c2,c3,ze,Bool.true_and]
   ·simp only[xG,yB,QC t (by omega),zeR t (by omega),zmk t (by omega),zsY t h,VY,c1,c2,c3,zCo,Bool.true_and,Bool.and_false,Bool.false_and]
  ·simp only[xG,yB,QC t (by omega),zeR t (by omega),VY,c1,c2,zCo,Bool.true_and,Bool.and_false,Bool.false_and]
 ·simp only[yB,zj,zp,QC t (by omega),VY,c1,zCo,Bool.and_false,Bool.false_and]
theorem zvt(l:List OpR)(hl:l.length<=1000000)(hg : ∀ o,o∈l->P0 jn [.v o.val] []=some (.bool true,[]))(m:Nat) : ∀ i,i+m=l.length ->
  zq (yW l.length (.sl (zgS l)) wD) (vec [.int .i64 (i:Int)])=some (0,vec []):=by
 have hb:Nat.blt wD vo=true:=rfl;induction m with
 | zero=>
  intro i hi;apply zg;unfold yW;have c1 : ¬ (i:Int)<(l.length:Int):=by omega
  simp only[qR,yB,c1,zCo]
 | succ m ih=>
  intro i hi;have h1:i<l.length:=by omega
  have c1:(i:Int)<(l.length:Int):=by omega
  have hx:l[i]?=some l[i]:=zL h1;have hgx:=hg l[i] (zCW _);have hc:P0 wD [.v (l[i]).val] []=some (.bool false,[]):=by rw[ziP];unfold zbr;simp only[vV,vS,zp,hgx,yE,zH]
  rw[<- ih (i+1) (by omega)];apply zn;unfold yW;simp only[qR,yB,c1,zCn,zCl,zcI,YR,zf _ i l.length h1,zdD,hx,zC,hb,zp,hc,yU,yI (i:=i) (by omega)]
theorem zmm(l:List OpR)(hl:l.length<=60)(hg : ∀ o,o∈l->P0 jn [.v o.val] []=some (.bool true,[])):P0 Zh [.v (.sl (zgS l))] []=some (.bool true,[]):=by
 have h:=zvt l (by omega) hg l.length 0 (by omega);rw[show((0:Nat):Int)=0 from rfl]at h;have c:((l.length:Nat):Int)<=60:=by omega
 have c2 : ¬ (0:Int) <= -1:=by decide
 have h2:P0 z8 [.v (.sl (zgS l)),.fn wD []] []=some (.bool false,[]):=by rw[j6];unfold wV;rw[kS];unfold vP;simp only[vV,zb,YR,h,zCl,jI,c2,zCo]
 rw[znl];unfold zfr;simp only[vV,zb,YR,c,zCn,zCl,h2,yE,zI]
noncomputable def zdE(w:Int):Tree->List OpR->Nat->Tree ⊕ (Nat×Int)
 | t,[],_ => .inl t
 | t,o::r,i=>match vj t o with
  | none => .inr (i,5)
  | some x=>if zrM x w=true then zdE w x r (i+1)else .inr (i,4)
def zxt:Tree ⊕ (Nat×Int)->V
 | .inl t => .tup [t.val,.int .i64 (-1),.int .i64 0]
 | .inr (i,c) => .tup [Tree.zero.val,.int .i64 (i:Int),.int .i64 c]
structure zAx(l:List OpR):Prop where
 does : ∀ o,o∈l -> ∀ t,Sz t->P0 wr [.v t.val,.v o.val] []=some (wj (vj t o),[])
 ord : ∀ o,o∈l -> ∀ t r,Sz t->vj t o=some r->OrdT r/\yb r<=1000000
theorem zAt{t:Tree}{w:Int}(h:zrM t w=true):(yb t:Int)<=w:=by unfold zrM at h;simp only[zG,zCR]at h;exact h.1.1.1
theorem zvr(l:List OpR)(hl:l.length<=1000000)(w:Int)(hw:w<=900000)(hd:zAx l)(m:Nat) : ∀ i t,Sz t->i+m=l.length ->
  ∃ o,zq (jh l.length (.sl (zgS l)) (.int .i64 w)) (vec [.int .i64 (i:Int),t.val,.int .i64 0,.bool false,.bool false,.sl [],.int .i64 0,.str [],.sl [],.sl []])=some o /\
  (
    match zdE w t (l.drop i) i with
    | .inl u=>o.1=0/\o.2 0=u.val
    | .inr (j,c)=>o.1=1/\o.2 0 = .int .i64 (j:Int)/\o.2 1 = .int .i64 c/\o.2 3 = .int .i64 0/\o.2 4 = .bool false/\o.2 5 = .bool false/\o.2 6 = .sl []/\o.2 7 = .int .i64 0/\o.2 8 = .str []/\o.2 9 = .sl []/\o.2 10 = .sl []):=by
 induction m with
 | zero=>
  intro i t ht hi;have e:l.drop i=[]:=zQ (by omega);have c1 : ¬ (i:Int)<(l.length:Int):=by omega
  rw[e,zdE];refine⟨(0,vec [t.val,.agg [.int .i64 0,.bool false,.bool false,.sl [],.int .i64 0,.str [],.sl [],.sl []]]),zg ?_,?_⟩
  ·unfold jh;simp only[qR,yB,zr,c1,zCo]
  ·exact⟨rfl,rfl⟩
 | succ m ih=>
  intro i t ht hi;have h1:i<l.length:=by omega
  have c1:(i:Int)<(l.length:Int):=by omega
  have hx:l[i]?=some l[i]:=zL h1;have hdx:=zrN _ _ _ (hd.does l[i] (zCW _) t ht);have hox:=hd.ord l[i] (zCW _) t;rw[zO h1,zdE];generalize l[i]=o at *;cases hq:vj t o with
  | none=>
   rw[hq]at hdx;refine⟨(1,vec [.int .i64 (i:Int),.int .i64 5,t.val,.int .i64 0,.bool false,.bool false,.sl [],.int .i64 0,.str [],.sl [],.sl []]),zg ?_,?_⟩
   ·unfold jh;simp only[vV,qR,xG,zr,c1,ze,zcI,YR,zf _ i l.length h1,zdD,hx,zC,vS,hdx,zl,zM,zN,Option.isSome_none,yE,zI]
   ·exact⟨rfl,rfl,rfl,rfl,rfl,rfl,rfl,rfl,rfl,rfl,rfl⟩
  | some x=>
   obtain⟨ho1,ho2⟩:=hox x ht hq;have hf:=zwC x w ho2;rw[hq]at hdx;dsimp only;cases hb:zrM x w with
   | false=>
    rw[hb]at hf;simp only[zF,zCm];refine⟨(1,vec [.int .i64 (i:Int),.int .i64 4,t.val,.int .i64 0,.bool false,.bool false,.sl [],.int .i64 0,.str [],.sl [],.sl []]),zg ?_,?_⟩
    ·unfold jh;simp only[qR,xG,yB,zr,c1,zcI,YR,zf _ i l.length h1,zdD,hx,zC,vS,hdx,zl,zM,zN,Option.getD_some,zCJ,yE,zH,hf,zI]
    ·exact⟨rfl,rfl,rfl,rfl,rfl,rfl,rfl,rfl,rfl,rfl,rfl⟩
   | true=>rw[hb]at hf;simp only[zCl];have hw2:=zAt hb;obtain⟨q,h2,h3⟩:=ih (i+1) x ⟨ho1,by omega⟩ (by omega);refine⟨q,?_,h3⟩;rw[<- h2];apply zn;unfold jh;simp only[qR,xG,yB,zr,c1,zcI,YR,zf _ i l.length h1,zdD,hx,zC,vS,hdx,zl,zM,zN,Option.getD_some,zCJ,yE,zH,hf,yU,yI (i:=i) (by omega)]
theorem zxK(t:Tree)(l:List OpR)(w:Int)(hw:w<=900000)(ht:Sz t)(hc:P0 wC [.v t.val] []=some (.bool true,[]))(hl:l.length<=60)(hg : ∀ o,o∈l->P0 jn [.v o.val] []=some (.bool true,[]))(hd:zAx l) :
  P0 jN [.v t.val,.v (.sl (zgS l)),.v (.int .i64 w)] []=some (zxt (zdE w t l 0),[]):=by
 obtain⟨o,h1,h2⟩:=zvr l (by omega) w hw hd l.length 0 t ht (by omega);rw[zU]at h2;rw[show((0:Nat):Int)=0 from rfl]at h1;rw[zne];unfold zgb;cases hq:zdE w t l 0 with
 | inl u=>rw[hq]at h2;obtain⟨e1,e2⟩:=h2;simp only[yB,zj,zp,hc,yE,zH,zCl,zmm l hl hg,zb,YR,h1,e1,e2,zxt]
 | inr p=>obtain⟨j,c⟩:=p;rw[hq]at h2;obtain⟨e1,e2,e3,f3,f4,f5,f6,f7,f8,f9,f10⟩:=h2;simp only[yB,zj,zp,hc,yE,zH,zCl,zmm l hl hg,zb,YR,h1,e1,e2,e3,f3,f4,f5,f6,f7,f8,f9,f10,zxt,zCC,zes]
end
section
attribute [local irreducible] P0
theorem ztT(f:Nat)(hb:Nat.blt f vo=true)(l:List Str)(hl:l.length<=1000000)(hg : ∀ o,o∈l->P0 f [.v (.str o)] []=some (.bool false,[]))(m:Nat) : ∀ i,i+m=l.length ->
  zq (xB l.length (.sl (strs l)) f) (vec [.int .i64 (i:Int)])=some (0,vec []):=by
 induction m with
 | zero=>
  intro i hi;apply zg;unfold xB;have c1 : ¬ (i:Int)<(l.length:Int):=by omega
  simp only[qR,yB,c1,zCo]
 | succ m ih=>
  intro i hi;have h1:i<l.length:=by omega
  have c1:(i:Int)<(l.length:Int):=by omega
  have hx:l[i]?=some l[i]:=zL h1;have hgx:=hg l[i] (zCW _);rw[<- ih (i+1) (by omega)];apply zn;unfold xB;simp only[qR,yB,c1,zCn,zCl,zy,zd,zf _ i l.length h1,yk,hx,zC,yd,hb,zp,hgx,yU,yI (i:=i) (by omega)]
theorem zwD(l:List Str)(hl:l.length<=63)(hg : ∀ s,s∈l->s.length<=2000/\zoV s=true):P0 jS [.v (.sl (strs l))] []=some (.bool true,[]):=by
 have hf : ∀ s,s∈l->P0 qk [.v (.str s)] []=some (.bool false,[]):=by
  intro s hs;obtain⟨h1,h2⟩:=hg s hs;have c : ¬ ((s.length:Nat):Int)>2000:=by omega
  rw[zkX];unfold zc0;simp only[vV,vr,c,zCo,zCl,zlw s (by omega),h2,yE,zH]
 have h:=ztT qk rfl l (by omega) hf l.length 0 (by omega);rw[show((0:Nat):Int)=0 from rfl]at h;have c:((l.length:Nat):Int)<=63:=by omega
 have c2 : ¬ (0:Int) <= -1:=by decide
 have h2:P0 yO [.v (.sl (strs l)),.fn qk []] []=some (.bool false,[]):=by rw[YO];unfold qY;rw[Xc];unfold jA;simp only[vV,zb,zd,h,zCl,jI,c2,zCo]
 rw[zoJ];unfold zjD;simp only[vV,zb,zd,c,zCn,zCl,h2,yE,zI]
theorem zyp(t:Tree)(h:t.kind≠0):P0 Ym [.v t.val] []=some (.bool false,[]):=by rw[zoB];unfold ziY;simp only[yB,zj,zp,xk,zv,h,zCo]
theorem zy0(o:OpR)(ho:o.op=1)(hf:o.from'=[])(hk:o.value.kind≠0)(hv:P0 wC [.v o.value.val] []=some (.bool true,[]))(hp:P0 jS [.v (.sl (strs o.path))] []=some (.bool true,[])):P0 jn [.v o.val] []=some (.bool true,[]):=by
 have e0:(((0:Nat):Int)==0)=true:=rfl;have e4 : ¬ ((1:Int)=4):=by decide
 have e5 : ¬ ((1:Int)=5):=by decide
 rw[zsC];unfold zlB;simp only[yB,vS,zp,Ww,X1,zcU,hf,zb,zd,zCx,e0,zbC,zyp _ hk,ho,zv,e4,e5,zCo,zCn,zCl,z5,hv,zr,hp,Nat.reduceSub,Nat.reduceEqDiff,zCC]
end
section
attribute [local irreducible] P0
def f2:Tree := .mk 2 false .zero [] [] []
def WV:AL:=[([97],arr [null])]
def zpb:AL:=[([97],arr [null,f2])]
def awQ15:OpR:=⟨1,[[97],[45]],[],f2⟩
theorem zAS:OkT (obj WV):=by refine .obj WV ⟨by simp[WV],trivial⟩ (by decide) (by decide) (fun q hq => ?_);simp only[WV,List.mem_singleton]at hq;subst hq;refine .arr [null] (by decide) (fun x hx => ?_);rw[List.mem_singleton.1 hx];exact .null
theorem zA6:Sz (obj WV):=by have e0:OrdT null := .mk _ (fun h=>by simp[null,Tree.kind]at h) (by rw[Wm (by simp[null,Tree.kind])];trivial) (fun x hx=>by simp[null,Tree.n,Nm.zero]at hx) (by simp[null,Tree.n,Nm.zero]) (by simp[null,Tree.k]) (fun x hx=>by simp[null,Tree.v]at hx);refine⟨zde ⟨by simp[WV],trivial⟩ (fun q hq => ?_),by decide⟩;simp only[WV,List.mem_singleton]at hq;subst hq;exact znY (fun x hx=>by rw[List.mem_singleton.1 hx];exact e0)
theorem zAK:OrdT f2 := .mk _ (fun h=>by simp[f2,Tree.kind]at h) (by rw[Wm (by simp[f2,Tree.kind])];trivial) (fun x hx=>by simp[f2,Tree.n,Nm.zero]at hx) (by simp[f2,Tree.n,Nm.zero]) (by simp[f2,Tree.k]) (fun x hx=>by simp[f2,Tree.v]at hx)
theorem zzs:vj (obj WV) awQ15=some (obj zpb):=by
 unfold vj;rw[zCk (show awQ15.op=1 from rfl)];show Xz (obj WV) [[97],[45]] f2=_;unfold Xz;rw[zCj (by simp)];have h1:xr (obj WV) [[97]]=some (arr [null]):=by rfl
 show(xr (obj WV) [[97]]).bind _=_;rw[h1,zD,zCj (by decide),zCk (by decide)];rfl
theorem zAF:zrM (obj zpb) 100=true:=by decide
theorem zBv:zAx [awQ15] where
 does o ho t ht:=by rw[List.mem_singleton.1 ho];exact zq3 t awQ15 ht rfl (by simp[awQ15])
 ord o ho t r ht h:=by
  rw[List.mem_singleton.1 ho]at h;have h:Xz t [[97],[45]] f2=some r:=h;obtain⟨h1,h2⟩:=zqx ht.ord zAK h;have:=ht.w;have:yb f2=1:=by decide
  exact⟨h1,by omega⟩
theorem zAj:P0 jn [.v awQ15.val] []=some (.bool true,[]):=by refine zy0 awQ15 rfl rfl (by simp[awQ15,f2,Tree.kind]) (zpB (.bool false) (by decide) (by decide)) (zwD _ (by simp[awQ15]) (fun s hs => ?_));simp only[awQ15,zS,List.not_mem_nil,or_false]at hs;rcases hs with rfl | rfl<;>exact⟨by decide,ztG (by decide)⟩
theorem zwn:P0 jN [.v (.agg [(.int .i64 7),(.bool false),(.bool false),(.sl []),(.int .i64 0),(.str []),(.sl [(.str [97])]),(.sl [(.agg [(.int .i64 6),(.bool false),(.bool false),(.sl []),(.int .i64 0),(.str []),(.sl []),(.sl [(.agg [(.int .i64 1),(.bool false),(.bool false),(.sl []),(.int .i64 0),(.str []),(.sl []),(.sl [])])])])])]),.v (.sl [(.agg [(.int .i64 1),(.sl [(.str [97]),(.str [45])]),(.sl []),(.int .i64 2),(.bool false),(.bool false),(.sl []),(.int .i64 0),(.str []),(.sl []),(.sl [])])]),.v (.int .i64 100)] [] =
  some (.tup [(obj zpb).val,.int .i64 (-1),.int .i64 0],[]):=by
 have ev:(obj WV).val = .agg [(.int .i64 7),(.bool false),(.bool false),(.sl []),(.int .i64 0),(.str []),(.sl [(.str [97])]),(.sl [(.agg [(.int .i64 6),(.bool false),(.bool false),(.sl []),(.int .i64 0),(.str []),(.sl []),(.sl [(.agg [(.int .i64 1),(.bool false),(.bool false),(.sl []),(.int .i64 0),(.str []),(.sl []),(.sl [])])])])])]:=by rw[Zt];rfl
 have eo:zgS [awQ15]=[(.agg [(.int .i64 1),(.sl [(.str [97]),(.str [45])]),(.sl []),(.int .i64 2),(.bool false),(.bool false),(.sl []),(.int .i64 0),(.str []),(.sl []),(.sl [])])]:=rfl;have ea:zdE 100 (obj WV) [awQ15] 0 = .inl (obj zpb):=by rw[zdE,zzs];dsimp only;rw[zCk zAF,zdE]
 have h:=zxK (obj WV) [awQ15] 100 (by decide) zA6 (zpB zAS (by decide) (by decide)) (by simp) (fun o ho=>by rw[List.mem_singleton.1 ho];exact zAj) zBv;rw[ea,ev,eo]at h;exact h
theorem WW:P0 xH [] []=some (.bool true,[]):=by
 have ev:(obj zpb).val = .agg [(.int .i64 7),(.bool false),(.bool false),(.sl []),(.int .i64 0),(.str []),(.sl [(.str [97])]),(.sl [(.agg [(.int .i64 6),(.bool false),(.bool false),(.sl []),(.int .i64 0),(.str []),(.sl []),(.sl [(.agg [(.int .i64 1),(.bool false),(.bool false),(.sl []),(.int .i64 0),(.str []),(.sl []),(.sl [])]),(.agg [(.int .i64 2),(.bool false),(.bool false),(.sl []),(.int .i64 0),(.str []),(.sl []),(.sl [])])])])])]:=by rw[Zt];rfl
 rw[zjH];unfold zaR;simp only[vV,zwn,ev];rfl
end
section
attribute [local irreducible] P0
theorem zir(t:Tree)(p:List Str)(h:Sz t)(hp:p.length<=1000000):P0 Zl [.v t.val,.v (.sl (strs p))] []=some (wj (zbN t p),[]):=by
 rw[zk0];unfold zdA;unfold zbN;by_cases hn:p=[]
 ·subst hn;have c : ¬ (((0:Nat):Int)>0):=by decide
  rw[zCk rfl];simp only[yB,zj,zp,zb,zd,zCx,c,zCo,wZ,qJ,zl,zM,zN,wj]
 rw[zCj hn];have c:((p.length:Nat):Int)>0:=by have:=List.length_pos_iff.2 hn;omega
 have hup:p.dropLast.length<=1000000:=by rw[List.length_dropLast];omega
 have hg:=zav t p h hp;have hs:=zqN p hn hp;cases hy:xr t p with
 | none=>rw[hy]at hg;simp only[xG,yB,zb,zd,c,wZ,zl,zM,zN,hg,wj,qJ,zCN]
 | some y=>
  rw[hy]at hg;obtain⟨x,hx,hc⟩:=zhm hn hy;have hg2:=zav t p.dropLast h hup;rw[hx]at hg2;have hsz:=h.get hx;rw[hx,zD,zD];by_cases hk:x.kind=7
  ·have e:zgq x (yN p)=obj (Xe (yN p) (al x)):=zCk hk;rw[e];have hu:=zyf x (yN p) (zCA (zhw x) hsz.v);rw[zi3 hk hc]at hu;have hput:=zcv t p.dropLast (obj (Xe (yN p) (al x))) h hup;cases hq:Zm t p.dropLast (obj (Xe (yN p) (al x)))with
   | none=>rw[hq]at hput;simp only[xG,yB,zb,zd,c,wZ,zl,zM,zN,hg,hs,hg2,wj,xk,zv,hk,hu,hput,qJ]
   | some z=>rw[hq]at hput;simp only[vV,xG,zb,zd,c,wZ,zl,zM,zN,ze,hg,hs,hg2,wj,xk,zv,hk,hu,hput]
  ·have hk6:x.kind=6:=(Wt hc).resolve_right hk;obtain⟨i,h1,h2,h3⟩:=VT hk6 hc;have e:zgq x (yN p)=arr (x.v.take i++x.v.drop (i+1)):=by unfold zgq;rw[zCj hk,h1];rfl
   rw[e];have hi:=zg1 (yN p) (x.v.length:Int);rw[ze3 h1 (b:=(x.v.length:Int)) (by omega)]at hi;have hi:P0 xj [.v (.str (yN p)),.v (.int .i64 (x.v.length:Int))] []=some (.tup [.int .i64 (i:Int),.bool true],[]):=hi;have hxl:=hsz.v;have hb1:=KC .i64 (i:Int) x.v.length ⟨by omega,by omega⟩;have hb2:=Wc .i64 ((i+1:Nat):Int) x.v.length ⟨by omega,by omega⟩;rw[zCQ]at hb1 hb2;have hcc:=zlz (x.v.take i) (x.v.drop (i+1)) (by rw[zCy];omega) (by rw[zCz];omega);have hdt:(x.v.drop (i+1)).take (x.v.length-(i+1))=x.v.drop (i+1):=by rw[zV];rw[zCz];exact zR _
   have hput:=zcv t p.dropLast (arr (x.v.take i++x.v.drop (i+1))) h hup;rw[zta]at hput;have k7 : ¬ ((6:Int)=7):=by decide
   cases hq:Zm t p.dropLast (arr (x.v.take i++x.v.drop (i+1)))with
   | none=>rw[hq]at hput;simp only[xG,yB,zb,zd,c,wZ,zl,zM,zN,hg,hs,hg2,wj,xk,zv,hk6,k7,zCo,xw,zh,hi,yP,hb1,yU,yI (i:=i) (by omega),hb2,zU,Nat.sub_zero,Wx,Qb,hdt,hcc,Yb,wy,hput,qJ]
   | some z=>rw[hq]at hput;simp only[xG,yB,zb,zd,c,wZ,zl,zM,zN,hg,hs,hg2,wj,xk,zv,hk6,k7,zCo,xw,zh,hi,yP,hb1,yU,yI (i:=i) (by omega),hb2,zU,Nat.sub_zero,Wx,Qb,hdt,hcc,Yb,wy,hput]
theorem zxN(t:Tree)(a b:List Str)(h:Sz t)(ha:a.length<=1000000)(hb:b.length<=1000000):P0 Qw [.v t.val,.v (.sl (strs a)),.v (.sl (strs b))] []=some (wj (zqL t a b),[]):=by
 rw[zo0];unfold zjq;unfold zqL;have hg:=zav t a h ha;have hq:=seq_ok a b ha;have hst:=zsq a b ha;cases hv:xr t a with
 | none=>rw[hv]at hg;simp only[yB,zj,zp,hg,wj,qJ,zl,zM,zN,zCN]
 | some v=>
  rw[hv]at hg;rw[zD];by_cases hab:a=b
  ·rw[zCk hab];have hd:decide (a=b)=true:=zCp hab;rw[hd]at hq;simp only[vV,zj,zp,hg,wj,zl,zM,zN,ze,zCl,hq]
  rw[zCj hab];have hd:decide (a=b)=false:=zCq hab;rw[hd]at hq;by_cases hn:a=[]
  ·subst hn;have c : ¬ (((0:Nat):Int)>0):=by decide
   rw[zCk (.inl rfl)];simp only[yB,zj,zp,hg,wj,zl,zM,zN,zCl,hq,zb,zd,zCx,c,zCo,wZ,qJ]
  have c:((a.length:Nat):Int)>0:=by have:=List.length_pos_iff.2 hn;omega
  have hst:P0 wm [.v (.sl (strs a)),.v (.sl (strs b))] []=some (.bool (znB a b),[]):=hst;cases hs:znB a b with
  | true=>rw[hs]at hst;rw[zCk (.inr rfl)];simp only[xG,yB,hg,wj,zl,zM,zN,hq,zb,zd,c,hst,yE,zH,wZ,qJ]
  | false=>
   rw[hs]at hst;rw[zCj (fun e=>by rcases e with e | e;exact hn e;cases e)];have hr:=zir t a h ha;cases hx:zbN t a with
   | none=>rw[hx]at hr;simp only[xG,yB,hg,wj,zl,zM,zN,hq,zb,zd,c,hst,yE,zI,wZ,qJ,hr,zCN]
   | some x=>
    rw[hx]at hr;obtain⟨o1,o2⟩:=zxP h.ord hx;have hsx:Sz x:=⟨o1,by have:=h.w;omega⟩
    have had:=zof x b v hsx hb;rw[zD];cases hz:Xz x b v with
    | none=>rw[hz]at had;simp only[xG,yB,hg,wj,zl,zM,zN,hq,zb,zd,c,hst,yE,zI,wZ,qJ,hr,had]
    | some z=>rw[hz]at had;simp only[xG,yB,hg,wj,zl,zM,zN,hq,zb,zd,c,hst,yE,zI,wZ,hr,had]
theorem zwS(t:Tree)(o:OpR)(h:Sz t)(ho:o.op=2)(hp:o.path.length<=1000000):P0 wr [.v t.val,.v o.val] []=some (wj (zbN t o.path),[]):=by
 rw[k9];unfold kQ;have ha:=zir t o.path h hp;have n1 : ¬ ((2:Int)=1):=by decide
 cases hx:zbN t o.path with
 | none=>rw[hx]at ha;simp only[xG,yB,vS,Ww,X1,ho,zv,n1,zCo,ha,wj,qJ,zl,zM,zN]
 | some x=>rw[hx]at ha;simp only[xG,yB,vS,Ww,X1,ho,zv,n1,zCo,ha,wj,zl,zM,zN]
theorem zxC(t:Tree)(o:OpR)(h:Sz t)(ho:o.op=4)(hp:o.path.length<=1000000)(hf:o.from'.length<=1000000):P0 wr [.v t.val,.v o.val] []=some (wj (zqL t o.from' o.path),[]):=by
 rw[k9];unfold kQ;have ha:=zxN t o.from' o.path h hf hp;have n1 : ¬ ((4:Int)=1):=by decide
 have n2 : ¬ ((4:Int)=2):=by decide
 have n3 : ¬ ((4:Int)=3):=by decide
 cases hx:zqL t o.from' o.path with
 | none=>rw[hx]at ha;simp only[xG,yB,vS,Ww,X1,zcU,ho,zv,n1,n2,n3,zCo,ha,wj,qJ,zl,zM,zN]
 | some x=>rw[hx]at ha;simp only[xG,yB,vS,Ww,X1,zcU,ho,zv,n1,n2,n3,zCo,ha,wj,zl,zM,zN]
theorem zx8(t:Tree)(o:OpR)(h:Sz t)(ho:o.op=5)(hp:o.path.length<=1000000)(hf:o.from'.length<=1000000):P0 wr [.v t.val,.v o.val] []=some (wj ((xr t o.from').bind fun v=>Xz t o.path v),[]):=by
 rw[k9];unfold kQ;have hg:=zav t o.from' h hf;have n1 : ¬ ((5:Int)=1):=by decide
 have n2 : ¬ ((5:Int)=2):=by decide
 have n3 : ¬ ((5:Int)=3):=by decide
 have n4 : ¬ ((5:Int)=4):=by decide
 cases hx:xr t o.from' with
 | none=>rw[hx]at hg;simp only[xG,yB,vS,Ww,X1,zcU,ho,zv,n1,n2,n3,n4,zCo,hg,wj,qJ,zl,zM,zN,zCN]
 | some v=>
  rw[hx]at hg;have ha:=zof t o.path v h hp;rw[zD];cases hq:Xz t o.path v with
  | none=>rw[hq]at ha;simp only[xG,yB,vS,Ww,X1,zcU,ho,zv,n1,n2,n3,n4,zCo,hg,ha,wj,qJ,zl,zM,zN]
  | some x=>rw[hq]at ha;simp only[xG,yB,vS,Ww,X1,zcU,ho,zv,n1,n2,n3,n4,zCo,hg,ha,wj,zl,zM,zN]
end
section
attribute [local irreducible] P0
theorem zyi(t:Tree)(o:OpR)(h:Sz t)(ho:o.op=3)(hp:o.path.length<=1000000):P0 wr [.v t.val,.v o.val] []=some (wj (Zm t o.path o.value),[]):=by
 rw[k9];unfold kQ;have ha:=zcv t o.path o.value h hp;have n1 : ¬ ((3:Int)=1):=by decide
 have n2 : ¬ ((3:Int)=2):=by decide
 cases hx:Zm t o.path o.value with
 | none=>rw[hx]at ha;simp only[xG,yB,vS,Ww,X1,ho,zv,n1,n2,zCo,zbC,ha,wj,qJ,zl,zM,zN]
 | some x=>rw[hx]at ha;simp only[xG,yB,vS,Ww,X1,ho,zv,n1,n2,zCo,zbC,ha,wj,zl,zM,zN]
theorem zwZ(t:Tree)(o:OpR)(h:Sz t)(ho:o.op=6)(hp:o.path.length<=1000000)
  (hs : ∀ x,xr t o.path=some x -> ∃ r,P0 wc [.v x.val,.v o.value.val] []=some (.bool r,[])/\(r=true↔x=o.value)):P0 wr [.v t.val,.v o.val] []=some (wj (vj t o),[]):=by
 have e:vj t o=(xr t o.path).bind fun x=>(open Classical in if x=o.value then some t else none):=by unfold vj;rw[zCj (by omega),zCj (by omega),zCj (by omega),zCj (by omega),zCj (by omega),zCk ho]
 rw[e,k9];unfold kQ;have hg:=zav t o.path h hp;have n1 : ¬ ((6:Int)=1):=by decide
 have n2 : ¬ ((6:Int)=2):=by decide
 have n3 : ¬ ((6:Int)=3):=by decide
 have n4 : ¬ ((6:Int)=4):=by decide
 have n5 : ¬ ((6:Int)=5):=by decide
 cases hx:xr t o.path with
 | none=>rw[hx]at hg;simp only[xG,yB,vS,Ww,X1,zcU,ho,zv,n1,n2,n3,n4,n5,zCo,hg,wj,qJ,zl,zM,zN,zCN]
 | some x=>
  rw[hx]at hg;obtain⟨r,hr,hri⟩:=hs x hx;rw[zD];cases r with
  | true=>rw[zCk (hri.1 rfl)];simp only[xG,yB,vS,Ww,X1,zcU,ho,zv,n1,n2,n3,n4,n5,zCo,hg,wj,zl,zM,zN,zbC,hr,wZ]
  | false=>rw[zCj (fun e=>by have:=hri.2 e;contradiction)];simp only[xG,yB,vS,Ww,X1,zcU,ho,zv,n1,n2,n3,n4,n5,zCo,hg,wj,zl,zM,zN,zbC,hr,wZ,qJ]
theorem ztg(t:Tree)(o:OpR)(h:Sz t)(ho:1<=o.op/\o.op<=6)(hp:o.path.length<=1000000)(hf:o.from'.length<=1000000)
  (hs:o.op=6 -> ∀ x,xr t o.path=some x -> ∃ r,P0 wc [.v x.val,.v o.value.val] []=some (.bool r,[])/\(r=true↔x=o.value)):P0 wr [.v t.val,.v o.val] []=some (wj (vj t o),[]):=by
 by_cases h1:o.op=1
 ·exact zq3 t o h h1 hp
 by_cases h2:o.op=2
 ·have e:vj t o=zbN t o.path:=by unfold vj;rw[zCj h1,zCk h2]
  rw[e];exact zwS t o h h2 hp
 by_cases h3:o.op=3
 ·have e:vj t o=Zm t o.path o.value:=by unfold vj;rw[zCj h1,zCj h2,zCk h3]
  rw[e];exact zyi t o h h3 hp
 by_cases h4:o.op=4
 ·have e:vj t o=zqL t o.from' o.path:=by unfold vj;rw[zCj h1,zCj h2,zCj h3,zCk h4]
  rw[e];exact zxC t o h h4 hp hf
 by_cases h5:o.op=5
 ·have e:vj t o=(xr t o.from').bind fun v=>Xz t o.path v:=by unfold vj;rw[zCj h1,zCj h2,zCj h3,zCj h4,zCk h5]
  rw[e];exact zx8 t o h h5 hp hf
 ·have h6:o.op=6:=by omega
  exact zwZ t o h h6 hp (hs h6)
end
section
attribute [local irreducible] P0
theorem zun{n:Str}{x y:Tree}{l:AL}(hs:Y8 l)(h:lk n l=some x):we n x (we n y l)=l:=by
 refine zwz (Vg (Vg hs)) hs (fun m => ?_);rw[zhf (Vg hs),zhf hs];by_cases e:n=m
 ·subst e;rw[zCk rfl,h]
 ·rw[zCj e,zCj e]
theorem zul{n:Str}{v:Tree}{l:AL}(hs:Y8 l)(h:lk n l=none):Xe n (we n v l)=l:=by
 refine zwz (ztB (Vg hs)) hs (fun m => ?_);rw[zAd (Vg hs),zhf hs];by_cases e:n=m
 ·subst e;rw[zCk rfl,h]
 ·rw[zCj e,zCj e]
theorem zjX(n:Str)(v:Tree)(l:AL):l.length<=(we n v l).length:=by
 induction l with
 | nil=>exact Nat.zero_le _
 | cons q r ih=>
  obtain⟨k,w⟩:=q;unfold we;split
  ·exact zR _
  ·split
   ·exact Nat.le_succ _
   ·exact Nat.succ_le_succ ih
theorem OrdT.vlen{t:Tree}(h:OrdT t)(hk:t.kind=7):t.v.length=(al t).length:=by
 have e:=h.obj hk;have:t.v.length=(Ev.obj (al t)).v.length:=by rw[<- e]
 rw[this,zl2,wz]
theorem zms{t x y:Tree}{s:Str}(ht:OrdT t)(hc:child t s=some x):child (V6 t s y) s=some y/\V6 (V6 t s y) s x=t/\t.v.length<=(V6 t s y).v.length:=by
 by_cases hk:t.kind=7
 ·have hp : ∀ z,V6 t s z=obj (we s z (al t)):=fun z=>zCk hk
  have hl:=zi3 hk hc;rw[hp y];have hk2:(obj (we s y (al t))).kind=7:=rfl;refine⟨?_,?_,?_⟩
  ·unfold child;rw[zCj (by rw[hk2];decide),Wh,zhf ht.al_srt,zCk rfl]
  ·unfold V6;rw[zCk hk2,Wh,zun ht.al_srt hl];exact(ht.obj hk).symm
  ·rw[zl2,wz,ht.vlen hk];exact zjX _ _ _
 ·have hk6:t.kind=6:=(Wt hc).resolve_right hk;obtain⟨i,h1,h2,h3⟩:=VT hk6 hc;have hp : ∀ z,V6 t s z=znu t (t.v.set i z):=fun z=>by unfold V6;rw[zCj hk,h1];rfl
  have hv:(znu t (t.v.set i y)).v=t.v.set i y:=rfl;have hk':(znu t (t.v.set i y)).kind=t.kind:=rfl;rw[hp y];refine⟨?_,?_,?_⟩
  ·unfold child;rw[zCk (hk'.trans hk6),hv,List.length_set,h1,zD,zCT h3]
  ·unfold V6;rw[zCj (by rw[hk'];exact hk),hv,List.length_set,h1,Option.getD_some,List.set_set];have e:t.v.set i x=t.v:=by rw[zL h3]at h2;injection h2 with h2;rw[<- h2];exact List.set_getElem_self h3
   rw[e];cases t;rfl
  ·rw[hv,List.length_set];exact zR _
theorem zmc(p:List Str) : ∀ {t old y u:Tree},OrdT t->xr t p=some old->Zm t p y=some u->xr u p=some y/\Zm u p old=some t:=by
 induction p with
 | nil=>intro t old y u _ h h2;injection h with h;subst h;injection h2 with h2;subst h2;exact⟨rfl,rfl⟩
 | cons s r ih=>
  intro t old y u ht h h2;simp only[xr,zA]at h;obtain⟨x,hc,h⟩:=h;simp only[Zm,hc,zD,zB]at h2;obtain⟨w,hw,rfl⟩:=h2;obtain⟨h3,h4⟩:=ih (ht.sub _ (XV hc)) h hw;obtain⟨h5,h6,_⟩:=zms (y:=w) ht hc;refine⟨?_,?_⟩
  ·simp only[xr,h5,zD,h3]
  ·simp only[Zm,h5,zD,h4,zC,h6]
theorem zlU{p:List Str}{t y u:Tree}(ht:OrdT t)(hp:p≠[])(h:Zm t p y=some u):t.v.length<=u.v.length:=by
 cases p with
 | nil=>exact absurd rfl hp
 | cons s r=>simp only[Zm,zA,zB]at h;obtain⟨x,hc,w,_,rfl⟩:=h;exact(zms ht hc).2.2
theorem zoY(l:List Tree):(arr l).kind=6:=rfl
theorem zx1(l:List Tree):(arr l).v=l:=rfl
theorem zzk(l:List Tree)(i:Nat)(x:Tree):l.length<=(l.take i++x::l.drop i).length:=by rw[zZ,zCw,zCy,zCz];omega
theorem zlV{t v u:Tree}{p:List Str}(ht:OrdT t)(hp:p≠[])(h:Xz t p v=some u):t.v.length<=u.v.length:=by
 unfold Xz at h;rw[zCj hp,zA]at h;obtain⟨x,hx,h⟩:=h;have hxo:=(Qp _ hx ht).1;by_cases hd:p.dropLast=[]
 ·rw[hd]at hx h;injection hx with hx;subst hx;split at h
  ·next hk=>
   injection h with h;subst h;rw[zl2,wz,hxo.vlen hk];exact zjX _ _ _
  ·split at h
   ·rw[zA]at h;obtain⟨i,_,h⟩:=h;injection h with h;subst h;exact zzk _ _ _
   ·contradiction
 ·split at h
  ·exact zlU ht hd h
  ·split at h
   ·rw[zA]at h;obtain⟨i,_,h⟩:=h;exact zlU ht hd h
   ·contradiction
theorem zvb(m:Int):ql [45] m=none:=by
 have h:zgW [45]=none:=by decide
 unfold ql;rw[h];rfl
theorem zsv{t v w:Tree}{p:List Str}(ht:OrdT t)(hp:p≠[])(h:xr t p=some w) : ∃ u,Xz t p v=some u:=by
 obtain⟨x,hx,hc⟩:=zhm hp h;have hxo:=(Qp _ hx ht).1;unfold Xz;rw[zCj hp,hx,zD];by_cases hk:x.kind=7
 ·rw[zCk hk];have:=zly (t:=t) (p:=p.dropLast) (v:=obj (we (yN p) v (al x)));rw[hx]at this;exact Option.isSome_iff_exists.1 this
 ·have hk6:=(Wt hc).resolve_right hk;obtain⟨i,h1,_,h3⟩:=VT hk6 hc;rw[zCj hk,zCk hk6];have hpl:We (yN p) x.v.length=some i:=by unfold We;rw[zCj (fun e=>by rw[e,zvb]at h1;contradiction)];exact ze3 h1 (by omega)
  rw[hpl,zD];have:=zly (t:=t) (p:=p.dropLast) (v:=arr (x.v.take i++v::x.v.drop i));rw[hx]at this;exact Option.isSome_iff_exists.1 this
theorem zuA{t v u:Tree}{p:List Str}(ht:OrdT t)(ha : ∀ x,xr t p.dropLast=some x->x.kind=6->x=arr x.v)(hp:p≠[])(hn:xr t p=none)(h:Xz t p v=some u) :
  ∃ x,xr t p.dropLast=some x/\(x.kind=6/\yN p=[45]\/(yN p=[45]->x.kind≠6)/\xr u p=some v/\zbN u p=some t):=by
 have hn2 : ∀ x,xr t p.dropLast=some x->child x (yN p)=none:=fun x hx=>by
  rw[<- zmJ hp,zj2,hx,zD]at hn;simp only[xr]at hn;cases hc:child x (yN p)with
  | none=>rfl
  | some y=>rw[hc]at hn;contradiction
 have key : ∀ x z,xr t p.dropLast=some x->Zm t p.dropLast z=some u->child z (yN p)=some v->zgq z (yN p)=x->xr u p=some v/\zbN u p=some t:=by
  intro x z hx hz hc hr;obtain⟨h1,h2⟩:=zmc _ ht hx hz;have hg:xr u p=some v:=by
   have:xr u (p.dropLast++[yN p])=some v:=by rw[zj2,h1,zD];simp only[xr,hc,zD]
   rwa [zmJ hp]at this
  refine⟨hg,?_⟩;unfold zbN;rw[zCj hp,hg,zD,h1,zD,hr];exact h2
 unfold Xz at h;rw[zCj hp,zA]at h;obtain⟨x,hx,h⟩:=h;have hxo:=(Qp _ hx ht).1;have hc:=hn2 x hx;refine⟨x,hx,?_⟩;split at h
 ·next hk=>
  refine .inr ⟨fun _=>by omega,?_⟩;have hl:lk (yN p) (al x)=none:=by unfold child at hc;rw[zCj (by omega)]at hc;exact hc
  refine key x _ hx h ?_ ?_
  ·unfold child;rw[zCj (fun e:(obj (we (yN p) v (al x))).kind=6=>by simp[obj,Tree.kind]at e),Wh,zhf hxo.al_srt,zCk rfl]
  ·unfold zgq;rw[zCk (show(obj (we (yN p) v (al x))).kind=7 from rfl),Wh,zul hxo.al_srt hl];exact(hxo.obj hk).symm
 ·split at h
  ·next hk7 hk=>
   by_cases hd:yN p=[45]
   ·exact .inl ⟨hk,hd⟩
   ·refine .inr ⟨fun e=>absurd e hd,?_⟩;rw[zA]at h;obtain⟨i,hi,h⟩:=h;unfold We at hi;rw[zCj hd]at hi;have hle:=zmP hi;have hil:i=x.v.length:=by
     refine Classical.byContradiction fun hne => ?_
     have h1:ql (yN p) ((x.v.length:Int)-1)=some i:=by
      unfold ql at hi ⊢;rw[zA]at hi ⊢;obtain⟨n,hn1,hn2⟩:=hi;split at hn2
      ·injection hn2 with hn2;subst hn2;exact⟨n,hn1,zCk (by omega)⟩
      ·contradiction
     unfold child at hc;rw[zCk hk,h1,zD,zL (by omega)]at hc;contradiction
    subst hil;have e:x.v.take x.v.length++v::x.v.drop x.v.length=x.v++[v]:=by rw[List.take_length,List.drop_length]
    rw[e]at h;have hix:ql (yN p) (((arr (x.v++[v])).v.length:Int)-1)=some x.v.length:=by rw[zx1,zZ,List.length_singleton];exact ze3 hi (by omega)
    refine key x _ hx h ?_ ?_
    ·unfold child;rw[zCk (zoY _),hix,zD,zx1,List.getElem?_append_right (zR _),Nat.sub_self];rfl
    ·unfold zgq;rw[zCj (by rw[zoY];decide),hix,Option.getD_some,zx1,List.take_left,List.drop_of_length_le (by simp)];rw[List.append_nil];exact(ha x hx hk).symm
  ·contradiction
theorem zBa{t:Tree}(h:OkT t):w1 t<=2001:=by
 cases h with
 | null=>unfold w1;simp[Ev.null,Tree.kind]
 | bool b=>unfold w1;simp[Tree.kind]
 | num n h=>
  have:n.m.length<=1000:=by
   rcases h with⟨h1,_⟩ | ⟨_,_,h1,_⟩
   ·rw[h1];simp
   ·omega
  unfold w1;simp only[Tree.kind,Tree.n,zCl];omega
 | text s _ hl=>unfold w1;simp only[Tree.kind,Tree.s];simp;omega
 | bytes s hl=>unfold w1;simp only[Tree.kind,Tree.s];simp;omega
 | arr v _ _=>unfold w1;simp[Tree.kind]
 | obj l _ _ _ _=>unfold w1;simp[Ev.obj,Tree.kind]
theorem zye{c d:Nat}{t:Tree}(h:Bnd c d t):OkT t->yb t<=2001*vk t:=by
 induction h with
 | mk d t hl hv ih=>
  intro ho;rw[wu,qb,Nat.mul_add];have h1:=zBa ho;have : ∀ l:List Tree,(∀ x,x∈l->yb x<=2001*vk x)->weightL l<=2001*nodesL l:=by
   intro l;induction l with
   | nil=>intro _;simp[weightL,nodesL]
   | cons x r ih=>intro h;rw[weightL,nodesL,Nat.mul_add];have:=h x (zCO ..);have:=ih (fun y hy=>h y (zP _ hy));omega
  have:=this t.v (fun x hx=>ih x hx (ho.sub x hx));omega
theorem zAh{t:Tree}(h:OkT t)(hk:t.kind=6):t=arr t.v:=by cases h<;>first | rfl | (simp[Ev.null,Ev.obj,Tree.kind]at hk)
theorem zsQ{t:Tree}(h:OkT t):OrdT t:=by
 have leaf : ∀ t:Tree,t.kind≠7->U32 t.n.m->t.n.m.length<=1000->t.k=[]->(∀ x,x∈t.v->OrdT x)->OrdT t:=fun t h1 h2 h3 h4 h5=>.mk t (fun e=>absurd e h1) (by rw[Wm h1];trivial) h2 h3 (by rw[h4];exact Nat.zero_le _) h5
 have z0:U32 Nm.zero.m:=fun x hx=>by simp[Nm.zero]at hx
 induction h with
 | null=>exact OrdT.null
 | bool b=>exact leaf _ (by simp[Tree.kind]) z0 (Nat.zero_le _) rfl (fun x hx=>by simp[Tree.v]at hx)
 | num n h=>
  refine leaf _ (by simp[Tree.kind]) ?_ ?_ rfl (fun x hx=>by simp[Tree.v]at hx)
  ·rcases h with⟨h1,_⟩ | ⟨_,h1,_⟩
   ·show U32 n.m;rw[h1];exact fun x hx=>by simp at hx
   ·exact h1
  ·show n.m.length<=1000;rcases h with⟨h1,_⟩ | ⟨_,_,h1,_⟩
   ·rw[h1];simp
   ·omega
 | text s _ hl=>exact leaf _ (by simp[Tree.kind]) z0 (Nat.zero_le _) rfl (fun x hx=>by simp[Tree.v]at hx)
 | bytes s hl=>exact leaf _ (by simp[Tree.kind]) z0 (Nat.zero_le _) rfl (fun x hx=>by simp[Tree.v]at hx)
 | arr v _ _ ih=>exact leaf _ (by simp[Tree.kind]) z0 (Nat.zero_le _) rfl ih
 | obj l hs _ _ _ ih=>exact zde hs ih
theorem zoj(p:List Str) : ∀ {t x:Tree},OkT t->xr t p=some x->OkT x:=by
 induction p with
 | nil=>intro t x ht h;injection h with h;subst h;exact ht
 | cons s r ih=>intro t x ht h;simp only[xr,zA]at h;obtain⟨y,hc,h⟩:=h;exact ih (ht.sub _ (XV hc)) h
end
section
attribute [local irreducible] P0
theorem zCf(k:Nat)(h:k<5) : ∃ s:Str,zoX false 5 1 (.agg [(.str [97]),(.str [48]),(.str [45]),(.str [110,101,119]),(.str [50])]) (.int .i64 (k:Int))=some (.str s)/\s.length<=2000:=by
 have:k=0\/k=1\/k=2\/k=3\/k=4:=by omega
 rcases this with rfl | rfl | rfl | rfl | rfl<;>exact⟨_,rfl,by decide⟩
theorem zB2(k:Nat)(h:k<10) : ∃ s:Str,zoX false 10 1 (.agg [(.str [48]),(.str [49]),(.str [50]),(.str [51]),(.str [52]),(.str [53]),(.str [54]),(.str [55]),(.str [56]),(.str [57])]) (.int .i64 (k:Int))=some (.str s)/\s.length<=2000:=by
 have:k=0\/k=1\/k=2\/k=3\/k=4\/k=5\/k=6\/k=7\/k=8\/k=9:=by omega
 rcases this with rfl | rfl | rfl | rfl | rfl | rfl | rfl | rfl | rfl | rfl<;>exact⟨_,rfl,by decide⟩
theorem OkT.name_len{t:Tree}(h:OkT t) : ∀ s,s∈t.k->s.length<=2000:=by
 cases h with
 | obj l _ _ hn _=>exact fun s hs=>(hn s hs).2
 | _=>intro s hs;simp[Ev.null,Tree.k]at hs
theorem VW(p:List Str)(s:Str):strs p++[V.str s]=strs (p++[s]):=by rw[<- zhn];rfl
theorem Kp(s:Str):yn 1 [V.str s]=true:=rfl
theorem zv5(l:List Int)(m:Nat) : ∀ (i:Nat) (t:Tree) (p:List Str),OkT t->i+m=4->p.length<=i->(∀ s,s∈p->s.length<=2000) ->
  ∃ o q,zq (yH (.sl (ints l))) (vec [.sl (strs p),.int .i64 (i:Int),t.val])=some o/\o.2 0 = .sl (strs q)/\q.length<=4 /\ ∀ s,s∈q->s.length<=2000:=by
 induction m with
 | zero=>
  intro i t p ht hi hp hs;refine⟨(0,vec [.sl (strs p),t.val]),p,zg ?_,rfl,by omega,hs⟩;unfold yH;have c4 : ¬ (i:Int)<4:=by omega
  by_cases hl:i<l.length
  ·have c:(i:Int)<(l.length:Int):=by omega
   simp only[qR,yB,zb,xv,zr,c,c4,zCn,zCo,zCl,zt]
  ·have c : ¬ (i:Int)<(l.length:Int):=by omega
   simp only[qR,yB,zb,xv,zr,c,zCo,zt]
 | succ m ih=>
  intro i t p ht hi hp hs;have c4:(i:Int)<4:=by omega
  by_cases hl:i<l.length;case neg=>
   refine⟨(0,vec [.sl (strs p),t.val]),p,zg ?_,rfl,by omega,hs⟩;unfold yH;have c : ¬ (i:Int)<(l.length:Int):=by omega
   simp only[qR,yB,zb,xv,zr,c,zCo,zt]
  have c:(i:Int)<(l.length:Int):=by omega
  have hx:l[i]?=some l[i]:=zL hl;obtain⟨r,hpl,hr,_⟩:=zyq l[i] 1048576 (by decide) (by decide);have hpl:P0 wE [.v (.int .i64 l[i]),.v (.int .i64 1048576)] []=some (.int .i64 (r:Int),[]):=hpl;have h5:za .rem (.int .i64 (r:Int)) (.int .i64 5)=some (.int .i64 ((r%5:Nat):Int)):=zgJ r 5 (by decide);have h3:za .rem (.int .i64 (r:Int)) (.int .i64 3)=some (.int .i64 ((r%3:Nat):Int)):=zgJ r 3 (by decide);have hq:za .quo (.int .i64 (r:Int)) (.int .i64 15)=some (.int .i64 ((r/15:Nat):Int)):=zt3 r 15 (by decide) (by omega);have hq5:za .rem (.int .i64 ((r/15:Nat):Int)) (.int .i64 5)=some (.int .i64 ((r/15%5:Nat):Int)):=zgJ (r/15) 5 (by decide);obtain⟨s5,hs5,hs5l⟩:=zCf (r/15%5) (zCP _ (by decide));have hap:qi 16 p.length 1=true:=wv 16 p.length 1 (by omega) (by omega);have add : ∀ s:Str,s.length<=2000->(p++[s]).length<=i+1 /\ ∀ x,x∈p++[s]->x.length<=2000:=fun s hsl=>
   ⟨by rw[zZ,List.length_singleton];omega,fun x hx=>by
    rcases List.mem_append.1 hx with hx | hx
    ·exact hs x hx
    ·rw[List.mem_singleton.1 hx];exact hsl⟩
  have e5t:r%5=0->(((r%5:Nat):Int)=0):=fun h=>by omega
  have e5f : ¬ r%5=0 -> ¬ (((r%5:Nat):Int)=0):=fun h=>by omega
  -- the end, with one more or not
  have stop:(r%3=0->yH (.sl (ints l)) (vec [.sl (strs p),.int .i64 (i:Int),t.val])=some (.inr (1,vec [.sl (strs (p++[s5])),t.val]))) ->
    (¬ r%3=0->yH (.sl (ints l)) (vec [.sl (strs p),.int .i64 (i:Int),t.val])=some (.inr (1,vec [.sl (strs p),t.val]))) ->
    ∃ o q,zq (yH (.sl (ints l))) (vec [.sl (strs p),.int .i64 (i:Int),t.val])=some o/\o.2 0 = .sl (strs q)/\q.length<=4 /\ ∀ s,s∈q->s.length<=2000:=by
   intro ha hb;by_cases c3:r%3=0
   ·exact⟨_,p++[s5],zg (ha c3),rfl,by have:=(add s5 hs5l).1;omega,(add s5 hs5l).2⟩
   ·exact⟨_,p,zg (hb c3),rfl,by omega,hs⟩
  by_cases k5:r%5=0
  ·have d5:=e5t k5;refine stop (fun c3 => ?_) (fun c3 => ?_)
   ·have d3:(((r%3:Nat):Int)=0):=by omega
    unfold yH;simp only[vV,qR,zb,xv,zr,c,c4,zCn,ze,zCl,qF,zf _ i l.length hl,kv,hx,zC,xO,hpl,h5,zv,d5,zX,zCm,h3,d3,hq,hq5,hs5,qj,zp,yd,Kp,zt,zd,zCw,zCx,zCu,hap,VW]
   ·have d3 : ¬ (((r%3:Nat):Int)=0):=by omega
    unfold yH;simp only[qR,yB,zb,xv,zr,c,c4,zCn,zCl,qF,zf _ i l.length hl,kv,hx,zC,xO,hpl,h5,zv,d5,zX,h3,d3,zCo,zt]
  have d5:=e5f k5;by_cases k6:t.v.length=0
  ·have d6:((((t.v.length:Nat):Int))==0)=true:=by rw[k6];rfl
   refine stop (fun c3 => ?_) (fun c3 => ?_)
   ·have d3:(((r%3:Nat):Int)=0):=by omega
    unfold yH;simp only[vV,qR,zb,xv,zr,c,c4,zCn,zCo,ze,zCl,qF,zf _ i l.length hl,kv,hx,zC,xO,hpl,h5,zv,d5,xw,zh,d6,zX,zCm,h3,d3,hq,hq5,hs5,qj,zp,yd,Kp,zt,zd,zCw,zCx,zCu,hap,VW]
   ·have d3 : ¬ (((r%3:Nat):Int)=0):=by omega
    unfold yH;simp only[qR,yB,zb,xv,zr,c,c4,zCn,zCo,zCl,qF,zf _ i l.length hl,kv,hx,zC,xO,hpl,h5,zv,d5,xw,zh,d6,zX,h3,d3,zt]
  have d6:((((t.v.length:Nat):Int))==0)=false:=by rw[beq_eq_false_iff_ne];omega
  have hkk:r/5%t.v.length<t.v.length:=zCP _ (by omega);have hqq:za .quo (.int .i64 (r:Int)) (.int .i64 5)=some (.int .i64 ((r/5:Nat):Int)):=zt3 r 5 (by decide) (by omega);have hqr:za .rem (.int .i64 ((r/5:Nat):Int)) (.int .i64 ((t.v.length:Nat):Int))=some (.int .i64 ((r/5%t.v.length:Nat):Int)):=zgJ (r/5) t.v.length (by omega);generalize r/5%t.v.length=kk at hkk hqr;have hv:t.v[kk]?=some t.v[kk]:=zL hkk;have hsub:=ht.sub t.v[kk] (zCW _);by_cases k7:t.kind=7
  ·have hlk:t.k.length=t.v.length:=ht.lens.2.2.2.2 k7;have hkl:kk<t.k.length:=by omega
   have hkx:t.k[kk]?=some t.k[kk]:=zL hkl;have hsl:=ht.name_len t.k[kk] (zCW _);obtain⟨o,q,h1,h2⟩:=ih (i+1) t.v[kk] (p++[t.k[kk]]) hsub (by omega) (add _ hsl).1 (add _ hsl).2;refine⟨o,q,?_,h2⟩;rw[<- h1];apply zn;unfold yH;simp only[qR,xG,yB,zb,xv,zr,c,c4,zCo,qF,zf _ i l.length hl,kv,hx,zC,xO,hpl,h5,zv,d5,xw,zh,d6,xk,k7,vQ,zH,hqq,hqr,qp,zy,zd,zf _ kk t.k.length hkl,yk,hkx,qj,yd,Kp,zt,zCw,zCx,zCu,hap,VW,yP,zf _ kk t.v.length hkk,wh,hv,yU,yI (i:=i) (by omega)]
  by_cases k8:t.kind=6
  ·obtain⟨s,hs1,hs2⟩:=zB2 (kk%10) (zCP _ (by decide));have hr10:za .rem (.int .i64 (kk:Int)) (.int .i64 10)=some (.int .i64 ((kk%10:Nat):Int)):=zgJ kk 10 (by decide);obtain⟨o,q,h1,h2⟩:=ih (i+1) t.v[kk] (p++[s]) hsub (by omega) (add _ hs2).1 (add _ hs2).2;have n67 : ¬ ((6:Int)=7):=by decide
   refine⟨o,q,?_,h2⟩;rw[<- h1];apply zn;unfold yH;simp only[qR,xG,yB,zb,xv,zr,c,c4,zCo,qF,zf _ i l.length hl,kv,hx,zC,xO,hpl,h5,zv,d5,xw,zh,d6,xk,k8,n67,vQ,zH,zI,hqq,hqr,hr10,hs1,qj,yd,Kp,zt,zd,zCw,zCx,zCu,hap,VW,yP,zf _ kk t.v.length hkk,wh,hv,yU,yI (i:=i) (by omega)]
  refine stop (fun c3 => ?_) (fun c3 => ?_)
  ·have d3:(((r%3:Nat):Int)=0):=by omega
   unfold yH;simp only[vV,qR,zb,xv,zr,c,c4,zCn,zCo,ze,zCl,qF,zf _ i l.length hl,kv,hx,zC,xO,hpl,h5,zv,d5,xw,zh,d6,xk,k7,k8,vQ,zI,zX,zCm,h3,d3,hq,hq5,hs5,qj,zp,yd,Kp,zt,zd,zCw,zCx,zCu,hap,VW]
  ·have d3 : ¬ (((r%3:Nat):Int)=0):=by omega
   unfold yH;simp only[qR,yB,zb,xv,zr,c,c4,zCn,zCo,zCl,qF,zf _ i l.length hl,kv,hx,zC,xO,hpl,h5,zv,d5,xw,zh,d6,xk,k7,k8,vQ,zI,zX,h3,d3,zt]
theorem zAH(t:Tree)(h:OkT t)(l:List Int) : ∃ p:List Str,P0 jP [.v t.val,.v (.sl (ints l))] []=some (.sl (strs p),[])/\p.length<=4 /\ ∀ s,s∈p->s.length<=2000:=by
 obtain⟨o,q,h1,h2,h3,h4⟩:=zv5 l 4 0 t [] h rfl (Nat.zero_le _) (fun s hs=>by simp at hs);refine⟨q,?_,h3,h4⟩;have h1:zq (yH (.sl (ints l))) (vec [.sl [],.int .i64 0,t.val])=some o:=h1;rw[zoh];unfold zge;by_cases h0:o.1=0
 ·simp only[vV,zj,zp,h1,h0,zCl,h2,zt]
 ·simp only[vV,zj,zp,h1,h0,zCm,h2,zt]
theorem zrS(p:List Str)(h:p.length<=1000000):P0 vZ [.v (.sl (strs p))] []=some (.sl (strs p),[]):=by rw[ze1];unfold JK;have hap:qi 16 0 p.length=true:=wv 16 0 p.length (by omega) (by omega);simp only[vV,Qk,zCx,zd,hap,zp,List.nil_append]
end
end Go.Ev
