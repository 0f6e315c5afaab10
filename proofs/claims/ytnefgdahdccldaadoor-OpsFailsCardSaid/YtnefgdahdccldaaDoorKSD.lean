/- What functions compute, put together. -/
import Derived.Test.YtnefgdahdccldaaDoorKSC
import Derived.Test.YtnefgdahdccldaaDoorKSB
import Derived.Test.YtnefgdahdccldaaDoorKSA
set_option linter.all false
open Option renaming bind_eq_some_iff->zA,map_some->zC,bind_some->zD
open Bool renaming false_eq_true->zF,and_eq_true->zG,not_true->zH,not_false->zI,true_eq_false->zX
open List renaming getElem?_eq_getElem->zL,getElem?_cons_zero->zM,getElem?_cons_succ->zN,drop_eq_getElem_cons->zO,mem_cons_of_mem->zP,drop_eq_nil_of_le->zQ,mem_cons->zS,drop_zero->zU,take_of_length_le->zV,length_append->zZ
open Nat renaming le_refl->zR
open Int renaming natCast_nonneg->zY
namespace Go.Ev
abbrev xO:=And.intro @zn @wt
end Go.Ev
namespace Go.Ev
abbrev xr:=And.intro @zv @X3
end Go.Ev
namespace Go.Ev
abbrev z6:=And.intro @if_true.{1} (And.intro @zBx @z5)
end Go.Ev
namespace Go.Ev
abbrev zu:=And.intro @zn (And.intro @wt (And.intro @zf (And.intro @if_false.{1} @zF)))
end Go.Ev
namespace Go.Ev
section
attribute [local irreducible] P0
def zbM(l:List OpR):List V:=l.map OpR.val
theorem YG(l:List OpR):(zbM l).length=l.length:=List.length_map ..
theorem zc7(l:List OpR)(i:Nat):(zbM l)[i]?=(l[i]?).map OpR.val:=zBU ..
theorem yP(o:OpR):okN 11 o.val=true:=rfl
theorem zwX(l:List OpR):yi 11 (zbM l)=true:=by
 induction l with
 | nil=>rfl
 | cons o r ih=>show yi 11 (o.val::zbM r)=true;rw[y4];exact⟨yP o,ih⟩
theorem JG(l:List OpR):yN 11 (.sl (zbM l))=some (zbM l):=by unfold yN;simp only[zwX]
theorem wD(o:OpR):Wi o.val 3 8=o.value.val:=by rw[Tree.val_eq];rfl
theorem wr(o:OpR):ze o.val 0=some (.int .i64 o.op):=rfl
theorem wq(o:OpR):ze o.val 1=some (.sl (strs o.path)):=rfl
theorem vP(o:OpR):ze o.val 2=some (.sl (strs o.from')):=rfl
theorem zva(x b:V):P0 qK [.p 0 0,.p 1 0,.v .nili] [(false,8,x),(false,1,b)]=some (.tup [],[x,b]):=by rw[zcu];unfold J3;rfl
theorem ztN(x b:V):P0 qK [.p 0 0,.p 1 0,.v (.iface zfP (.agg []))] [(false,8,x),(false,1,b)]=some (.tup [],[.agg [.int .i64 0,.bool false,.bool false,.sl [],.int .i64 0,.str [],.sl [],.sl []],.bool false]):=by rw[zcu];unfold J3;rfl
theorem KJ:Tree.zero.val = .agg [.int .i64 0,.bool false,.bool false,.sl [],.int .i64 0,.str [],.sl [],.sl []]:=by rw[Tree.val_eq];rfl
theorem zvI(t:Tree)(o:OpR)(r:Option Tree)(h:P0 wo [.v t.val,.v o.val] []=some (wi r,[])) :
  P0 jm [.v t.val,.v o.val] []=some (.tup [(r.getD Tree.zero).val,.bool r.isSome],[]):=by
 rw[zq9];unfold zlb;cases r with
 | some x=>simp only[xO,za,yP,z5,h,wi,zm,zM,zN,zf,zBv,zva,Option.getD_some,zBT]
 | none=>simp only[zu,za,yP,z5,h,wi,qJ,zm,zM,zN,ztN,Option.getD_none,Option.isSome_none,KJ]
theorem zpY(t:Tree)(o:OpR)(h:Sz t)(ho:o.op=1)(hp:o.path.length<=1000000):P0 wo [.v t.val,.v o.val] []=some (wi (vl t o),[]):=by
 have e:vl t o=QC t o.path o.value:=zBu ho;rw[e,kS];unfold kI;have ha:=znf t o.path o.value h hp;cases hx:QC t o.path o.value with
 | none=>rw[hx]at ha;simp only[z6,zu,za,yP,wr,wq,ho,zq,wD,ha,wi,qJ,zm,zM,zN]
 | some x=>rw[hx]at ha;simp only[xO,z6,za,yP,wr,wq,ho,zq,zf,wD,ha,wi,zm,zM,zN]
theorem zwD{t v r:Tree}{p:List Str}(ht:OrdT t)(hv:OrdT v)(h:QC t p v=some r):OrdT r/\yk r<=yk t+yk v:=by
 unfold QC at h;split at h
 ·injection h with h;subst h;exact⟨hv,by omega⟩
 ·rw[zA]at h;obtain⟨x,hx,h⟩:=h;have hxo:=(zjg _ hx ht).1;split at h
  ·next hk=>
   have ho:OrdT (obj (vV (wk p) v (al x))):=zcL (zm8 hxo.al_srt) (fun q hq=>by
    rcases zmp hq with rfl | hq
    ·exact hv
    ·exact hxo.al_ord q hq)
   have w:=zvF (n:=wk p) (v:=v) hxo.al_srt;have hw:yk x=1+wA (al x):=by rw[<- Ym,<- hxo.obj hk]
   obtain⟨u,h5,h6,h7⟩:=zi4 _ ht ho hx;rw[h5]at h;injection h with h;subst h;rw[Ym]at h7;exact⟨h6,by omega⟩
  ·split at h
   ·next hk=>
    rw[zA]at h;obtain⟨i,hi,h⟩:=h;have ho:OrdT (arr (x.v.take i++v::x.v.drop i)):=zmV (fun z hz=>by
     rcases List.mem_append.1 hz with hz | hz
     ·exact hxo.sub z (List.mem_of_mem_take hz)
     ·rcases List.mem_cons.1 hz with rfl | hz
      ·exact hv
      ·exact hxo.sub z (List.mem_of_mem_drop hz))
    obtain⟨u,h5,h6,h7⟩:=zi4 _ ht ho hx;rw[h5]at h;injection h with h;subst h;have e1:=W2 x.v i;have e2:=wL x;have:=za4 x;rw[ziz,Jt,weightL]at h7;exact⟨h6,by omega⟩
   ·contradiction
theorem zrW : ∀ t,yk t<=1000000->P0 ZY [.v t.val] []=some (.bool (zoC t),[]):=by
 intro t;induction t using Tree.ind with
 | h t ih=>
 intro hw;rw[wL]at hw;have hl:=Kl t.v;rw[zq3,zzg];unfold zkk;have hg : ∀ x,x∈t.v->P0 jJ [.v x.val] []=some (.bool (!zoC x),[]):=by intro x hx;rw[zmK];unfold zfr;simp only[xO,za,z5,ih x hx (by have:=zbJ hx;omega),yu]
 have hc:=zwU jJ rfl _ t.v hg (by omega);rw[zwC];by_cases h:t.v.length<=300
 ·have c1:((t.v.length:Nat):Int)<=300:=by omega
  simp only[xO,z6,za,xI,zb,zi,c1,hc,yu,h,Bool.true_and]
 ·have c1 : ¬ ((t.v.length:Nat):Int)<=300:=by omega
  simp only[xO,za,z5,xI,zb,zi,c1,zBy,zF,zBw,h,Bool.false_and]
theorem zvr(t:Tree)(w:Int)(h:yk t<=1000000):P0 Yb [.v t.val,.v (.int .i64 w)] []=some (.bool (zqK t w),[]):=by
 have hn:=zmz t;rw[znC];unfold zgD zqK;by_cases c1:(yk t:Int)<=w
 ·by_cases c2:(xT t:Int)<=2000
  ·by_cases c3:(depth t:Int)<=64
   ·simp only[xO,z6,za,V6 t (by omega),zeo t (by omega),zln t (by omega),zrW t h,Vt,c1,c2,c3,zf,Bool.true_and]
   ·simp only[z6,zu,za,V6 t (by omega),zeo t (by omega),zln t (by omega),zrW t h,Vt,c1,c2,c3,zBy,Bool.true_and,Bool.and_false,Bool.false_and]
  ·simp only[z6,zu,za,V6 t (by omega),zeo t (by omega),Vt,c1,c2,zBy,Bool.true_and,Bool.and_false,Bool.false_and]
 ·simp only[zu,za,z5,V6 t (by omega),Vt,c1,zBy,Bool.and_false,Bool.false_and]
theorem zuh(l:List OpR)(hl:l.length<=1000000)(hg : ∀ o,o∈l->P0 qa [.v o.val] []=some (.bool true,[]))(m:Nat) : ∀ i,i+m=l.length ->
  zr (yZ l.length (.sl (zbM l)) wu) (vec [.int .i64 (i:Int)])=some (0,vec []):=by
 have hb:Nat.blt wu wX=true:=rfl;induction m with
 | zero=>
  intro i hi;apply zh;unfold yZ;have c1 : ¬ (i:Int)<(l.length:Int):=by omega
  simp only[zu,zv,zl,c1,zBy]
 | succ m ih=>
  intro i hi;have h1:i<l.length:=by omega
  have c1:(i:Int)<(l.length:Int):=by omega
  have hx:l[i]?=some l[i]:=zL h1;have hgx:=hg l[i] (zCg _);have hc:P0 wu [.v (l[i]).val] []=some (.bool false,[]):=by rw[zh4];unfold zaZ;simp only[xO,yP,z5,hgx,yu,zH]
  rw[<- ih (i+1) (by omega)];apply zp;unfold yZ;simp only[z6,zu,zv,zl,c1,JG,YG,zg _ i l.length h1,zc7,hx,zC,hb,hc,yX,yQ (i:=i) (by omega)]
theorem zeI(l:List OpR)(hl:l.length<=60)(hg : ∀ o,o∈l->P0 qa [.v o.val] []=some (.bool true,[])):P0 jM [.v (.sl (zbM l))] []=some (.bool true,[]):=by
 have h:=zuh l (by omega) hg l.length 0 (by omega);rw[show((0:Nat):Int)=0 from rfl]at h;have c:((l.length:Nat):Int)<=60:=by omega
 have c2 : ¬ (0:Int) <= -1:=by decide
 have h2:P0 yc [.v (.sl (zbM l)),.fn wu []] []=some (.bool false,[]):=by rw[jY];unfold wT;rw[kL];unfold vT;simp only[xO,zb,YG,h,zBv,qY,c2,zBy]
 rw[zmo];unfold zeX;simp only[xO,zb,YG,c,zBx,zBv,h2,yu,zI]
noncomputable def zc8(w:Int):Tree->List OpR->Nat->Tree ⊕ (Nat×Int)
 | t,[],_ => .inl t
 | t,o::r,i=>match vl t o with
  | none => .inr (i,5)
  | some x=>if zqK x w=true then zc8 w x r (i+1)else .inr (i,4)
def zwj:Tree ⊕ (Nat×Int)->V
 | .inl t => .tup [t.val,.int .i64 (-1),.int .i64 0]
 | .inr (i,c) => .tup [Tree.zero.val,.int .i64 (i:Int),.int .i64 c]
structure zzC(l:List OpR):Prop where
 does : ∀ o,o∈l -> ∀ t,Sz t->P0 wo [.v t.val,.v o.val] []=some (wi (vl t o),[])
 ord : ∀ o,o∈l -> ∀ t r,Sz t->vl t o=some r->OrdT r/\yk r<=1000000
theorem zzw{t:Tree}{w:Int}(h:zqK t w=true):(yk t:Int)<=w:=by unfold zqK at h;simp only[zG,zCb]at h;exact h.1.1.1
theorem zug(l:List OpR)(hl:l.length<=1000000)(w:Int)(hw:w<=900000)(hd:zzC l)(m:Nat) : ∀ i t,Sz t->i+m=l.length ->
  ∃ o,zr (wv l.length (.sl (zbM l)) (.int .i64 w)) (vec [.int .i64 (i:Int),t.val,.int .i64 0,.bool false,.bool false,.sl [],.int .i64 0,.str [],.sl [],.sl []])=some o /\
  (
    match zc8 w t (l.drop i) i with
    | .inl u=>o.1=0/\o.2 0=u.val
    | .inr (j,c)=>o.1=1/\o.2 0 = .int .i64 (j:Int)/\o.2 1 = .int .i64 c/\o.2 3 = .int .i64 0/\o.2 4 = .bool false/\o.2 5 = .bool false/\o.2 6 = .sl []/\o.2 7 = .int .i64 0/\o.2 8 = .str []/\o.2 9 = .sl []/\o.2 10 = .sl []):=by
 induction m with
 | zero=>
  intro i t ht hi;have e:l.drop i=[]:=zQ (by omega);have c1 : ¬ (i:Int)<(l.length:Int):=by omega
  rw[e,zc8];refine⟨(0,vec [t.val,.agg [.int .i64 0,.bool false,.bool false,.sl [],.int .i64 0,.str [],.sl [],.sl []]]),zh ?_,?_⟩
  ·unfold wv;simp only[xr,zu,zl,c1,zBy]
  ·exact⟨rfl,rfl⟩
 | succ m ih=>
  intro i t ht hi;have h1:i<l.length:=by omega
  have c1:(i:Int)<(l.length:Int):=by omega
  have hx:l[i]?=some l[i]:=zL h1;have hdx:=zvI _ _ _ (hd.does l[i] (zCg _) t ht);have hox:=hd.ord l[i] (zCg _) t;rw[zO h1,zc8];generalize l[i]=o at *;cases hq:vl t o with
  | none=>
   rw[hq]at hdx;refine⟨(1,vec [.int .i64 (i:Int),.int .i64 5,t.val,.int .i64 0,.bool false,.bool false,.sl [],.int .i64 0,.str [],.sl [],.sl []]),zh ?_,?_⟩
   ·unfold wv;simp only[xO,xr,z6,zl,c1,zf,JG,YG,zg _ i l.length h1,zc7,hx,zC,yP,hdx,zm,zM,zN,za,Option.isSome_none,yu,zI]
   ·exact⟨rfl,rfl,rfl,rfl,rfl,rfl,rfl,rfl,rfl,rfl,rfl⟩
  | some x=>
   obtain⟨ho1,ho2⟩:=hox x ht hq;have hf:=zvr x w ho2;rw[hq]at hdx;dsimp only;cases hb:zqK x w with
   | false=>
    rw[hb]at hf;simp only[zF,zBw];refine⟨(1,vec [.int .i64 (i:Int),.int .i64 4,t.val,.int .i64 0,.bool false,.bool false,.sl [],.int .i64 0,.str [],.sl [],.sl []]),zh ?_,?_⟩
    ·unfold wv;simp only[xr,z6,zu,zl,c1,JG,YG,zg _ i l.length h1,zc7,hx,zC,yP,hdx,zm,zM,zN,za,Option.getD_some,zBT,yu,zH,hf,zI]
    ·exact⟨rfl,rfl,rfl,rfl,rfl,rfl,rfl,rfl,rfl,rfl,rfl⟩
   | true=>rw[hb]at hf;simp only[zBv];have hw2:=zzw hb;obtain⟨q,h2,h3⟩:=ih (i+1) x ⟨ho1,by omega⟩ (by omega);refine⟨q,?_,h3⟩;rw[<- h2];apply zp;unfold wv;simp only[xr,z6,zu,zl,c1,JG,YG,zg _ i l.length h1,zc7,hx,zC,yP,hdx,zm,zM,zN,za,Option.getD_some,zBT,yu,zH,hf,yX,yQ (i:=i) (by omega)]
theorem zwA(t:Tree)(l:List OpR)(w:Int)(hw:w<=900000)(ht:Sz t)(hc:P0 xo [.v t.val] []=some (.bool true,[]))(hl:l.length<=60)(hg : ∀ o,o∈l->P0 qa [.v o.val] []=some (.bool true,[]))(hd:zzC l) :
  P0 vn [.v t.val,.v (.sl (zbM l)),.v (.int .i64 w)] []=some (zwj (zc8 w t l 0),[]):=by
 obtain⟨o,h1,h2⟩:=zug l (by omega) w hw hd l.length 0 t ht (by omega);rw[zU]at h2;rw[show((0:Nat):Int)=0 from rfl]at h1;rw[zcp];unfold Kh;cases hq:zc8 w t l 0 with
 | inl u=>rw[hq]at h2;obtain⟨e1,e2⟩:=h2;simp only[zu,za,z5,hc,yu,zH,zBv,zeI l hl hg,zb,YG,h1,e1,e2,zwj]
 | inr p=>obtain⟨j,c⟩:=p;rw[hq]at h2;obtain⟨e1,e2,e3,f3,f4,f5,f6,f7,f8,f9,f10⟩:=h2;simp only[zu,za,z5,hc,yu,zH,zBv,zeI l hl hg,zb,YG,h1,e1,e2,e3,f3,f4,f5,f6,f7,f8,f9,f10,zwj,zBM,KJ]
end
section
attribute [local irreducible] P0
theorem zsO(f:Nat)(hb:Nat.blt f wX=true)(l:List Str)(hl:l.length<=1000000)(hg : ∀ o,o∈l->P0 f [.v (.str o)] []=some (.bool false,[]))(m:Nat) : ∀ i,i+m=l.length ->
  zr (ya l.length (.sl (strs l)) f) (vec [.int .i64 (i:Int)])=some (0,vec []):=by
 induction m with
 | zero=>
  intro i hi;apply zh;unfold ya;have c1 : ¬ (i:Int)<(l.length:Int):=by omega
  simp only[zu,zv,zl,c1,zBy]
 | succ m ih=>
  intro i hi;have h1:i<l.length:=by omega
  have c1:(i:Int)<(l.length:Int):=by omega
  have hx:l[i]?=some l[i]:=zL h1;have hgx:=hg l[i] (zCg _);rw[<- ih (i+1) (by omega)];apply zp;unfold ya;simp only[z6,zu,zv,zl,c1,z7,zd,zg _ i l.length h1,yx,hx,zC,yo,hb,hgx,yX,yQ (i:=i) (by omega)]
def zpu(s:Str):Bool:=decide (s.length<=2000)&&zku s
theorem zvt(l:List Str)(hl:l.length<=63)(hg : ∀ s,s∈l->s.length<=2000/\zku s=true):P0 qU [.v (.sl (strs l))] []=some (.bool true,[]):=by
 have hf : ∀ s,s∈l->P0 wz [.v (.str s)] []=some (.bool false,[]):=by
  intro s hs;obtain⟨h1,h2⟩:=hg s hs;have c : ¬ ((s.length:Nat):Int)>2000:=by omega
  rw[zaQ];unfold Ql;simp only[xO,wW,c,zBy,zBv,zd5 s (by omega),h2,yu,zH]
 have h:=zsO wz rfl l (by omega) hf l.length 0 (by omega);rw[show((0:Nat):Int)=0 from rfl]at h;have c:((l.length:Nat):Int)<=63:=by omega
 have c2 : ¬ (0:Int) <= -1:=by decide
 have h2:P0 yr [.v (.sl (strs l)),.fn wz []] []=some (.bool false,[]):=by rw[qI];unfold wS;rw[jc];unfold vf;simp only[xO,zb,zd,h,zBv,qY,c2,zBy]
 rw[ze2];unfold zbK;simp only[xO,zb,zd,c,zBx,zBv,h2,yu,zI]
theorem zxb(t:Tree)(h:t.kind≠0):P0 kJ [.v t.val] []=some (.bool false,[]):=by rw[zeY];unfold zbD;simp only[zu,za,z5,xE,zq,h,zBy]
theorem zxO(o:OpR)(ho:o.op=1)(hf:o.from'=[])(hk:o.value.kind≠0)(hv:P0 xo [.v o.value.val] []=some (.bool true,[]))(hp:P0 qU [.v (.sl (strs o.path))] []=some (.bool true,[])):P0 qa [.v o.val] []=some (.bool true,[]):=by
 have e0:(((0:Nat):Int)==0)=true:=rfl;have e4 : ¬ ((1:Int)=4):=by decide
 have e5 : ¬ ((1:Int)=5):=by decide
 rw[ziU];unfold zea;simp only[xr,z6,zu,yP,wr,wq,vP,hf,zb,zd,zBH,e0,wD,zxb _ hk,ho,zq,e4,e5,zBy,hv,hp,Nat.reduceSub,Nat.reduceEqDiff,zBM]
end
section
attribute [local irreducible] P0
def f2:Tree := .mk 2 false .zero [] [] []
def Ww:AL:=[([97],arr [null])]
def zn6:AL:=[([97],arr [null,f2])]
def awQ15:OpR:=⟨1,[[97],[45]],[],f2⟩
theorem zzY:OkT (obj Ww):=by refine .obj Ww ⟨by simp[Ww],trivial⟩ (by decide) (by decide) (fun q hq => ?_);simp only[Ww,List.mem_singleton]at hq;subst hq;refine .arr [null] (by decide) (fun x hx => ?_);rw[List.mem_singleton.1 hx];exact .null
theorem zAd:Sz (obj Ww):=by have e0:OrdT null := .mk _ (fun h=>by simp[null,Tree.kind]at h) (by rw[Y0 (by simp[null,Tree.kind])];trivial) (fun x hx=>by simp[null,Tree.n,Nm.zero]at hx) (by simp[null,Tree.n,Nm.zero]) (by simp[null,Tree.k]) (fun x hx=>by simp[null,Tree.v]at hx);refine⟨zcL ⟨by simp[Ww],trivial⟩ (fun q hq => ?_),by decide⟩;simp only[Ww,List.mem_singleton]at hq;subst hq;exact zmV (fun x hx=>by rw[List.mem_singleton.1 hx];exact e0)
theorem zzP:OrdT f2 := .mk _ (fun h=>by simp[f2,Tree.kind]at h) (by rw[Y0 (by simp[f2,Tree.kind])];trivial) (fun x hx=>by simp[f2,Tree.n,Nm.zero]at hx) (by simp[f2,Tree.n,Nm.zero]) (by simp[f2,Tree.k]) (fun x hx=>by simp[f2,Tree.v]at hx)
theorem zyp:vl (obj Ww) awQ15=some (obj zn6):=by
 unfold vl;rw[zBu (show awQ15.op=1 from rfl)];show QC (obj Ww) [[97],[45]] f2=_;unfold QC;rw[zBt (by simp)];have h1:xy (obj Ww) [[97]]=some (arr [null]):=by rfl
 show(xy (obj Ww) [[97]]).bind _=_;rw[h1,zD,zBt (by decide),zBu (by decide)];rfl
theorem zzK:zqK (obj zn6) 100=true:=by decide
theorem zAD:zzC [awQ15] where
 does o ho t ht:=by rw[List.mem_singleton.1 ho];exact zpY t awQ15 ht rfl (by simp[awQ15])
 ord o ho t r ht h:=by
  rw[List.mem_singleton.1 ho]at h;have h:QC t [[97],[45]] f2=some r:=h;obtain⟨h1,h2⟩:=zwD ht.ord zzP h;have:=ht.w;have:yk f2=1:=by decide
  exact⟨h1,by omega⟩
theorem zzn:P0 qa [.v awQ15.val] []=some (.bool true,[]):=by refine zxO awQ15 rfl rfl (by simp[awQ15,f2,Tree.kind]) (VD (.bool false) (by decide) (by decide)) (zvt _ (by simp[awQ15]) (fun s hs => ?_));simp only[awQ15,zS,List.not_mem_nil,or_false]at hs;rcases hs with rfl | rfl<;>exact⟨by decide,zm3 (by decide)⟩
theorem zvc:P0 vn [.v (.agg [(.int .i64 7),(.bool false),(.bool false),(.sl []),(.int .i64 0),(.str []),(.sl [(.str [97])]),(.sl [(.agg [(.int .i64 6),(.bool false),(.bool false),(.sl []),(.int .i64 0),(.str []),(.sl []),(.sl [(.agg [(.int .i64 1),(.bool false),(.bool false),(.sl []),(.int .i64 0),(.str []),(.sl []),(.sl [])])])])])]),.v (.sl [(.agg [(.int .i64 1),(.sl [(.str [97]),(.str [45])]),(.sl []),(.int .i64 2),(.bool false),(.bool false),(.sl []),(.int .i64 0),(.str []),(.sl []),(.sl [])])]),.v (.int .i64 100)] [] =
  some (.tup [(obj zn6).val,.int .i64 (-1),.int .i64 0],[]):=by
 have ev:(obj Ww).val = .agg [(.int .i64 7),(.bool false),(.bool false),(.sl []),(.int .i64 0),(.str []),(.sl [(.str [97])]),(.sl [(.agg [(.int .i64 6),(.bool false),(.bool false),(.sl []),(.int .i64 0),(.str []),(.sl []),(.sl [(.agg [(.int .i64 1),(.bool false),(.bool false),(.sl []),(.int .i64 0),(.str []),(.sl []),(.sl [])])])])])]:=by rw[Zi];rfl
 have eo:zbM [awQ15]=[(.agg [(.int .i64 1),(.sl [(.str [97]),(.str [45])]),(.sl []),(.int .i64 2),(.bool false),(.bool false),(.sl []),(.int .i64 0),(.str []),(.sl []),(.sl [])])]:=rfl;have ea:zc8 100 (obj Ww) [awQ15] 0 = .inl (obj zn6):=by rw[zc8,zyp];dsimp only;rw[zBu zzK,zc8]
 have h:=zwA (obj Ww) [awQ15] 100 (by decide) zAd (VD zzY (by decide) (by decide)) (by simp) (fun o ho=>by rw[List.mem_singleton.1 ho];exact zzn) zAD;rw[ea,ev,eo]at h;exact h
theorem zms:P0 ql [] []=some (.bool true,[]):=by
 have ev:(obj zn6).val = .agg [(.int .i64 7),(.bool false),(.bool false),(.sl []),(.int .i64 0),(.str []),(.sl [(.str [97])]),(.sl [(.agg [(.int .i64 6),(.bool false),(.bool false),(.sl []),(.int .i64 0),(.str []),(.sl []),(.sl [(.agg [(.int .i64 1),(.bool false),(.bool false),(.sl []),(.int .i64 0),(.str []),(.sl []),(.sl [])]),(.agg [(.int .i64 2),(.bool false),(.bool false),(.sl []),(.int .i64 0),(.str []),(.sl []),(.sl [])])])])])]:=by rw[Zi];rfl
 rw[ziT];unfold zaq;simp only[xO,zvc,ev];rfl
end
section
attribute [local irreducible] P0
theorem zhI(t:Tree)(p:List Str)(h:Sz t)(hp:p.length<=1000000):P0 Zc [.v t.val,.v (.sl (strs p))] []=some (wi (zdZ t p),[]):=by
 rw[zj6];unfold zc4;unfold zdZ;by_cases hn:p=[]
 ·subst hn;have c : ¬ (((0:Nat):Int)>0):=by decide
  rw[zBu rfl];simp only[zu,za,z5,zb,zd,zBH,c,zBy,w6,qJ,zm,zM,zN,wi]
 rw[zBt hn];have c:((p.length:Nat):Int)>0:=by have:=List.length_pos_iff.2 hn;omega
 have hup:p.dropLast.length<=1000000:=by rw[List.length_dropLast];omega
 have hg:=K2 t p h hp;have hs:=zpG p hn hp;cases hy:xy t p with
 | none=>rw[hy]at hg;simp only[z6,zu,za,zb,zd,c,w6,zm,zM,zN,hg,wi,qJ,zBX]
 | some y=>
  rw[hy]at hg;obtain⟨x,hx,hc⟩:=zny hn hy;have hg2:=K2 t p.dropLast h hup;rw[hx]at hg2;have hsz:=h.get hx;rw[hx,zD,zD];by_cases hk:x.kind=7
  ·have e:zlX x (wk p)=obj (Vl (wk p) (al x)):=zBu hk;rw[e];have hu:=zw0 x (wk p) (zBK (zgR x) hsz.v);rw[zoG hk hc]at hu;have hput:=zb7 t p.dropLast (obj (Vl (wk p) (al x))) h hup;cases hq:Y6 t p.dropLast (obj (Vl (wk p) (al x)))with
   | none=>rw[hq]at hput;simp only[z6,zu,za,zb,zd,c,w6,zm,zM,zN,hg,hs,hg2,wi,xE,zq,hk,hu,hput,qJ]
   | some z=>rw[hq]at hput;simp only[xO,z6,za,zb,zd,c,w6,zm,zM,zN,zf,hg,hs,hg2,wi,xE,zq,hk,hu,hput]
  ·have hk6:x.kind=6:=(zbG hc).resolve_right hk;obtain⟨i,h1,h2,h3⟩:=zdN hk6 hc;have e:zlX x (wk p)=arr (x.v.take i++x.v.drop (i+1)):=by unfold zlX;rw[zBt hk,h1];rfl
   rw[e];have hi:=zgn (wk p) (x.v.length:Int);rw[zub h1 (b:=(x.v.length:Int)) (by omega)]at hi;have hi:P0 xv [.v (.str (wk p)),.v (.int .i64 (x.v.length:Int))] []=some (.tup [.int .i64 (i:Int),.bool true],[]):=hi;have hxl:=hsz.v;have hb1:=zbE .i64 (i:Int) x.v.length ⟨by omega,by omega⟩;have hb2:=XQ .i64 ((i+1:Nat):Int) x.v.length ⟨by omega,by omega⟩;rw[zCa]at hb1 hb2;have hcc:=zkF (x.v.take i) (x.v.drop (i+1)) (by rw[zBI];omega) (by rw[zBJ];omega);have hdt:(x.v.drop (i+1)).take (x.v.length-(i+1))=x.v.drop (i+1):=by rw[zV];rw[zBJ];exact zR _
   have hput:=zb7 t p.dropLast (arr (x.v.take i++x.v.drop (i+1))) h hup;rw[zsa]at hput;have k7 : ¬ ((6:Int)=7):=by decide
   cases hq:Y6 t p.dropLast (arr (x.v.take i++x.v.drop (i+1)))with
   | none=>rw[hq]at hput;simp only[z6,zu,za,zb,zd,c,w6,zm,zM,zN,hg,hs,hg2,wi,xE,zq,hk6,k7,zBy,xI,zi,hi,yW,hb1,yX,yQ (i:=i) (by omega),hb2,zU,Nat.sub_zero,X6,VH,hdt,hcc,Qh,vE,hput,qJ]
   | some z=>rw[hq]at hput;simp only[z6,zu,za,zb,zd,c,w6,zm,zM,zN,hg,hs,hg2,wi,xE,zq,hk6,k7,zBy,xI,zi,hi,yW,hb1,yX,yQ (i:=i) (by omega),hb2,zU,Nat.sub_zero,X6,VH,hdt,hcc,Qh,vE,hput]
theorem zwE(t:Tree)(a b:List Str)(h:Sz t)(ha:a.length<=1000000)(hb:b.length<=1000000):P0 V0 [.v t.val,.v (.sl (strs a)),.v (.sl (strs b))] []=some (wi (znd t a b),[]):=by
 rw[znV];unfold ziE;unfold znd;have hg:=K2 t a h ha;have hq:=seq_ok a b ha;have hst:=zrn a b ha;cases hv:xy t a with
 | none=>rw[hv]at hg;simp only[zu,za,z5,hg,wi,qJ,zm,zM,zN,zBX]
 | some v=>
  rw[hv]at hg;rw[zD];by_cases hab:a=b
  ·rw[zBu hab];have hd:decide (a=b)=true:=zBz hab;rw[hd]at hq;simp only[xO,za,z5,hg,wi,zm,zM,zN,zf,zBv,hq]
  rw[zBt hab];have hd:decide (a=b)=false:=zBA hab;rw[hd]at hq;by_cases hn:a=[]
  ·subst hn;have c : ¬ (((0:Nat):Int)>0):=by decide
   rw[zBu (.inl rfl)];simp only[zu,za,z5,hg,wi,zm,zM,zN,zBv,hq,zb,zd,zBH,c,zBy,w6,qJ]
  have c:((a.length:Nat):Int)>0:=by have:=List.length_pos_iff.2 hn;omega
  have hst:P0 wl [.v (.sl (strs a)),.v (.sl (strs b))] []=some (.bool (zgq a b),[]):=hst;cases hs:zgq a b with
  | true=>rw[hs]at hst;rw[zBu (.inr rfl)];simp only[z6,zu,za,hg,wi,zm,zM,zN,hq,zb,zd,c,hst,yu,zH,w6,qJ]
  | false=>
   rw[hs]at hst;rw[zBt (fun e=>by rcases e with e | e;exact hn e;cases e)];have hr:=zhI t a h ha;cases hx:zdZ t a with
   | none=>rw[hx]at hr;simp only[z6,zu,za,hg,wi,zm,zM,zN,hq,zb,zd,c,hst,yu,zI,w6,qJ,hr,zBX]
   | some x=>
    rw[hx]at hr;obtain⟨o1,o2⟩:=zwF h.ord hx;have hsx:Sz x:=⟨o1,by have:=h.w;omega⟩
    have had:=znf x b v hsx hb;rw[zD];cases hz:QC x b v with
    | none=>rw[hz]at had;simp only[z6,zu,za,hg,wi,zm,zM,zN,hq,zb,zd,c,hst,yu,zI,w6,qJ,hr,had]
    | some z=>rw[hz]at had;simp only[z6,zu,za,hg,wi,zm,zM,zN,hq,zb,zd,c,hst,yu,zI,w6,hr,had]
theorem zvG(t:Tree)(o:OpR)(h:Sz t)(ho:o.op=2)(hp:o.path.length<=1000000):P0 wo [.v t.val,.v o.val] []=some (wi (zdZ t o.path),[]):=by
 rw[kS];unfold kI;have ha:=zhI t o.path h hp;have n1 : ¬ ((2:Int)=1):=by decide
 cases hx:zdZ t o.path with
 | none=>rw[hx]at ha;simp only[z6,zu,za,yP,wr,wq,ho,zq,n1,zBy,ha,wi,qJ,zm,zM,zN]
 | some x=>rw[hx]at ha;simp only[z6,zu,za,yP,wr,wq,ho,zq,n1,zBy,ha,wi,zm,zM,zN]
theorem zws(t:Tree)(o:OpR)(h:Sz t)(ho:o.op=4)(hp:o.path.length<=1000000)(hf:o.from'.length<=1000000):P0 wo [.v t.val,.v o.val] []=some (wi (znd t o.from' o.path),[]):=by
 rw[kS];unfold kI;have ha:=zwE t o.from' o.path h hf hp;have n1 : ¬ ((4:Int)=1):=by decide
 have n2 : ¬ ((4:Int)=2):=by decide
 have n3 : ¬ ((4:Int)=3):=by decide
 cases hx:znd t o.from' o.path with
 | none=>rw[hx]at ha;simp only[z6,zu,za,yP,wr,wq,vP,ho,zq,n1,n2,n3,zBy,ha,wi,qJ,zm,zM,zN]
 | some x=>rw[hx]at ha;simp only[z6,zu,za,yP,wr,wq,vP,ho,zq,n1,n2,n3,zBy,ha,wi,zm,zM,zN]
theorem zwV(t:Tree)(o:OpR)(h:Sz t)(ho:o.op=5)(hp:o.path.length<=1000000)(hf:o.from'.length<=1000000):P0 wo [.v t.val,.v o.val] []=some (wi ((xy t o.from').bind fun v=>QC t o.path v),[]):=by
 rw[kS];unfold kI;have hg:=K2 t o.from' h hf;have n1 : ¬ ((5:Int)=1):=by decide
 have n2 : ¬ ((5:Int)=2):=by decide
 have n3 : ¬ ((5:Int)=3):=by decide
 have n4 : ¬ ((5:Int)=4):=by decide
 cases hx:xy t o.from' with
 | none=>rw[hx]at hg;simp only[z6,zu,za,yP,wr,wq,vP,ho,zq,n1,n2,n3,n4,zBy,hg,wi,qJ,zm,zM,zN,zBX]
 | some v=>
  rw[hx]at hg;have ha:=znf t o.path v h hp;rw[zD];cases hq:QC t o.path v with
  | none=>rw[hq]at ha;simp only[z6,zu,za,yP,wr,wq,vP,ho,zq,n1,n2,n3,n4,zBy,hg,ha,wi,qJ,zm,zM,zN]
  | some x=>rw[hq]at ha;simp only[z6,zu,za,yP,wr,wq,vP,ho,zq,n1,n2,n3,n4,zBy,hg,ha,wi,zm,zM,zN]
end
section
attribute [local irreducible] P0
theorem zw3(t:Tree)(o:OpR)(h:Sz t)(ho:o.op=3)(hp:o.path.length<=1000000):P0 wo [.v t.val,.v o.val] []=some (wi (Y6 t o.path o.value),[]):=by
 rw[kS];unfold kI;have ha:=zb7 t o.path o.value h hp;have n1 : ¬ ((3:Int)=1):=by decide
 have n2 : ¬ ((3:Int)=2):=by decide
 cases hx:Y6 t o.path o.value with
 | none=>rw[hx]at ha;simp only[z6,zu,za,yP,wr,wq,ho,zq,n1,n2,zBy,wD,ha,wi,qJ,zm,zM,zN]
 | some x=>rw[hx]at ha;simp only[z6,zu,za,yP,wr,wq,ho,zq,n1,n2,zBy,wD,ha,wi,zm,zM,zN]
theorem zvP(t:Tree)(o:OpR)(h:Sz t)(ho:o.op=6)(hp:o.path.length<=1000000)
  (hs : ∀ x,xy t o.path=some x -> ∃ r,P0 wc [.v x.val,.v o.value.val] []=some (.bool r,[])/\(r=true↔x=o.value)):P0 wo [.v t.val,.v o.val] []=some (wi (vl t o),[]):=by
 have e:vl t o=(xy t o.path).bind fun x=>(open Classical in if x=o.value then some t else none):=by unfold vl;rw[zBt (by omega),zBt (by omega),zBt (by omega),zBt (by omega),zBt (by omega),zBu ho]
 rw[e,kS];unfold kI;have hg:=K2 t o.path h hp;have n1 : ¬ ((6:Int)=1):=by decide
 have n2 : ¬ ((6:Int)=2):=by decide
 have n3 : ¬ ((6:Int)=3):=by decide
 have n4 : ¬ ((6:Int)=4):=by decide
 have n5 : ¬ ((6:Int)=5):=by decide
 cases hx:xy t o.path with
 | none=>rw[hx]at hg;simp only[z6,zu,za,yP,wr,wq,vP,ho,zq,n1,n2,n3,n4,n5,zBy,hg,wi,qJ,zm,zM,zN,zBX]
 | some x=>
  rw[hx]at hg;obtain⟨r,hr,hri⟩:=hs x hx;rw[zD];cases r with
  | true=>rw[zBu (hri.1 rfl)];simp only[z6,zu,za,yP,wr,wq,vP,ho,zq,n1,n2,n3,n4,n5,zBy,hg,wi,zm,zM,zN,wD,hr,w6]
  | false=>rw[zBt (fun e=>by have:=hri.2 e;contradiction)];simp only[z6,zu,za,yP,wr,wq,vP,ho,zq,n1,n2,n3,n4,n5,zBy,hg,wi,zm,zM,zN,wD,hr,w6,qJ]
theorem zxR(t:Tree)(o:OpR)(h:Sz t)(ho:1<=o.op/\o.op<=6)(hp:o.path.length<=1000000)(hf:o.from'.length<=1000000)
  (hs:o.op=6 -> ∀ x,xy t o.path=some x -> ∃ r,P0 wc [.v x.val,.v o.value.val] []=some (.bool r,[])/\(r=true↔x=o.value)):P0 wo [.v t.val,.v o.val] []=some (wi (vl t o),[]):=by
 by_cases h1:o.op=1
 ·exact zpY t o h h1 hp
 by_cases h2:o.op=2
 ·have e:vl t o=zdZ t o.path:=by unfold vl;rw[zBt h1,zBu h2]
  rw[e];exact zvG t o h h2 hp
 by_cases h3:o.op=3
 ·have e:vl t o=Y6 t o.path o.value:=by unfold vl;rw[zBt h1,zBt h2,zBu h3]
  rw[e];exact zw3 t o h h3 hp
 by_cases h4:o.op=4
 ·have e:vl t o=znd t o.from' o.path:=by unfold vl;rw[zBt h1,zBt h2,zBt h3,zBu h4]
  rw[e];exact zws t o h h4 hp hf
 by_cases h5:o.op=5
 ·have e:vl t o=(xy t o.from').bind fun v=>QC t o.path v:=by unfold vl;rw[zBt h1,zBt h2,zBt h3,zBt h4,zBu h5]
  rw[e];exact zwV t o h h5 hp hf
 ·have h6:o.op=6:=by omega
  exact zvP t o h h6 hp (hs h6)
end
section
attribute [local irreducible] P0
theorem zwc(f:Nat)(hb:Nat.blt f wX=true)(g:Str->Bool)(l:List Str)(hl:l.length<=1000000)(hg : ∀ o,o∈l->P0 f [.v (.str o)] []=some (.bool (g o),[]))(m:Nat) : ∀ i,i+m=l.length ->
  ∃ j v,zr (ya l.length (.sl (strs l)) f) (vec [.int .i64 (i:Int)])=some (j,v)/\((l.drop i).any g=true->j=1 /\ ∃ q:Nat,v=vec [.int .i64 (q:Int)])/\((l.drop i).any g=false->j=0):=by
 induction m with
 | zero=>
  intro i hi;refine⟨0,vec [],zh ?_,fun h => ?_,fun _=>rfl⟩
  ·unfold ya;have c1 : ¬ (i:Int)<(l.length:Int):=by omega
   simp only[zu,zv,zl,c1,zBy]
  ·rw[zQ (by omega)]at h;cases h
 | succ m ih=>
  intro i hi;have h1:i<l.length:=by omega
  have c1:(i:Int)<(l.length:Int):=by omega
  have hx:l[i]?=some l[i]:=zL h1;have hgx:=hg l[i] (zCg _);rw[zO h1];cases hq:g l[i]with
  | true=>refine⟨1,vec [.int .i64 (i:Int)],zh ?_,fun _=>⟨rfl,i,rfl⟩,fun h=>by simp only[List.any_cons,hq,Bool.true_or]at h;contradiction⟩;rw[hq]at hgx;unfold ya;simp only[xO,z6,zv,zl,c1,zf,z7,zd,zg _ i l.length h1,yx,hx,zC,yo,hb,hgx]
  | false=>obtain⟨j,v,h1',h2,h3⟩:=ih (i+1) (by omega);refine⟨j,v,?_,fun h=>h2 (by simpa only[List.any_cons,hq,Bool.false_or]using h),fun h=>h3 (by simpa only[List.any_cons,hq,Bool.false_or]using h)⟩;rw[<- h1'];rw[hq]at hgx;apply zp;unfold ya;simp only[z6,zu,zv,zl,c1,z7,zd,zg _ i l.length h1,yx,hx,zC,yo,hb,hgx,yX,yQ (i:=i) (by omega)]
theorem ztB(f:Nat)(hb:Nat.blt f wX=true)(g:Str->Bool)(l:List Str)(hl:l.length<=1000000)(hg : ∀ o,o∈l->P0 f [.v (.str o)] []=some (.bool (g o),[])):P0 yr [.v (.sl (strs l)),.fn f []] []=some (.bool (l.any g),[]):=by
 obtain⟨j,v,h1,h2,h3⟩:=zwc f hb g l hl hg l.length 0 (by omega);rw[zU]at h2 h3;rw[show((0:Nat):Int)=0 from rfl]at h1;rw[qI];unfold wS;rw[jc];unfold vf;simp only[xO,zb,zd,h1];cases hq:l.any g with
 | true=>obtain⟨rfl,m,rfl⟩:=h2 hq;have c:(0:Int)<=(m:Int):=zY m;simp only[xO,zBM,zBw,zv,qY,c,zBx]
 | false=>
  have:=h3 hq;subst this;have c : ¬ (0:Int) <= -1:=by decide
  simp only[xO,zBv,qY,c,zBy]
def YI(l:List Str):Bool:=decide (l.length<=63)&&l.all zpu
theorem ztq(l:List Str):l.all zpu = !(l.any fun s => !zpu s):=by
 induction l with
 | nil=>rfl
 | cons s r ih=>rw[List.all_cons,List.any_cons,ih];cases zpu s<;>simp
theorem zlx(l:List Str)(hs : ∀ s,s∈l->s.length<=1000000000):P0 qU [.v (.sl (strs l))] []=some (.bool (YI l),[]):=by
 rw[ze2];unfold zbK YI;by_cases h:l.length<=63
 ·have hf : ∀ s,s∈l->P0 wz [.v (.str s)] []=some (.bool (!zpu s),[]):=by
   intro s hm;rw[zaQ];unfold Ql zpu;by_cases c:s.length<=2000
   ·have c' : ¬ ((s.length:Nat):Int)>2000:=by omega
    simp only[xO,wW,c',zBy,zBv,zd5 s (by omega),yu,c,zBx,Bool.true_and]
   ·have c':((s.length:Nat):Int)>2000:=by omega
    simp only[xO,wW,c',zBx,zX,zBw,c,zBy,Bool.false_and,zI]
  have hc:=ztB wz rfl _ l (by omega) hf;have c:((l.length:Nat):Int)<=63:=by omega
  rw[ztq];simp only[xO,zb,zd,c,zBx,zBv,hc,yu,h,Bool.true_and]
 ·have c : ¬ ((l.length:Nat):Int)<=63:=by omega
  simp only[xO,zb,zd,c,zBy,zF,zBw,h,Bool.false_and]
def znz(t:Tree):Bool:=decide (t.kind=0) && !t.b && !t.n.neg&&(((t.n.m.length:Nat):Int)==0)&&decide (t.n.e=0)&&decide (t.s=[])&&(((t.k.length:Nat):Int)==0)&&(((t.v.length:Nat):Int)==0)
theorem zb1(s:Str):(s==([]:Str))=decide (s=[]):=by cases s<;>rfl
theorem zuo(t:Tree):P0 kJ [.v t.val] []=some (.bool (znz t),[]):=by
 rw[zeY];unfold zbD znz;by_cases h0:t.kind=0
 ·cases hb:t.b with
  | true=>simp only[z6,zu,za,xE,Va,zq,h0,hb,yu,zH,Bool.and_false,Bool.false_and]
  | false=>
   cases hn:t.n.neg with
   | true=>simp only[z6,zu,za,xE,Va,Jo,zq,h0,hb,hn,yu,zH,zI,Bool.and_false,Bool.false_and,Bool.true_and]
   | false=>
    cases h3:(((t.n.m.length:Nat):Int)==0)with
    | false=>simp only[z6,zu,za,xE,Va,Jo,zgU,zjT,We,qG,xI,zq,vm,zb1,zb,z8,zd,zi,h0,hb,hn,yu,zI,Bool.true_and,h3,zBy,Bool.and_false,Bool.false_and]
    | true=>
     by_cases h4:t.n.e=0
     ·by_cases h5:t.s=[]
      ·cases h6:(((t.k.length:Nat):Int)==0)with
       | false=>simp only[z6,zu,za,xE,Va,Jo,zgU,zjT,We,qG,xI,zq,vm,zb1,zb,z8,zd,zi,h0,hb,hn,yu,zI,Bool.true_and,h3,h4,h5,h6,zBy,Bool.and_false,Bool.false_and]
       | true=>simp only[xO,z6,za,xE,Va,Jo,zgU,zjT,We,qG,xI,zq,vm,zb1,zb,z8,zd,zi,h0,zf,hb,hn,yu,zI,Bool.true_and,h3,h4,h5,h6]
      ·simp only[z6,zu,za,xE,Va,Jo,zgU,zjT,We,qG,xI,zq,vm,zb1,zb,z8,zd,zi,h0,hb,hn,yu,zI,Bool.true_and,h3,h4,h5,zBy,Bool.and_false,Bool.false_and]
     ·simp only[z6,zu,za,xE,Va,Jo,zgU,zjT,We,qG,xI,zq,vm,zb1,zb,z8,zd,zi,h0,hb,hn,yu,zI,Bool.true_and,h3,h4,zBy,Bool.and_false,Bool.false_and]
 ·simp only[zu,za,z5,xE,zq,h0,zBy,Bool.and_false,Bool.false_and]
end
section
attribute [local irreducible] P0
def opB(o:OpR)(c:Bool):Bool:=
 if o.op=4\/o.op=5 then YI o.path&&YI o.from'&&znz o.value
 else if o.op=1\/o.op=3\/o.op=6 then YI o.path&&(((o.from'.length:Nat):Int)==0)&&c
 else if o.op=2 then YI o.path&&(((o.from'.length:Nat):Int)==0)&&znz o.value
 else false
theorem zye(o:OpR)(c:Bool)(hc:P0 xo [.v o.value.val] []=some (.bool c,[]))(hp : ∀ s,s∈o.path->s.length<=1000000000)(hf : ∀ s,s∈o.from'->s.length<=1000000000) :
  P0 qa [.v o.val] []=some (.bool (opB o c),[]):=by
 have h1:=zlx o.path hp;have h2:=zlx o.from' hf;have h3:=zuo o.value;rw[ziU];unfold zea opB;by_cases e4:o.op=4
 ·rw[e4];rw[zBu (show(4:Int)=4\/(4:Int)=5 from .inl rfl)];have n5 : ¬ ((4:Int)=5):=by decide
  have n1 : ¬ ((4:Int)=1):=by decide
  have n3 : ¬ ((4:Int)=3):=by decide
  have n6 : ¬ ((4:Int)=6):=by decide
  have n2 : ¬ ((4:Int)=2):=by decide
  cases hq:YI o.path with
  | false=>rw[hq]at h1;simp only[xr,z6,zu,e4,yP,wr,wq,vP,zb,zd,wD,h3,zq,h1,h2,hc,Nat.reduceSub,Nat.reduceEqDiff,zBM,zBy,n5,n1,n3,n6,n2,Bool.false_and]
  | true=>
   rw[hq]at h1;cases hm:YI o.from' with
   | false=>rw[hm]at h2;simp only[xr,z6,zu,e4,yP,wr,wq,vP,zb,zd,wD,h3,zq,h1,h2,hc,Nat.reduceSub,Nat.reduceEqDiff,zBM,zBy,n5,n1,n3,n6,n2,hm,Bool.true_and,Bool.false_and]
   | true=>rw[hm]at h2;simp only[xr,z6,zu,e4,yP,wr,wq,vP,zb,zd,wD,h3,zq,h1,h2,hc,Nat.reduceSub,Nat.reduceEqDiff,zBM,zBy,n5,n1,n3,n6,n2,hm,Bool.true_and]
 by_cases e5:o.op=5
 ·rw[e5];rw[zBu (show(5:Int)=4\/(5:Int)=5 from .inr rfl)];have n4 : ¬ ((5:Int)=4):=by decide
  have n1 : ¬ ((5:Int)=1):=by decide
  have n3 : ¬ ((5:Int)=3):=by decide
  have n6 : ¬ ((5:Int)=6):=by decide
  have n2 : ¬ ((5:Int)=2):=by decide
  cases hq:YI o.path with
  | false=>rw[hq]at h1;simp only[xr,z6,zu,e5,yP,wr,wq,vP,zb,zd,wD,h3,zq,h1,h2,hc,Nat.reduceSub,Nat.reduceEqDiff,zBM,zBy,n4,n1,n3,n6,n2,Bool.false_and]
  | true=>
   rw[hq]at h1;cases hm:YI o.from' with
   | false=>rw[hm]at h2;simp only[xr,z6,zu,e5,yP,wr,wq,vP,zb,zd,wD,h3,zq,h1,h2,hc,Nat.reduceSub,Nat.reduceEqDiff,zBM,zBy,n4,n1,n3,n6,n2,hm,Bool.true_and,Bool.false_and]
   | true=>rw[hm]at h2;simp only[xr,z6,zu,e5,yP,wr,wq,vP,zb,zd,wD,h3,zq,h1,h2,hc,Nat.reduceSub,Nat.reduceEqDiff,zBM,zBy,n4,n1,n3,n6,n2,hm,Bool.true_and]
 by_cases e1:o.op=1
 ·rw[e1];rw[zBt (by decide),zBu (by decide)];have n4 : ¬ ((1:Int)=4):=by decide
  have n5 : ¬ ((1:Int)=5):=by decide
  have n3 : ¬ ((1:Int)=3):=by decide
  have n6 : ¬ ((1:Int)=6):=by decide
  have n2 : ¬ ((1:Int)=2):=by decide
  cases hq:YI o.path with
  | false=>rw[hq]at h1;simp only[xr,z6,zu,e1,yP,wr,wq,vP,zb,zd,wD,h3,zq,h1,h2,hc,Nat.reduceSub,Nat.reduceEqDiff,zBM,zBy,n4,n5,n3,n6,n2,Bool.false_and]
  | true=>
   rw[hq]at h1;cases hm:(((o.from'.length:Nat):Int)==0)with
   | false=>simp only[xr,z6,zu,e1,yP,wr,wq,vP,zb,zd,wD,h3,zq,h1,h2,hc,Nat.reduceSub,Nat.reduceEqDiff,zBM,zBy,n4,n5,n3,n6,n2,hm,Bool.true_and,Bool.false_and]
   | true=>simp only[xr,z6,zu,e1,yP,wr,wq,vP,zb,zd,wD,h3,zq,h1,h2,hc,Nat.reduceSub,Nat.reduceEqDiff,zBM,zBy,n4,n5,n3,n6,n2,hm,Bool.true_and]
 by_cases e3:o.op=3
 ·rw[e3];rw[zBt (by decide),zBu (by decide)];have n4 : ¬ ((3:Int)=4):=by decide
  have n5 : ¬ ((3:Int)=5):=by decide
  have n1 : ¬ ((3:Int)=1):=by decide
  have n6 : ¬ ((3:Int)=6):=by decide
  have n2 : ¬ ((3:Int)=2):=by decide
  cases hq:YI o.path with
  | false=>rw[hq]at h1;simp only[xr,z6,zu,e3,yP,wr,wq,vP,zb,zd,wD,h3,zq,h1,h2,hc,Nat.reduceSub,Nat.reduceEqDiff,zBM,zBy,n4,n5,n1,n6,n2,Bool.false_and]
  | true=>
   rw[hq]at h1;cases hm:(((o.from'.length:Nat):Int)==0)with
   | false=>simp only[xr,z6,zu,e3,yP,wr,wq,vP,zb,zd,wD,h3,zq,h1,h2,hc,Nat.reduceSub,Nat.reduceEqDiff,zBM,zBy,n4,n5,n1,n6,n2,hm,Bool.true_and,Bool.false_and]
   | true=>simp only[xr,z6,zu,e3,yP,wr,wq,vP,zb,zd,wD,h3,zq,h1,h2,hc,Nat.reduceSub,Nat.reduceEqDiff,zBM,zBy,n4,n5,n1,n6,n2,hm,Bool.true_and]
 by_cases e6:o.op=6
 ·rw[e6];rw[zBt (by decide),zBu (by decide)];have n4 : ¬ ((6:Int)=4):=by decide
  have n5 : ¬ ((6:Int)=5):=by decide
  have n1 : ¬ ((6:Int)=1):=by decide
  have n3 : ¬ ((6:Int)=3):=by decide
  have n2 : ¬ ((6:Int)=2):=by decide
  cases hq:YI o.path with
  | false=>rw[hq]at h1;simp only[xr,z6,zu,e6,yP,wr,wq,vP,zb,zd,wD,h3,zq,h1,h2,hc,Nat.reduceSub,Nat.reduceEqDiff,zBM,zBy,n4,n5,n1,n3,n2,Bool.false_and]
  | true=>
   rw[hq]at h1;cases hm:(((o.from'.length:Nat):Int)==0)with
   | false=>simp only[xr,z6,zu,e6,yP,wr,wq,vP,zb,zd,wD,h3,zq,h1,h2,hc,Nat.reduceSub,Nat.reduceEqDiff,zBM,zBy,n4,n5,n1,n3,n2,hm,Bool.true_and,Bool.false_and]
   | true=>simp only[xr,z6,zu,e6,yP,wr,wq,vP,zb,zd,wD,h3,zq,h1,h2,hc,Nat.reduceSub,Nat.reduceEqDiff,zBM,zBy,n4,n5,n1,n3,n2,hm,Bool.true_and]
 by_cases e2:o.op=2
 ·rw[e2];rw[zBt (by decide),zBt (by decide),zBu rfl];have n4 : ¬ ((2:Int)=4):=by decide
  have n5 : ¬ ((2:Int)=5):=by decide
  have n1 : ¬ ((2:Int)=1):=by decide
  have n3 : ¬ ((2:Int)=3):=by decide
  have n6 : ¬ ((2:Int)=6):=by decide
  cases hq:YI o.path with
  | false=>rw[hq]at h1;simp only[xr,z6,zu,e2,yP,wr,wq,vP,zb,zd,wD,h3,zq,h1,h2,hc,Nat.reduceSub,Nat.reduceEqDiff,zBM,zBy,n4,n5,n1,n3,n6,Bool.false_and]
  | true=>
   rw[hq]at h1;cases hm:(((o.from'.length:Nat):Int)==0)with
   | false=>simp only[xr,z6,zu,e2,yP,wr,wq,vP,zb,zd,wD,h3,zq,h1,h2,hc,Nat.reduceSub,Nat.reduceEqDiff,zBM,zBy,n4,n5,n1,n3,n6,hm,Bool.true_and,Bool.false_and]
   | true=>simp only[xr,z6,zu,e2,yP,wr,wq,vP,zb,zd,wD,h3,zq,h1,h2,hc,Nat.reduceSub,Nat.reduceEqDiff,zBM,zBy,n4,n5,n1,n3,n6,hm,Bool.true_and]
 ·rw[zBt (by omega),zBt (by omega),zBt e2];simp only[xr,z6,zu,yP,wr,wq,vP,zb,zd,wD,h3,zq,h1,h2,hc,Nat.reduceSub,Nat.reduceEqDiff,zBM,zBy,e4,e5,e1,e3,e6,e2]
end
section
attribute [local irreducible] P0
theorem zu3(l:List Str)(hl:l.length<=1000000):P0 wR [.g,.v (.sl (strs l))] []=some (.sl (strs l),[]):=by rw[zey];unfold Jc;have ha:wZ 16 0 l.length=true:=xX _ _ _ (by omega) (by omega);simp only[xO,VQ,zBH,zd,ha,z5,List.nil_append]
end
section
attribute [local irreducible] P0
theorem zAh{t:Tree}(h:OkT t):w1 t<=2001:=by
 cases h with
 | null=>unfold w1;simp[Ev.null,Tree.kind]
 | bool b=>unfold w1;simp[Tree.kind]
 | num n h=>
  have:n.m.length<=1000:=by
   rcases h with⟨h1,_⟩ | ⟨_,_,h1,_⟩
   ·rw[h1];simp
   ·omega
  unfold w1;simp only[Tree.kind,Tree.n,zBv];omega
 | text s _ hl=>unfold w1;simp only[Tree.kind,Tree.s];simp;omega
 | bytes s hl=>unfold w1;simp only[Tree.kind,Tree.s];simp;omega
 | arr v _ _=>unfold w1;simp[Tree.kind]
 | obj l _ _ _ _=>unfold w1;simp[Ev.obj,Tree.kind]
theorem zrB{c d:Nat}{t:Tree}(h:Bnd c d t):OkT t->yk t<=2001*xT t:=by
 induction h with
 | mk d t hl hv ih=>
  intro ho;rw[wL,wV,Nat.mul_add];have h1:=zAh ho;have : ∀ l:List Tree,(∀ x,x∈l->yk x<=2001*xT x)->weightL l<=2001*nodesL l:=by
   intro l;induction l with
   | nil=>intro _;simp[weightL,nodesL]
   | cons x r ih=>intro h;rw[weightL,nodesL,Nat.mul_add];have:=h x (zBY ..);have:=ih (fun y hy=>h y (zP _ hy));omega
  have:=this t.v (fun x hx=>ih x hx (ho.sub x hx));omega
theorem zlE{t:Tree}(h:OkT t):OrdT t:=by
 have leaf : ∀ t:Tree,t.kind≠7->U32 t.n.m->t.n.m.length<=1000->t.k=[]->(∀ x,x∈t.v->OrdT x)->OrdT t:=fun t h1 h2 h3 h4 h5=>.mk t (fun e=>absurd e h1) (by rw[Y0 h1];trivial) h2 h3 (by rw[h4];exact Nat.zero_le _) h5
 have z0:U32 Nm.zero.m:=fun x hx=>by simp[Nm.zero]at hx
 induction h with
 | null=>exact OrdT.null
 | bool b=>exact leaf _ (by simp[Tree.kind]) z0 (Nat.zero_le _) rfl (fun x hx=>by simp[Tree.v]at hx)
 | num n h=>
  refine leaf _ (by simp[Tree.kind]) ?_ ?_ rfl (fun x hx=>by simp[Tree.v]at hx)
  ·rcases h with⟨h1,_⟩ | ⟨_,h1,_⟩
   ·show U32 n.m;rw[h1];exact fun x hx=>by simp at hx
   ·exact h1
  ·show n.m.length<=1000;rcases h with⟨h1,_⟩ | ⟨_,_,h1,_⟩
   ·rw[h1];simp
   ·omega
 | text s _ hl=>exact leaf _ (by simp[Tree.kind]) z0 (Nat.zero_le _) rfl (fun x hx=>by simp[Tree.v]at hx)
 | bytes s hl=>exact leaf _ (by simp[Tree.kind]) z0 (Nat.zero_le _) rfl (fun x hx=>by simp[Tree.v]at hx)
 | arr v _ _ ih=>exact leaf _ (by simp[Tree.kind]) z0 (Nat.zero_le _) rfl ih
 | obj l hs _ _ _ ih=>exact zcL hs ih
theorem zgB(p:List Str) : ∀ {t x:Tree},OkT t->xy t p=some x->OkT x:=by
 induction p with
 | nil=>intro t x ht h;injection h with h;subst h;exact ht
 | cons s r ih=>intro t x ht h;simp only[xy,zA]at h;obtain⟨y,hc,h⟩:=h;exact ih (ht.sub _ (Yk hc)) h
end
section
attribute [local irreducible] P0
def Tok(s:Str):Prop:=(dec8 s).isSome=true/\s.length<=2000
theorem zBp(k:Nat)(h:k<5) : ∃ s:Str,zjE false 5 1 (.agg [(.str [97]),(.str [48]),(.str [45]),(.str [110,101,119]),(.str [50])]) (.int .i64 (k:Int))=some (.str s)/\Tok s:=by
 have:k=0\/k=1\/k=2\/k=3\/k=4:=by omega
 rcases this with rfl | rfl | rfl | rfl | rfl<;>exact⟨_,rfl,by decide,by decide⟩
theorem zBc(k:Nat)(h:k<10) : ∃ s:Str,zjE false 10 1 (.agg [(.str [48]),(.str [49]),(.str [50]),(.str [51]),(.str [52]),(.str [53]),(.str [54]),(.str [55]),(.str [56]),(.str [57])]) (.int .i64 (k:Int))=some (.str s)/\Tok s:=by
 have:k=0\/k=1\/k=2\/k=3\/k=4\/k=5\/k=6\/k=7\/k=8\/k=9:=by omega
 rcases this with rfl | rfl | rfl | rfl | rfl | rfl | rfl | rfl | rfl | rfl<;>exact⟨_,rfl,by decide,by decide⟩
theorem OkT.name_len{t:Tree}(h:OkT t) : ∀ s,s∈t.k->Tok s:=by
 cases h with
 | obj l _ _ hn _=>exact fun s hs=>hn s hs
 | _=>intro s hs;simp[Ev.null,Tree.k]at hs
theorem Vq(p:List Str)(s:Str):strs p++[V.str s]=strs (p++[s]):=by rw[<- Ju];rfl
theorem JR(s:Str):yi 1 [V.str s]=true:=rfl
theorem zuT(l:List Int)(m:Nat) : ∀ (i:Nat) (t:Tree) (p:List Str),OkT t->i+m=4->p.length<=i->(∀ s,s∈p->Tok s) ->
  ∃ o q,zr (yI (.sl (ints l))) (vec [.sl (strs p),.int .i64 (i:Int),t.val])=some o/\o.2 0 = .sl (strs q)/\q.length<=4 /\ ∀ s,s∈q->Tok s:=by
 induction m with
 | zero=>
  intro i t p ht hi hp hs;refine⟨(0,vec [.sl (strs p),t.val]),p,zh ?_,rfl,by omega,hs⟩;unfold yI;have c4 : ¬ (i:Int)<4:=by omega
  by_cases hl:i<l.length
  ·have c:(i:Int)<(l.length:Int):=by omega
   simp only[xr,zu,zb,wE,zl,c,c4,zBx,zBy,zBv,zt]
  ·have c : ¬ (i:Int)<(l.length:Int):=by omega
   simp only[xr,zu,zb,wE,zl,c,zBy,zt]
 | succ m ih=>
  intro i t p ht hi hp hs;have c4:(i:Int)<4:=by omega
  by_cases hl:i<l.length;case neg=>
   refine⟨(0,vec [.sl (strs p),t.val]),p,zh ?_,rfl,by omega,hs⟩;unfold yI;have c : ¬ (i:Int)<(l.length:Int):=by omega
   simp only[xr,zu,zb,wE,zl,c,zBy,zt]
  have c:(i:Int)<(l.length:Int):=by omega
  have hx:l[i]?=some l[i]:=zL hl;obtain⟨r,hpl,hr,_⟩:=zrK l[i] 1048576 (by decide) (by decide);have hpl:P0 xF [.v (.int .i64 l[i]),.v (.int .i64 1048576)] []=some (.int .i64 (r:Int),[]):=hpl;have h5:zc .rem (.int .i64 (r:Int)) (.int .i64 5)=some (.int .i64 ((r%5:Nat):Int)):=zf9 r 5 (by decide);have h3:zc .rem (.int .i64 (r:Int)) (.int .i64 3)=some (.int .i64 ((r%3:Nat):Int)):=zf9 r 3 (by decide);have hq:zc .quo (.int .i64 (r:Int)) (.int .i64 15)=some (.int .i64 ((r/15:Nat):Int)):=zsY r 15 (by decide) (by omega);have hq5:zc .rem (.int .i64 ((r/15:Nat):Int)) (.int .i64 5)=some (.int .i64 ((r/15%5:Nat):Int)):=zf9 (r/15) 5 (by decide);obtain⟨s5,hs5,hs5l⟩:=zBp (r/15%5) (zBZ _ (by decide));have hap:wZ 16 p.length 1=true:=xX 16 p.length 1 (by omega) (by omega);have add : ∀ s:Str,Tok s->(p++[s]).length<=i+1 /\ ∀ x,x∈p++[s]->Tok x:=fun s hsl=>
   ⟨by rw[zZ,List.length_singleton];omega,fun x hx=>by
    rcases List.mem_append.1 hx with hx | hx
    ·exact hs x hx
    ·rw[List.mem_singleton.1 hx];exact hsl⟩
  have e5t:r%5=0->(((r%5:Nat):Int)=0):=fun h=>by omega
  have e5f : ¬ r%5=0 -> ¬ (((r%5:Nat):Int)=0):=fun h=>by omega
  -- the end, with one more or not
  have stop:(r%3=0->yI (.sl (ints l)) (vec [.sl (strs p),.int .i64 (i:Int),t.val])=some (.inr (1,vec [.sl (strs (p++[s5])),t.val]))) ->
    (¬ r%3=0->yI (.sl (ints l)) (vec [.sl (strs p),.int .i64 (i:Int),t.val])=some (.inr (1,vec [.sl (strs p),t.val]))) ->
    ∃ o q,zr (yI (.sl (ints l))) (vec [.sl (strs p),.int .i64 (i:Int),t.val])=some o/\o.2 0 = .sl (strs q)/\q.length<=4 /\ ∀ s,s∈q->Tok s:=by
   intro ha hb;by_cases c3:r%3=0
   ·exact⟨_,p++[s5],zh (ha c3),rfl,by have:=(add s5 hs5l).1;omega,(add s5 hs5l).2⟩
   ·exact⟨_,p,zh (hb c3),rfl,by omega,hs⟩
  by_cases k5:r%5=0
  ·have d5:=e5t k5;refine stop (fun c3 => ?_) (fun c3 => ?_)
   ·have d3:(((r%3:Nat):Int)=0):=by omega
    unfold yI;simp only[xO,xr,z6,zb,wE,zl,c,c4,zf,qC,zg _ i l.length hl,kj,hx,zC,xM,hpl,h5,zq,d5,zX,zBw,h3,d3,hq,hq5,hs5,qi,yo,JR,zt,zd,zBG,zBH,zBE,hap,Vq]
   ·have d3 : ¬ (((r%3:Nat):Int)=0):=by omega
    unfold yI;simp only[xr,zu,zb,wE,zl,c,c4,zBx,zBv,qC,zg _ i l.length hl,kj,hx,zC,xM,hpl,h5,zq,d5,zX,h3,d3,zBy,zt]
  have d5:=e5f k5;by_cases k6:t.v.length=0
  ·have d6:((((t.v.length:Nat):Int))==0)=true:=by rw[k6];rfl
   refine stop (fun c3 => ?_) (fun c3 => ?_)
   ·have d3:(((r%3:Nat):Int)=0):=by omega
    unfold yI;simp only[xO,xr,z6,zb,wE,zl,c,c4,zBy,zf,qC,zg _ i l.length hl,kj,hx,zC,xM,hpl,h5,zq,d5,xI,zi,d6,zX,zBw,h3,d3,hq,hq5,hs5,qi,yo,JR,zt,zd,zBG,zBH,zBE,hap,Vq]
   ·have d3 : ¬ (((r%3:Nat):Int)=0):=by omega
    unfold yI;simp only[xr,zu,zb,wE,zl,c,c4,zBx,zBy,zBv,qC,zg _ i l.length hl,kj,hx,zC,xM,hpl,h5,zq,d5,xI,zi,d6,zX,h3,d3,zt]
  have d6:((((t.v.length:Nat):Int))==0)=false:=by rw[beq_eq_false_iff_ne];omega
  have hkk:r/5%t.v.length<t.v.length:=zBZ _ (by omega);have hqq:zc .quo (.int .i64 (r:Int)) (.int .i64 5)=some (.int .i64 ((r/5:Nat):Int)):=zsY r 5 (by decide) (by omega);have hqr:zc .rem (.int .i64 ((r/5:Nat):Int)) (.int .i64 ((t.v.length:Nat):Int))=some (.int .i64 ((r/5%t.v.length:Nat):Int)):=zf9 (r/5) t.v.length (by omega);generalize r/5%t.v.length=kk at hkk hqr;have hv:t.v[kk]?=some t.v[kk]:=zL hkk;have hsub:=ht.sub t.v[kk] (zCg _);by_cases k7:t.kind=7
  ·have hlk:t.k.length=t.v.length:=ht.lens.2.2.2.2 k7;have hkl:kk<t.k.length:=by omega
   have hkx:t.k[kk]?=some t.k[kk]:=zL hkl;have hsl:=ht.name_len t.k[kk] (zCg _);obtain⟨o,q,h1,h2⟩:=ih (i+1) t.v[kk] (p++[t.k[kk]]) hsub (by omega) (add _ hsl).1 (add _ hsl).2;refine⟨o,q,?_,h2⟩;rw[<- h1];apply zp;unfold yI;simp only[xr,z6,zu,zb,wE,zl,c,c4,zBy,qC,zg _ i l.length hl,kj,hx,zC,xM,hpl,h5,zq,d5,xI,zi,d6,xE,k7,jK,zH,hqq,hqr,qG,z7,zd,zg _ kk t.k.length hkl,yx,hkx,qi,yo,JR,zt,zBG,zBH,zBE,hap,Vq,yW,zg _ kk t.v.length hkk,wC,hv,za,yX,yQ (i:=i) (by omega)]
  by_cases k8:t.kind=6
  ·obtain⟨s,hs1,hs2⟩:=zBc (kk%10) (zBZ _ (by decide));have hr10:zc .rem (.int .i64 (kk:Int)) (.int .i64 10)=some (.int .i64 ((kk%10:Nat):Int)):=zf9 kk 10 (by decide);obtain⟨o,q,h1,h2⟩:=ih (i+1) t.v[kk] (p++[s]) hsub (by omega) (add _ hs2).1 (add _ hs2).2;have n67 : ¬ ((6:Int)=7):=by decide
   refine⟨o,q,?_,h2⟩;rw[<- h1];apply zp;unfold yI;simp only[xr,z6,zu,zb,wE,zl,c,c4,zBy,qC,zg _ i l.length hl,kj,hx,zC,xM,hpl,h5,zq,d5,xI,zi,d6,xE,k8,n67,jK,zH,zI,hqq,hqr,hr10,hs1,qi,yo,JR,zt,zd,zBG,zBH,zBE,hap,Vq,yW,zg _ kk t.v.length hkk,wC,hv,za,yX,yQ (i:=i) (by omega)]
  refine stop (fun c3 => ?_) (fun c3 => ?_)
  ·have d3:(((r%3:Nat):Int)=0):=by omega
   unfold yI;simp only[xO,xr,z6,zb,wE,zl,c,c4,zBy,zf,qC,zg _ i l.length hl,kj,hx,zC,xM,hpl,h5,zq,d5,xI,zi,d6,xE,k7,k8,jK,zI,zX,zBw,h3,d3,hq,hq5,hs5,qi,yo,JR,zt,zd,zBG,zBH,zBE,hap,Vq]
  ·have d3 : ¬ (((r%3:Nat):Int)=0):=by omega
   unfold yI;simp only[xr,zu,zb,wE,zl,c,c4,zBx,zBy,zBv,qC,zg _ i l.length hl,kj,hx,zC,xM,hpl,h5,zq,d5,xI,zi,d6,xE,k7,k8,jK,zI,zX,h3,d3,zt]
theorem zzM(t:Tree)(h:OkT t)(l:List Int) : ∃ p:List Str,P0 k9 [.v t.val,.v (.sl (ints l))] []=some (.sl (strs p),[])/\p.length<=4 /\ ∀ s,s∈p->Tok s:=by
 obtain⟨o,q,h1,h2,h3,h4⟩:=zuT l 4 0 t [] h rfl (Nat.zero_le _) (fun s hs=>by simp at hs);refine⟨q,?_,h3,h4⟩;have h1:zr (yI (.sl (ints l))) (vec [.sl [],.int .i64 0,t.val])=some o:=h1;rw[znh];unfold zfH;by_cases h0:o.1=0
 ·simp only[xO,za,z5,h1,h0,zBv,h2,zt]
 ·simp only[xO,za,z5,h1,h0,zBw,h2,zt]
end
end Go.Ev
