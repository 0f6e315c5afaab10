/- What functions compute, put together. -/
import Derived.Test.YtnefgdahdccldaaDoorKSC
import Derived.Test.YtnefgdahdccldaaDoorKSB
set_option linter.all false
open Option renaming bind_eq_some_iff→zA,map_some→zC,bind_some→zD
open Bool renaming false_eq_true→zF,and_eq_true→zG,not_true→zH,not_false→zI
open List renaming getElem?_eq_getElem→zL,getElem?_cons_zero→zM,getElem?_cons_succ→zN,drop_eq_getElem_cons→zO,drop_eq_nil_of_le→zQ,mem_cons→zS,drop_zero→zU
section
namespace Go.Ev
attribute [local irreducible] P0
def Y9(l:List OpR):List V:=l.map OpR.val
theorem vO(l:List OpR):(Y9 l).length=l.length:=List.length_map ..
theorem Jq(l:List OpR)(i:Nat):(Y9 l)[i]?=(l[i]?).map OpR.val:=List.getElem?_map ..
theorem ZB(o:OpR):okN 11 o.val=true:=rfl
theorem zov(l:List OpR):yu 11 (Y9 l)=true:=by
 induction l with
 | nil=>rfl
 | cons o r ih=>show yu 11 (o.val::Y9 r)=true;rw[yG];exact⟨ZB o,ih⟩
theorem QR(l:List OpR):xy 11 (.sl (Y9 l))=some (Y9 l):=by unfold xy;simp only[zov]
theorem zi7(o:OpR):YK o.val 3 8=o.value.val:=by rw[Tree.val_eq];rfl
theorem zn6(o:OpR):zh o.val 0=some (.int .i64 o.op):=rfl
theorem zmu(o:OpR):zh o.val 1=some (.sl (strs o.path)):=rfl
theorem zrH(o:OpR):zh o.val 2=some (.sl (strs o.from')):=rfl
theorem znu(x b:V):P0 vu [.p 0 0,.p 1 0,.v .nili] [(false,8,x),(false,1,b)]=some (.tup [],[x,b]):=by
 rw[JN];unfold WS;rfl
theorem zl3(x b:V):P0 vu [.p 0 0,.p 1 0,.v (.iface zas (.agg []))] [(false,8,x),(false,1,b)]=some (.tup [],[.agg [.int .i64 0,.bool false,.bool false,.sl [],.int .i64 0,.str [],.sl [],.sl []],.bool false]):=by
 rw[JN];unfold WS;rfl
theorem J6:Tree.zero.val = .agg [.int .i64 0,.bool false,.bool false,.sl [],.int .i64 0,.str [],.sl [],.sl []]:=by rw[Tree.val_eq];rfl
theorem zqA(t:Tree)(o:OpR)(r:Option Tree)(h:P0 q6 [.v t.val,.v o.val] []=some (ZM r,[])) :
  P0 q9 [.v t.val,.v o.val] []=some (.tup [(r.getD Tree.zero).val,.bool r.isSome],[]):=by
 rw[zjf];unfold zdT
 cases r with
 | some x=>
  simp only[zb,zd,ZB,zi,h,ZM,za,yd,zM,zN,zc,if_true,znu,Option.getD_some,Option.isSome_some]
 | none=>
  simp only[zb,zd,ZB,zi,h,ZM,VI,za,yd,zM,zN,zc,zF,if_false,zl3,Option.getD_none,Option.isSome_none,J6]
theorem zhY(t:Tree)(o:OpR)(h:Sz t)(ho:o.op=1)(hp:o.path.length≤1000000):P0 q6 [.v t.val,.v o.val] []=some (ZM (V5 t o),[]):=by
 have e:V5 t o=QE t o.path o.value:=if_pos ho
 rw[e,zgZ];unfold zbs
 have ha:=zpp t o.path o.value h hp
 cases hx:QE t o.path o.value with
 | none=>
  rw[hx]at ha
  simp only[zb,zd,ZB,zi,zn6,zmu,ho,xd,decide_true,za,zc,if_true,zi7,ha,ZM,VI,yd,zM,zN,zF,if_false]
 | some x=>
  rw[hx]at ha
  simp only[zb,zd,ZB,zi,zn6,zmu,ho,xd,decide_true,za,zc,if_true,zi7,ha,ZM,yd,zM,zN]
theorem zhL{t v r:Tree}{p:List Str}(ht:OrdT t)(hv:OrdT v)(h:QE t p v=some r):OrdT r∧zz r≤zz t+zz v:=by
 unfold QE at h
 split at h
 ·injection h with h;subst h;exact⟨hv,by omega⟩
 ·rw[zA]at h
  obtain⟨x,hx,h⟩:=h
  have hxo:=(zhx _ hx ht).1
  split at h
  ·next hk=>
   have ho:OrdT (obj (qJ (vo p) v (al x))):=zfc (zkr hxo.al_srt) (fun q hq=>by
    rcases zj1 hq with rfl | hq
    ·exact hv
    ·exact hxo.al_ord q hq)
   have w:=zmA (n:=vo p) (v:=v) hxo.al_srt
   have hw:zz x=1+wA (al x):=by rw[← Xz,← hxo.obj hk]
   obtain⟨u,h5,h6,h7⟩:=zhO _ ht ho hx
   rw[h5]at h;injection h with h;subst h
   rw[Xz]at h7
   exact⟨h6,by omega⟩
  ·split at h
   ·next hk=>
    rw[zA]at h
    obtain⟨i,hi,h⟩:=h
    have ho:OrdT (arr (x.v.take i++v::x.v.drop i)):=zf6 (fun z hz=>by
     rcases List.mem_append.1 hz with hz | hz
     ·exact hxo.sub z (List.mem_of_mem_take hz)
     ·rcases List.mem_cons.1 hz with rfl | hz
      ·exact hv
      ·exact hxo.sub z (List.mem_of_mem_drop hz))
    obtain⟨u,h5,h6,h7⟩:=zhO _ ht ho hx
    rw[h5]at h;injection h with h;subst h
    have e1:=zds x.v i
    have e2:=xD x
    have:=QD x
    rw[Qo,WW,weightL]at h7
    exact⟨h6,by omega⟩
   ·contradiction
theorem zj7 : ∀ t,zz t≤1000000→P0 qp [.v t.val] []=some (.bool (zfD t),[]):=by
 intro t
 induction t using Tree.ind with
 | h t ih=>
 intro hw
 rw[xD]at hw
 have hl:=ZV t.v
 rw[zjr,zi5];unfold zea
 have hg : ∀ x,x∈t.v→P0 vy [.v x.val] []=some (.bool (!zfD x),[]):=by
  intro x hx
  rw[ze8];unfold KL
  simp only[zb,zd,zi,ih x hx (by have:=XN hx;omega),za,xj]
 have hc:=zoj vy rfl _ t.v hg (by omega)
 rw[zmx]
 by_cases h:t.v.length≤300
 ·have c1:((t.v.length:Nat):Int)≤300:=by omega
  simp only[zb,zd,zi,vI,za,zf,zo,c1,decide_true,if_true,hc,xj,h,Bool.true_and]
 ·have c1 : ¬ ((t.v.length:Nat):Int)≤300:=by omega
  simp only[zb,zd,zi,vI,za,zf,zo,c1,decide_false,zF,if_false,h,Bool.false_and]
theorem zmV(t:Tree)(w:Int)(h:zz t≤1000000):P0 qV [.v t.val,.v (.int .i64 w)] []=some (.bool (zge t w),[]):=by
 have hn:=zfQ t
 rw[zgC];unfold zcv zge
 by_cases c1:(zz t:Int)≤w
 ·by_cases c2:(xZ t:Int)≤2000
  ·by_cases c3:(depth t:Int)≤64
   ·simp only[zb,zd,zi,XO t (by omega),Kv t (by omega),zeN t (by omega),zj7 t h,za,X8,c1,c2,c3,decide_true,zc,if_true,Bool.true_and]
   ·simp only[zb,zd,zi,XO t (by omega),Kv t (by omega),zeN t (by omega),zj7 t h,za,X8,c1,c2,c3,decide_true,decide_false,zc,if_true,zF,if_false,Bool.true_and,Bool.and_false,Bool.false_and]
  ·simp only[zb,zd,zi,XO t (by omega),Kv t (by omega),za,X8,c1,c2,decide_true,decide_false,zc,if_true,zF,if_false,Bool.true_and,Bool.and_false,Bool.false_and]
 ·simp only[zb,zd,zi,XO t (by omega),za,X8,c1,decide_false,zc,zF,if_false,Bool.and_false,Bool.false_and]
/-- none of the ops is bad -/
theorem zk1(l:List OpR)(hl:l.length≤1000000)(hg : ∀ o,o∈l→P0 wW [.v o.val] []=some (.bool true,[]))(m:Nat) : ∀ i,i+m=l.length →
  yi (yF l.length (.sl (Y9 l)) xo) (vec [.int .i64 (i:Int)])=some (0,vec []):=by
 have hb:Nat.blt xo wS=true:=rfl
 induction m with
 | zero=>
  intro i hi
  apply zq
  unfold yF
  have c1 : ¬ (i:Int)<(l.length:Int):=by omega
  simp only[zb,zj,zy,c1,decide_false,za,zc,zF,if_false]
 | succ m ih=>
  intro i hi
  have h1:i<l.length:=by omega
  have c1:(i:Int)<(l.length:Int):=by omega
  have hx:l[i]?=some l[i]:=zL h1
  have hgx:=hg l[i] (List.getElem_mem _)
  have hc:P0 xo [.v (l[i]).val] []=some (.bool false,[]):=by
   rw[zdg];unfold VK
   simp only[zb,ZB,zi,hgx,za,xj,zH]
  rw[← ih (i+1) (by omega)]
  apply yb
  unfold yF
  simp only[zb,zj,zy,c1,decide_true,za,zc,if_true,QR,vO,zn _ i l.length h1,Jq,hx,zC,hb,zi,hc,zF,if_false,wB,xq (i:=i) (by omega)]
theorem zep(l:List OpR)(hl:l.length≤60)(hg : ∀ o,o∈l→P0 wW [.v o.val] []=some (.bool true,[])):P0 ql [.v (.sl (Y9 l))] []=some (.bool true,[]):=by
 have h:=zk1 l (by omega) hg l.length 0 (by omega)
 rw[show((0:Nat):Int)=0 from rfl]at h
 have c:((l.length:Nat):Int)≤60:=by omega
 have c2 : ¬ (0:Int) ≤ -1:=by decide
 have h2:P0 zu [.v (.sl (Y9 l)),.fn xo []] []=some (.bool false,[]):=by
  rw[qy];unfold xW
  rw[qX];unfold wR
  simp only[zb,zf,vO,za,h,if_true,qi,c2,decide_false]
 rw[zf7];unfold K2
 simp only[zb,zf,vO,za,c,decide_true,if_true,h2,xj,zI]
/-- all of them, or the first that fails and why -/
noncomputable def Wb(w:Int):Tree→List OpR→Nat→Tree ⊕ (Nat×Int)
 | t,[],_ => .inl t
 | t,o::r,i=>match V5 t o with
  | none => .inr (i,5)
  | some x=>if zge x w=true then Wb w x r (i+1)else .inr (i,4)
def zoq:Tree ⊕ (Nat×Int)→V
 | .inl t => .tup [t.val,.int .i64 (-1),.int .i64 0]
 | .inr (i,c) => .tup [Tree.zero.val,.int .i64 (i:Int),.int .i64 c]
structure zpt(l:List OpR):Prop where
 does : ∀ o,o∈l → ∀ t,Sz t→P0 q6 [.v t.val,.v o.val] []=some (ZM (V5 t o),[])
 ord : ∀ o,o∈l → ∀ t r,Sz t→V5 t o=some r→OrdT r∧zz r≤1000000
theorem zq1{t:Tree}{w:Int}(h:zge t w=true):(zz t:Int)≤w:=by
 unfold zge at h
 simp only[zG,decide_eq_true_eq]at h
 exact h.1.1.1
theorem zlw(l:List OpR)(hl:l.length≤1000000)(w:Int)(hw:w≤900000)(hd:zpt l)(m:Nat) : ∀ i t,Sz t→i+m=l.length →
  ∃ o,yi (vW l.length (.sl (Y9 l)) (.int .i64 w)) (vec [.int .i64 (i:Int),t.val,.int .i64 0,.bool false,.bool false,.sl [],.int .i64 0,.str [],.sl [],.sl []])=some o ∧
  (
    match Wb w t (l.drop i) i with
    | .inl u=>o.1=0∧o.2 0=u.val
    | .inr (j,c)=>o.1=1∧o.2 0 = .int .i64 (j:Int)∧o.2 1 = .int .i64 c∧o.2 3 = .int .i64 0∧o.2 4 = .bool false∧o.2 5 = .bool false∧o.2 6 = .sl []∧o.2 7 = .int .i64 0∧o.2 8 = .str []∧o.2 9 = .sl []∧o.2 10 = .sl []):=by
 induction m with
 | zero=>
  intro i t ht hi
  have e:l.drop i=[]:=zQ (by omega)
  have c1 : ¬ (i:Int)<(l.length:Int):=by omega
  rw[e,Wb]
  refine⟨(0,vec [t.val,.agg [.int .i64 0,.bool false,.bool false,.sl [],.int .i64 0,.str [],.sl [],.sl []]]),zq ?_,?_⟩
  ·unfold vW
   simp only[zb,zj,yz,zy,c1,decide_false,za,zc,zF,if_false]
  ·exact⟨rfl,rfl⟩
 | succ m ih=>
  intro i t ht hi
  have h1:i<l.length:=by omega
  have c1:(i:Int)<(l.length:Int):=by omega
  have hx:l[i]?=some l[i]:=zL h1
  have hdx:=zqA _ _ _ (hd.does l[i] (List.getElem_mem _) t ht)
  have hox:=hd.ord l[i] (List.getElem_mem _) t
  rw[zO h1,Wb]
  generalize l[i]=o at *
  cases hq:V5 t o with
  | none=>
   rw[hq]at hdx
   refine⟨(1,vec [.int .i64 (i:Int),.int .i64 5,t.val,.int .i64 0,.bool false,.bool false,.sl [],.int .i64 0,.str [],.sl [],.sl []]),zq ?_,?_⟩
   ·unfold vW
    simp only[zb,zj,yz,zy,c1,decide_true,za,zc,if_true,QR,vO,zn _ i l.length h1,Jq,hx,zC,ZB,zi,hdx,yd,zM,zN,zd,Option.isSome_none,xj,zI]
   ·exact⟨rfl,rfl,rfl,rfl,rfl,rfl,rfl,rfl,rfl,rfl,rfl⟩
  | some x=>
   obtain⟨ho1,ho2⟩:=hox x ht hq
   have hf:=zmV x w ho2
   rw[hq]at hdx
   dsimp only
   cases hb:zge x w with
   | false=>
    rw[hb]at hf
    simp only[zF,if_false]
    refine⟨(1,vec [.int .i64 (i:Int),.int .i64 4,t.val,.int .i64 0,.bool false,.bool false,.sl [],.int .i64 0,.str [],.sl [],.sl []]),zq ?_,?_⟩
    ·unfold vW
     simp only[zb,zj,yz,zy,c1,decide_true,za,zc,if_true,QR,vO,zn _ i l.length h1,Jq,hx,zC,ZB,zi,hdx,yd,zM,zN,zd,Option.getD_some,Option.isSome_some,xj,zH,zF,if_false,hf,zI]
    ·exact⟨rfl,rfl,rfl,rfl,rfl,rfl,rfl,rfl,rfl,rfl,rfl⟩
   | true=>
    rw[hb]at hf
    simp only[if_true]
    have hw2:=zq1 hb
    obtain⟨q,h2,h3⟩:=ih (i+1) x ⟨ho1,by omega⟩ (by omega)
    refine⟨q,?_,h3⟩
    rw[← h2]
    apply yb
    unfold vW
    simp only[zb,zj,yz,zy,c1,decide_true,za,zc,if_true,QR,vO,zn _ i l.length h1,Jq,hx,zC,ZB,zi,hdx,yd,zM,zN,zd,Option.getD_some,Option.isSome_some,xj,zH,zF,if_false,hf,wB,xq (i:=i) (by omega)]
theorem zhl(t:Tree)(l:List OpR)(w:Int)(hw:w≤900000)(ht:Sz t)(hc:P0 y5 [.v t.val] []=some (.bool true,[]))(hl:l.length≤60)(hg : ∀ o,o∈l→P0 wW [.v o.val] []=some (.bool true,[]))(hd:zpt l) :
  P0 xz [.v t.val,.v (.sl (Y9 l)),.v (.int .i64 w)] []=some (zoq (Wb w t l 0),[]):=by
 obtain⟨o,h1,h2⟩:=zlw l (by omega) w hw hd l.length 0 t ht (by omega)
 rw[zU]at h2
 rw[show((0:Nat):Int)=0 from rfl]at h1
 rw[zfn];unfold zao
 cases hq:Wb w t l 0 with
 | inl u=>
  rw[hq]at h2
  obtain⟨e1,e2⟩:=h2
  simp only[zb,zd,zi,hc,za,xj,zH,zc,if_true,zep l hl hg,zF,if_false,zf,vO,h1,e1,e2,zoq]
 | inr p=>
  obtain⟨j,c⟩:=p
  rw[hq]at h2
  obtain⟨e1,e2,e3,f3,f4,f5,f6,f7,f8,f9,f10⟩:=h2
  simp only[zb,zd,zi,hc,za,xj,zH,zc,if_true,zep l hl hg,zF,if_false,zf,vO,h1,e1,e2,e3,f3,f4,f5,f6,f7,f8,f9,f10,zoq,Nat.one_ne_zero,J6]
end Go.Ev
end
section
namespace Go.Ev
attribute [local irreducible] P0
theorem zlV(f:Nat)(hb:Nat.blt f wS=true)(l:List Str)(hl:l.length≤1000000)(hg : ∀ o,o∈l→P0 f [.v (.str o)] []=some (.bool false,[]))(m:Nat) : ∀ i,i+m=l.length →
  yi (yX l.length (.sl (strs l)) f) (vec [.int .i64 (i:Int)])=some (0,vec []):=by
 induction m with
 | zero=>
  intro i hi
  apply zq
  unfold yX
  have c1 : ¬ (i:Int)<(l.length:Int):=by omega
  simp only[zb,zj,zy,c1,decide_false,za,zc,zF,if_false]
 | succ m ih=>
  intro i hi
  have h1:i<l.length:=by omega
  have c1:(i:Int)<(l.length:Int):=by omega
  have hx:l[i]?=some l[i]:=zL h1
  have hgx:=hg l[i] (List.getElem_mem _)
  rw[← ih (i+1) (by omega)]
  apply yb
  unfold yX
  simp only[zb,zj,zy,c1,decide_true,za,zc,if_true,yP,zl,zn _ i l.length h1,xC,hx,zC,xH,hb,zi,hgx,zF,if_false,wB,xq (i:=i) (by omega)]
theorem zho(l:List Str)(hl:l.length≤63)(hg : ∀ s,s∈l→s.length≤2000∧zhV s=true):P0 vd [.v (.sl (strs l))] []=some (.bool true,[]):=by
 have hf : ∀ s,s∈l→P0 wi [.v (.str s)] []=some (.bool false,[]):=by
  intro s hs
  obtain⟨h1,h2⟩:=hg s hs
  have c : ¬ ((s.length:Nat):Int) > 2000:=by omega
  rw[zdt];unfold Ju
  simp only[zb,qe,za,c,decide_false,if_true,zdV s (by omega),h2,xj,zH]
 have h:=zlV wi rfl l (by omega) hf l.length 0 (by omega)
 rw[show((0:Nat):Int)=0 from rfl]at h
 have c:((l.length:Nat):Int)≤63:=by omega
 have c2 : ¬ (0:Int) ≤ -1:=by decide
 have h2:P0 yf [.v (.sl (strs l)),.fn wi []] []=some (.bool false,[]):=by
  rw[kA];unfold vJ
  rw[kH];unfold qb
  simp only[zb,zf,zl,za,h,if_true,qi,c2,decide_false]
 rw[zgJ];unfold zbp
 simp only[zb,zf,zl,za,c,decide_true,if_true,h2,xj,zI]
theorem znr(t:Tree)(h:t.kind≠0):P0 qW [.v t.val] []=some (.bool false,[]):=by
 rw[zh7];unfold zby
 simp only[zb,zd,zi,jl,za,xd,h,decide_false,zc,zF,if_false]
theorem zkC(o:OpR)(ho:o.op=1)(hf:o.from'=[])(hk:o.value.kind≠0)(hv:P0 y5 [.v o.value.val] []=some (.bool true,[]))(hp:P0 vd [.v (.sl (strs o.path))] []=some (.bool true,[])):P0 wW [.v o.val] []=some (.bool true,[]):=by
 have e0:(((0:Nat):Int) == 0)=true:=rfl
 have e4 : ¬ ((1:Int)=4):=by decide
 have e5 : ¬ ((1:Int)=5):=by decide
 rw[ziM];unfold zeo
 simp only[zb,ZB,zi,zn6,zmu,zrH,hf,zf,zl,List.length_nil,e0,za,zi7,znr _ hk,ho,xd,e4,e5,decide_false,decide_true,zc,zF,if_false,if_true,zj,hv,yz,hp,Nat.reduceSub,Nat.reduceEqDiff,Nat.one_ne_zero]
def xV(l:Nat):Tree := .mk 4 false .zero (List.replicate l 0) [] []
def opW(l:Nat):OpR:=⟨1,[[45]],[],xV l⟩
theorem zo3(l:Nat):(opW l).val = .agg [.int .i64 1,.sl [.str [45]],.sl [],.int .i64 4,.bool false,.bool false,.sl [],.int .i64 0,.str (List.replicate l 0),.sl [],.sl []]:=rfl
theorem zpP(l:Nat):(dec8 (List.replicate l 0)).isSome=true:=by
 induction l with
 | zero=>rfl
 | succ l ih=>
  rw[List.replicate_succ,dec8.eq_3 _ _ (by intro r h;simp at h)]
  rw[if_pos (by decide)]
  simpa using ih
theorem zpN(l:Nat)(h:l≤2000):OkT (xV l) := .text _ (zpP l) (by rw[List.length_replicate];exact h)
theorem zmT(l:Nat):zz (xV l)=1+l:=by
 rw[xD]
 show w1 (xV l)+weightL []=_
 unfold w1;simp[xV,Tree.kind,Tree.s,weightL]
theorem zmC(l:Nat):OrdT (xV l):=by
 refine .mk _ (fun h=>by simp[xV,Tree.kind]at h) (by rw[Wa (by simp[xV,Tree.kind])];trivial) (fun x hx=>by simp[xV,Tree.n,Nm.zero]at hx) (by simp[xV,Tree.n,Nm.zero]) (by simp[xV,Tree.k]) (fun x hx=>by simp[xV,Tree.v]at hx)
theorem zor(l:Nat)(h:l≤2000):P0 wW [.v (opW l).val] []=some (.bool true,[]):=by
 have hn:xZ (xV l)=1:=by rw[wu];show 1+nodesL []=1;rfl
 have hd:depth (xV l)=1:=by rw[jo];show 1+depthL []=1;rfl
 exact zkC _ rfl rfl (by simp[opW,xV,Tree.kind]) (JO (zpN l h) (by show depth (xV l)≤64;omega) (by show xZ (xV l)≤2000;omega)) (zho _ (by simp[opW]) (fun s hs=>by simp only[opW,List.mem_singleton]at hs;subst hs;exact⟨by decide,zfI (by decide)⟩))
theorem zpc(v:List Tree)(x:Tree):QE (arr v) [[45]] x=some (arr (v++[x])):=by
 unfold QE
 have e:([[45]]:List Str)≠[]:=by simp
 rw[if_neg e]
 show(kX (arr v) []).bind _=_
 rw[show kX (arr v) []=some (arr v)from rfl,zD,if_neg (by simp[arr,Tree.kind]),if_pos (by simp[arr,Tree.kind])]
 rw[show vo [[45]]=([45]:Str)from rfl]
 unfold XA
 rw[if_pos rfl,zD]
 show some (arr (v.take v.length++x::v.drop v.length))=_
 rw[List.take_length,List.drop_length]
theorem zmR(v:List Tree)(l:Nat):V5 (arr v) (opW l)=some (arr (v++[xV l])):=by
 unfold V5
 rw[if_pos (show(opW l).op=1 from rfl)]
 exact zpc v (xV l)
theorem zqk(ks:List Nat)(hk : ∀ l,l∈ks→l≤100):zpt (ks.map opW) where
 does o ho t ht:=by
  obtain⟨l,hl,rfl⟩:=List.mem_map.1 ho
  exact zhY t (opW l) ht rfl (by simp[opW])
 ord o ho t r ht h:=by
  obtain⟨l,hl,rfl⟩:=List.mem_map.1 ho
  have h:QE t [[45]] (xV l)=some r:=h
  obtain⟨h1,h2⟩:=zhL ht.ord (zmC l) h
  have:=ht.w
  have:=hk l hl
  rw[zmT]at h2
  exact⟨h1,by omega⟩
end Go.Ev
end
section
namespace Go.Ev
attribute [local irreducible] P0
def f2:Tree := .mk 2 false .zero [] [] []
def Yf:AL:=[([97],arr [null])]
def zhh:AL:=[([97],arr [null,f2])]
def awQ15:OpR:=⟨1,[[97],[45]],[],f2⟩
theorem zqM:OkT (obj Yf):=by
 refine .obj Yf ⟨by simp[Yf],trivial⟩ (by decide) (by decide) (fun q hq => ?_)
 simp only[Yf,List.mem_singleton]at hq
 subst hq
 refine .arr [null] (by decide) (fun x hx => ?_)
 rw[List.mem_singleton.1 hx];exact .null
theorem zrE:Sz (obj Yf):=by
 have e0:OrdT null := .mk _ (fun h=>by simp[null,Tree.kind]at h) (by rw[Wa (by simp[null,Tree.kind])];trivial) (fun x hx=>by simp[null,Tree.n,Nm.zero]at hx) (by simp[null,Tree.n,Nm.zero]) (by simp[null,Tree.k]) (fun x hx=>by simp[null,Tree.v]at hx)
 refine⟨zfc ⟨by simp[Yf],trivial⟩ (fun q hq => ?_),by decide⟩
 simp only[Yf,List.mem_singleton]at hq
 subst hq
 exact zf6 (fun x hx=>by rw[List.mem_singleton.1 hx];exact e0)
theorem zqL:OrdT f2 := .mk _ (fun h=>by simp[f2,Tree.kind]at h) (by rw[Wa (by simp[f2,Tree.kind])];trivial) (fun x hx=>by simp[f2,Tree.n,Nm.zero]at hx) (by simp[f2,Tree.n,Nm.zero]) (by simp[f2,Tree.k]) (fun x hx=>by simp[f2,Tree.v]at hx)
theorem zo4:V5 (obj Yf) awQ15=some (obj zhh):=by
 unfold V5
 rw[if_pos (show awQ15.op=1 from rfl)]
 show QE (obj Yf) [[97],[45]] f2=_
 unfold QE
 rw[if_neg (by simp)]
 have h1:kX (obj Yf) [[97]]=some (arr [null]):=by rfl
 show(kX (obj Yf) [[97]]).bind _=_
 rw[h1,zD,if_neg (by decide),if_pos (by decide)]
 rfl
theorem zqt:zge (obj zhh) 100=true:=by decide
theorem zrs:zpt [awQ15] where
 does o ho t ht:=by rw[List.mem_singleton.1 ho];exact zhY t awQ15 ht rfl (by simp[awQ15])
 ord o ho t r ht h:=by
  rw[List.mem_singleton.1 ho]at h
  have h:QE t [[97],[45]] f2=some r:=h
  obtain⟨h1,h2⟩:=zhL ht.ord zqL h
  have:=ht.w
  have:zz f2=1:=by decide
  exact⟨h1,by omega⟩
theorem zqj:P0 wW [.v awQ15.val] []=some (.bool true,[]):=by
 refine zkC awQ15 rfl rfl (by simp[awQ15,f2,Tree.kind]) (JO (.bool false) (by decide) (by decide)) (zho _ (by simp[awQ15]) (fun s hs => ?_))
 simp only[awQ15,zS,List.not_mem_nil,or_false]at hs
 rcases hs with rfl | rfl<;>exact⟨by decide,zfI (by decide)⟩
theorem zmW:P0 xz [.v (.agg [(.int .i64 7),(.bool false),(.bool false),(.sl []),(.int .i64 0),(.str []),(.sl [(.str [97])]),(.sl [(.agg [(.int .i64 6),(.bool false),(.bool false),(.sl []),(.int .i64 0),(.str []),(.sl []),(.sl [(.agg [(.int .i64 1),(.bool false),(.bool false),(.sl []),(.int .i64 0),(.str []),(.sl []),(.sl [])])])])])]),.v (.sl [(.agg [(.int .i64 1),(.sl [(.str [97]),(.str [45])]),(.sl []),(.int .i64 2),(.bool false),(.bool false),(.sl []),(.int .i64 0),(.str []),(.sl []),(.sl [])])]),.v (.int .i64 100)] [] =
  some (.tup [(obj zhh).val,.int .i64 (-1),.int .i64 0],[]):=by
 have ev:(obj Yf).val = .agg [(.int .i64 7),(.bool false),(.bool false),(.sl []),(.int .i64 0),(.str []),(.sl [(.str [97])]),(.sl [(.agg [(.int .i64 6),(.bool false),(.bool false),(.sl []),(.int .i64 0),(.str []),(.sl []),(.sl [(.agg [(.int .i64 1),(.bool false),(.bool false),(.sl []),(.int .i64 0),(.str []),(.sl []),(.sl [])])])])])]:=by
  rw[JA];rfl
 have eo:Y9 [awQ15]=[(.agg [(.int .i64 1),(.sl [(.str [97]),(.str [45])]),(.sl []),(.int .i64 2),(.bool false),(.bool false),(.sl []),(.int .i64 0),(.str []),(.sl []),(.sl [])])]:=rfl
 have ea:Wb 100 (obj Yf) [awQ15] 0 = .inl (obj zhh):=by
  rw[Wb,zo4]
  dsimp only
  rw[if_pos zqt,Wb]
 have h:=zhl (obj Yf) [awQ15] 100 (by decide) zrE (JO zqM (by decide) (by decide)) (by simp) (fun o ho=>by rw[List.mem_singleton.1 ho];exact zqj) zrs
 rw[ea,ev,eo]at h
 exact h
theorem zkv:P0 xK [] []=some (.bool true,[]):=by
 have ev:(obj zhh).val = .agg [(.int .i64 7),(.bool false),(.bool false),(.sl []),(.int .i64 0),(.str []),(.sl [(.str [97])]),(.sl [(.agg [(.int .i64 6),(.bool false),(.bool false),(.sl []),(.int .i64 0),(.str []),(.sl []),(.sl [(.agg [(.int .i64 1),(.bool false),(.bool false),(.sl []),(.int .i64 0),(.str []),(.sl []),(.sl [])]),(.agg [(.int .i64 2),(.bool false),(.bool false),(.sl []),(.int .i64 0),(.str []),(.sl []),(.sl [])])])])])]:=by
  rw[JA];rfl
 rw[zbI];unfold VL
 simp only[zb,zmW,ev,za]
 rfl
end Go.Ev
end
