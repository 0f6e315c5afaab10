/- What functions compute, put together. -/
import Derived.Test.YtnefgdahdccldaaDoorKSC
import Derived.Test.YtnefgdahdccldaaDoorKSB
set_option linter.all false
open Option renaming bind_eq_some_iff→zA,map_some→zC,bind_some→zD
open Bool renaming false_eq_true→zF,and_eq_true→zG,not_true→zH,not_false→zI
open List renaming getElem?_eq_getElem→zL,getElem?_cons_zero→zM,getElem?_cons_succ→zN,drop_eq_getElem_cons→zO,drop_eq_nil_of_le→zQ,mem_cons→zS,drop_zero→zU,take_of_length_le→zV
open Nat renaming le_refl→zR
section
namespace Go.Ev
attribute [local irreducible] P0
def zaJ(l:List OpR):List V:=l.map OpR.val
theorem kJ(l:List OpR):(zaJ l).length=l.length:=List.length_map ..
theorem Jp(l:List OpR)(i:Nat):(zaJ l)[i]?=(l[i]?).map OpR.val:=List.getElem?_map ..
theorem qt(o:OpR):okN 11 o.val=true:=rfl
theorem zn5(l:List OpR):yc 11 (zaJ l)=true:=by
 induction l with
 | nil=>rfl
 | cons o r ih=>show yc 11 (o.val::zaJ r)=true;rw[yH];exact⟨qt o,ih⟩
theorem Ja(l:List OpR):xk 11 (.sl (zaJ l))=some (zaJ l):=by unfold xk;simp only[zn5]
theorem zjC(o:OpR):We o.val 3 8=o.value.val:=by rw[Tree.val_eq];rfl
theorem V5(o:OpR):zn o.val 0=some (.int .i64 o.op):=rfl
theorem VJ(o:OpR):zn o.val 1=some (.sl (strs o.path)):=rfl
theorem zee(o:OpR):zn o.val 2=some (.sl (strs o.from')):=rfl
theorem zm7(x b:V):P0 vC [.p 0 0,.p 1 0,.v .nili] [(false,8,x),(false,1,b)]=some (.tup [],[x,b]):=by
 rw[Q3];unfold W0;rfl
theorem zmb(x b:V):P0 vC [.p 0 0,.p 1 0,.v (.iface K6 (.agg []))] [(false,8,x),(false,1,b)]=some (.tup [],[.agg [.int .i64 0,.bool false,.bool false,.sl [],.int .i64 0,.str [],.sl [],.sl []],.bool false]):=by
 rw[Q3];unfold W0;rfl
theorem zeT:Tree.zero.val = .agg [.int .i64 0,.bool false,.bool false,.sl [],.int .i64 0,.str [],.sl [],.sl []]:=by rw[Tree.val_eq];rfl
theorem zdm(t:Tree)(o:OpR)(r:Option Tree)(h:P0 vi [.v t.val,.v o.val] []=some (wt r,[])) :
  P0 xU [.v t.val,.v o.val] []=some (.tup [(r.getD Tree.zero).val,.bool r.isSome],[]):=by
 rw[zjK];unfold zez
 cases r with
 | some x=>
  simp only[zb,zd,qt,zh,h,wt,za,zo,zM,zN,zc,if_true,zm7,Option.getD_some,Option.isSome_some]
 | none=>
  simp only[zb,zd,qt,zh,h,wt,ql,za,zo,zM,zN,zc,zF,if_false,zmb,Option.getD_none,Option.isSome_none,zeT]
theorem zhR(t:Tree)(o:OpR)(h:Sz t)(ho:o.op=1)(hp:o.path.length≤1000000):P0 vi [.v t.val,.v o.val] []=some (wt (VR t o),[]):=by
 have e:VR t o=YK t o.path o.value:=if_pos ho
 rw[e,Yk];unfold ZC
 have ha:=zgb t o.path o.value h hp
 cases hx:YK t o.path o.value with
 | none=>
  rw[hx]at ha
  simp only[zb,zd,qt,zh,V5,VJ,ho,yV,decide_true,za,zc,if_true,zjC,ha,wt,ql,zo,zM,zN,zF,if_false]
 | some x=>
  rw[hx]at ha
  simp only[zb,zd,qt,zh,V5,VJ,ho,yV,decide_true,za,zc,if_true,zjC,ha,wt,zo,zM,zN]
theorem znG{t v r:Tree}{p:List Str}(ht:OrdT t)(hv:OrdT v)(h:YK t p v=some r):OrdT r∧yj r≤yj t+yj v:=by
 unfold YK at h
 split at h
 ·injection h with h;subst h;exact⟨hv,by omega⟩
 ·rw[zA]at h
  obtain⟨x,hx,h⟩:=h
  have hxo:=(zdn _ hx ht).1
  split at h
  ·next hk=>
   have ho:OrdT (obj (qU (xq p) v (al x))):=zaS (zkg hxo.al_srt) (fun q hq=>by
    rcases zku hq with rfl | hq
    ·exact hv
    ·exact hxo.al_ord q hq)
   have w:=znZ (n:=xq p) (v:=v) hxo.al_srt
   have hw:yj x=1+wA (al x):=by rw[← j3,← hxo.obj hk]
   obtain⟨u,h5,h6,h7⟩:=zcs _ ht ho hx
   rw[h5]at h;injection h with h;subst h
   rw[j3]at h7
   exact⟨h6,by omega⟩
  ·split at h
   ·next hk=>
    rw[zA]at h
    obtain⟨i,hi,h⟩:=h
    have ho:OrdT (arr (x.v.take i++v::x.v.drop i)):=za0 (fun z hz=>by
     rcases List.mem_append.1 hz with hz | hz
     ·exact hxo.sub z (List.mem_of_mem_take hz)
     ·rcases List.mem_cons.1 hz with rfl | hz
      ·exact hv
      ·exact hxo.sub z (List.mem_of_mem_drop hz))
    obtain⟨u,h5,h6,h7⟩:=zcs _ ht ho hx
    rw[h5]at h;injection h with h;subst h
    have e1:=YC x.v i
    have e2:=xZ x
    have:=Qa x
    rw[Qc,WP,weightL]at h7
    exact⟨h6,by omega⟩
   ·contradiction
theorem zjT : ∀ t,yj t≤1000000→P0 qv [.v t.val] []=some (.bool (zif t),[]):=by
 intro t
 induction t using Tree.ind with
 | h t ih=>
 intro hw
 rw[xZ]at hw
 have hl:=WL t.v
 rw[zjl,zre];unfold zeD
 have hg : ∀ x,x∈t.v→P0 vD [.v x.val] []=some (.bool (!zif x),[]):=by
  intro x hx
  rw[zgr];unfold KR
  simp only[zb,zd,zh,ih x hx (by have:=QA hx;omega),za,y0]
 have hc:=znt vD rfl _ t.v hg (by omega)
 rw[zoe]
 by_cases h:t.v.length≤300
 ·have c1:((t.v.length:Nat):Int)≤300:=by omega
  simp only[zb,zd,zh,qj,za,zg,zm,c1,decide_true,if_true,hc,y0,h,Bool.true_and]
 ·have c1 : ¬ ((t.v.length:Nat):Int)≤300:=by omega
  simp only[zb,zd,zh,qj,za,zg,zm,c1,decide_false,zF,if_false,h,Bool.false_and]
theorem znJ(t:Tree)(w:Int)(h:yj t≤1000000):P0 jc [.v t.val,.v (.int .i64 w)] []=some (.bool (ziX t w),[]):=by
 have hn:=zfZ t
 rw[zia];unfold zb0 ziX
 by_cases c1:(yj t:Int)≤w
 ·by_cases c2:(vo t:Int)≤2000
  ·by_cases c3:(depth t:Int)≤64
   ·simp only[zb,zd,zh,Xq t (by omega),J0 t (by omega),zew t (by omega),zjT t h,za,Wb,c1,c2,c3,decide_true,zc,if_true,Bool.true_and]
   ·simp only[zb,zd,zh,Xq t (by omega),J0 t (by omega),zew t (by omega),zjT t h,za,Wb,c1,c2,c3,decide_true,decide_false,zc,if_true,zF,if_false,Bool.true_and,Bool.and_false,Bool.false_and]
  ·simp only[zb,zd,zh,Xq t (by omega),J0 t (by omega),za,Wb,c1,c2,decide_true,decide_false,zc,if_true,zF,if_false,Bool.true_and,Bool.and_false,Bool.false_and]
 ·simp only[zb,zd,zh,Xq t (by omega),za,Wb,c1,decide_false,zc,zF,if_false,Bool.and_false,Bool.false_and]
/-- none of the ops is bad -/
theorem zlt(l:List OpR)(hl:l.length≤1000000)(hg : ∀ o,o∈l→P0 vu [.v o.val] []=some (.bool true,[]))(m:Nat) : ∀ i,i+m=l.length →
  yk (yL l.length (.sl (zaJ l)) xA) (vec [.int .i64 (i:Int)])=some (0,vec []):=by
 have hb:Nat.blt xA wT=true:=rfl
 induction m with
 | zero=>
  intro i hi
  apply zr
  unfold yL
  have c1 : ¬ (i:Int)<(l.length:Int):=by omega
  simp only[zb,zl,zw,c1,decide_false,za,zc,zF,if_false]
 | succ m ih=>
  intro i hi
  have h1:i<l.length:=by omega
  have c1:(i:Int)<(l.length:Int):=by omega
  have hx:l[i]?=some l[i]:=zL h1
  have hgx:=hg l[i] (List.getElem_mem _)
  have hc:P0 xA [.v (l[i]).val] []=some (.bool false,[]):=by
   rw[zcy];unfold VY
   simp only[zb,qt,zh,hgx,za,y0,zH]
  rw[← ih (i+1) (by omega)]
  apply zy
  unfold yL
  simp only[zb,zl,zw,c1,decide_true,za,zc,if_true,Ja,kJ,zp _ i l.length h1,Jp,hx,zC,hb,zh,hc,zF,if_false,xo,yM (i:=i) (by omega)]
theorem zeB(l:List OpR)(hl:l.length≤60)(hg : ∀ o,o∈l→P0 vu [.v o.val] []=some (.bool true,[])):P0 qq [.v (.sl (zaJ l))] []=some (.bool true,[]):=by
 have h:=zlt l (by omega) hg l.length 0 (by omega)
 rw[show((0:Nat):Int)=0 from rfl]at h
 have c:((l.length:Nat):Int)≤60:=by omega
 have c2 : ¬ (0:Int) ≤ -1:=by decide
 have h2:P0 zv [.v (.sl (zaJ l)),.fn xA []] []=some (.bool false,[]):=by
  rw[qH];unfold wg
  rw[q9];unfold wR
  simp only[zb,zg,kJ,za,h,if_true,qP,c2,decide_false]
 rw[zf7];unfold zar
 simp only[zb,zg,kJ,za,c,decide_true,if_true,h2,y0,zI]
/-- all of them, or the first that fails and why -/
noncomputable def JL(w:Int):Tree→List OpR→Nat→Tree ⊕ (Nat×Int)
 | t,[],_ => .inl t
 | t,o::r,i=>match VR t o with
  | none => .inr (i,5)
  | some x=>if ziX x w=true then JL w x r (i+1)else .inr (i,4)
def zns:Tree ⊕ (Nat×Int)→V
 | .inl t => .tup [t.val,.int .i64 (-1),.int .i64 0]
 | .inr (i,c) => .tup [Tree.zero.val,.int .i64 (i:Int),.int .i64 c]
structure zqV(l:List OpR):Prop where
 does : ∀ o,o∈l → ∀ t,Sz t→P0 vi [.v t.val,.v o.val] []=some (wt (VR t o),[])
 ord : ∀ o,o∈l → ∀ t r,Sz t→VR t o=some r→OrdT r∧yj r≤1000000
theorem zqR{t:Tree}{w:Int}(h:ziX t w=true):(yj t:Int)≤w:=by
 unfold ziX at h
 simp only[zG,decide_eq_true_eq]at h
 exact h.1.1.1
theorem zlY(l:List OpR)(hl:l.length≤1000000)(w:Int)(hw:w≤900000)(hd:zqV l)(m:Nat) : ∀ i t,Sz t→i+m=l.length →
  ∃ o,yk (v6 l.length (.sl (zaJ l)) (.int .i64 w)) (vec [.int .i64 (i:Int),t.val,.int .i64 0,.bool false,.bool false,.sl [],.int .i64 0,.str [],.sl [],.sl []])=some o ∧
  (
    match JL w t (l.drop i) i with
    | .inl u=>o.1=0∧o.2 0=u.val
    | .inr (j,c)=>o.1=1∧o.2 0 = .int .i64 (j:Int)∧o.2 1 = .int .i64 c∧o.2 3 = .int .i64 0∧o.2 4 = .bool false∧o.2 5 = .bool false∧o.2 6 = .sl []∧o.2 7 = .int .i64 0∧o.2 8 = .str []∧o.2 9 = .sl []∧o.2 10 = .sl []):=by
 induction m with
 | zero=>
  intro i t ht hi
  have e:l.drop i=[]:=zQ (by omega)
  have c1 : ¬ (i:Int)<(l.length:Int):=by omega
  rw[e,JL]
  refine⟨(0,vec [t.val,.agg [.int .i64 0,.bool false,.bool false,.sl [],.int .i64 0,.str [],.sl [],.sl []]]),zr ?_,?_⟩
  ·unfold v6
   simp only[zb,zl,yp,zw,c1,decide_false,za,zc,zF,if_false]
  ·exact⟨rfl,rfl⟩
 | succ m ih=>
  intro i t ht hi
  have h1:i<l.length:=by omega
  have c1:(i:Int)<(l.length:Int):=by omega
  have hx:l[i]?=some l[i]:=zL h1
  have hdx:=zdm _ _ _ (hd.does l[i] (List.getElem_mem _) t ht)
  have hox:=hd.ord l[i] (List.getElem_mem _) t
  rw[zO h1,JL]
  generalize l[i]=o at *
  cases hq:VR t o with
  | none=>
   rw[hq]at hdx
   refine⟨(1,vec [.int .i64 (i:Int),.int .i64 5,t.val,.int .i64 0,.bool false,.bool false,.sl [],.int .i64 0,.str [],.sl [],.sl []]),zr ?_,?_⟩
   ·unfold v6
    simp only[zb,zl,yp,zw,c1,decide_true,za,zc,if_true,Ja,kJ,zp _ i l.length h1,Jp,hx,zC,qt,zh,hdx,zo,zM,zN,zd,Option.isSome_none,y0,zI]
   ·exact⟨rfl,rfl,rfl,rfl,rfl,rfl,rfl,rfl,rfl,rfl,rfl⟩
  | some x=>
   obtain⟨ho1,ho2⟩:=hox x ht hq
   have hf:=znJ x w ho2
   rw[hq]at hdx
   dsimp only
   cases hb:ziX x w with
   | false=>
    rw[hb]at hf
    simp only[zF,if_false]
    refine⟨(1,vec [.int .i64 (i:Int),.int .i64 4,t.val,.int .i64 0,.bool false,.bool false,.sl [],.int .i64 0,.str [],.sl [],.sl []]),zr ?_,?_⟩
    ·unfold v6
     simp only[zb,zl,yp,zw,c1,decide_true,za,zc,if_true,Ja,kJ,zp _ i l.length h1,Jp,hx,zC,qt,zh,hdx,zo,zM,zN,zd,Option.getD_some,Option.isSome_some,y0,zH,zF,if_false,hf,zI]
    ·exact⟨rfl,rfl,rfl,rfl,rfl,rfl,rfl,rfl,rfl,rfl,rfl⟩
   | true=>
    rw[hb]at hf
    simp only[if_true]
    have hw2:=zqR hb
    obtain⟨q,h2,h3⟩:=ih (i+1) x ⟨ho1,by omega⟩ (by omega)
    refine⟨q,?_,h3⟩
    rw[← h2]
    apply zy
    unfold v6
    simp only[zb,zl,yp,zw,c1,decide_true,za,zc,if_true,Ja,kJ,zp _ i l.length h1,Jp,hx,zC,qt,zh,hdx,zo,zM,zN,zd,Option.getD_some,Option.isSome_some,y0,zH,zF,if_false,hf,xo,yM (i:=i) (by omega)]
theorem zoD(t:Tree)(l:List OpR)(w:Int)(hw:w≤900000)(ht:Sz t)(hc:P0 xj [.v t.val] []=some (.bool true,[]))(hl:l.length≤60)(hg : ∀ o,o∈l→P0 vu [.v o.val] []=some (.bool true,[]))(hd:zqV l) :
  P0 vB [.v t.val,.v (.sl (zaJ l)),.v (.int .i64 w)] []=some (zns (JL w t l 0),[]):=by
 obtain⟨o,h1,h2⟩:=zlY l (by omega) w hw hd l.length 0 t ht (by omega)
 rw[zU]at h2
 rw[show((0:Nat):Int)=0 from rfl]at h1
 rw[zgh];unfold KN
 cases hq:JL w t l 0 with
 | inl u=>
  rw[hq]at h2
  obtain⟨e1,e2⟩:=h2
  simp only[zb,zd,zh,hc,za,y0,zH,zc,if_true,zeB l hl hg,zF,if_false,zg,kJ,h1,e1,e2,zns]
 | inr p=>
  obtain⟨j,c⟩:=p
  rw[hq]at h2
  obtain⟨e1,e2,e3,f3,f4,f5,f6,f7,f8,f9,f10⟩:=h2
  simp only[zb,zd,zh,hc,za,y0,zH,zc,if_true,zeB l hl hg,zF,if_false,zg,kJ,h1,e1,e2,e3,f3,f4,f5,f6,f7,f8,f9,f10,zns,Nat.one_ne_zero,zeT]
end Go.Ev
end
section
namespace Go.Ev
attribute [local irreducible] P0
theorem zk0(f:Nat)(hb:Nat.blt f wT=true)(l:List Str)(hl:l.length≤1000000)(hg : ∀ o,o∈l→P0 f [.v (.str o)] []=some (.bool false,[]))(m:Nat) : ∀ i,i+m=l.length →
  yk (y9 l.length (.sl (strs l)) f) (vec [.int .i64 (i:Int)])=some (0,vec []):=by
 induction m with
 | zero=>
  intro i hi
  apply zr
  unfold y9
  have c1 : ¬ (i:Int)<(l.length:Int):=by omega
  simp only[zb,zl,zw,c1,decide_false,za,zc,zF,if_false]
 | succ m ih=>
  intro i hi
  have h1:i<l.length:=by omega
  have c1:(i:Int)<(l.length:Int):=by omega
  have hx:l[i]?=some l[i]:=zL h1
  have hgx:=hg l[i] (List.getElem_mem _)
  rw[← ih (i+1) (by omega)]
  apply zy
  unfold y9
  simp only[zb,zl,zw,c1,decide_true,za,zc,if_true,yI,zf,zp _ i l.length h1,xB,hx,zC,y4,hb,zh,hgx,zF,if_false,xo,yM (i:=i) (by omega)]
theorem zn4(l:List Str)(hl:l.length≤63)(hg : ∀ s,s∈l→s.length≤2000∧zhw s=true):P0 vl [.v (.sl (strs l))] []=some (.bool true,[]):=by
 have hf : ∀ s,s∈l→P0 wk [.v (.str s)] []=some (.bool false,[]):=by
  intro s hs
  obtain⟨h1,h2⟩:=hg s hs
  have c : ¬ ((s.length:Nat):Int) > 2000:=by omega
  rw[zdS];unfold Jh
  simp only[zb,qK,za,c,decide_false,if_true,ze3 s (by omega),h2,y0,zH]
 have h:=zk0 wk rfl l (by omega) hf l.length 0 (by omega)
 rw[show((0:Nat):Int)=0 from rfl]at h
 have c:((l.length:Nat):Int)≤63:=by omega
 have c2 : ¬ (0:Int) ≤ -1:=by decide
 have h2:P0 yo [.v (.sl (strs l)),.fn wk []] []=some (.bool false,[]):=by
  rw[kB];unfold vR
  rw[kO];unfold qd
  simp only[zb,zg,zf,za,h,if_true,qP,c2,decide_false]
 rw[zhA];unfold zbv
 simp only[zb,zg,zf,za,c,decide_true,if_true,h2,y0,zI]
theorem znb(t:Tree)(h:t.kind≠0):P0 jd [.v t.val] []=some (.bool false,[]):=by
 rw[zhs];unfold zc1
 simp only[zb,zd,zh,jv,za,yV,h,decide_false,zc,zF,if_false]
theorem zoH(o:OpR)(ho:o.op=1)(hf:o.from'=[])(hk:o.value.kind≠0)(hv:P0 xj [.v o.value.val] []=some (.bool true,[]))(hp:P0 vl [.v (.sl (strs o.path))] []=some (.bool true,[])):P0 vu [.v o.val] []=some (.bool true,[]):=by
 have e0:(((0:Nat):Int) == 0)=true:=rfl
 have e4 : ¬ ((1:Int)=4):=by decide
 have e5 : ¬ ((1:Int)=5):=by decide
 rw[ziL];unfold zeV
 simp only[zb,qt,zh,V5,VJ,zee,hf,zg,zf,List.length_nil,e0,za,zjC,znb _ hk,ho,yV,e4,e5,decide_false,decide_true,zc,zF,if_false,if_true,zl,hv,yp,hp,Nat.reduceSub,Nat.reduceEqDiff,Nat.one_ne_zero]
theorem zph(v:List Tree)(x:Tree):YK (arr v) [[45]] x=some (arr (v++[x])):=by
 unfold YK
 have e:([[45]]:List Str)≠[]:=by simp
 rw[if_neg e]
 show(wU (arr v) []).bind _=_
 rw[show wU (arr v) []=some (arr v)from rfl,zD,if_neg (by simp[arr,Tree.kind]),if_pos (by simp[arr,Tree.kind])]
 rw[show xq [[45]]=([45]:Str)from rfl]
 unfold YN
 rw[if_pos rfl,zD]
 show some (arr (v.take v.length++x::v.drop v.length))=_
 rw[List.take_length,List.drop_length]
end Go.Ev
end
section
namespace Go.Ev
attribute [local irreducible] P0
def f2:Tree := .mk 2 false .zero [] [] []
def Yj:AL:=[([97],arr [null])]
def zgU:AL:=[([97],arr [null,f2])]
def awQ15:OpR:=⟨1,[[97],[45]],[],f2⟩
theorem zq2:OkT (obj Yj):=by
 refine .obj Yj ⟨by simp[Yj],trivial⟩ (by decide) (by decide) (fun q hq => ?_)
 simp only[Yj,List.mem_singleton]at hq
 subst hq
 refine .arr [null] (by decide) (fun x hx => ?_)
 rw[List.mem_singleton.1 hx];exact .null
theorem zrA:Sz (obj Yj):=by
 have e0:OrdT null := .mk _ (fun h=>by simp[null,Tree.kind]at h) (by rw[X9 (by simp[null,Tree.kind])];trivial) (fun x hx=>by simp[null,Tree.n,Nm.zero]at hx) (by simp[null,Tree.n,Nm.zero]) (by simp[null,Tree.k]) (fun x hx=>by simp[null,Tree.v]at hx)
 refine⟨zaS ⟨by simp[Yj],trivial⟩ (fun q hq => ?_),by decide⟩
 simp only[Yj,List.mem_singleton]at hq
 subst hq
 exact za0 (fun x hx=>by rw[List.mem_singleton.1 hx];exact e0)
theorem zqL:OrdT f2 := .mk _ (fun h=>by simp[f2,Tree.kind]at h) (by rw[X9 (by simp[f2,Tree.kind])];trivial) (fun x hx=>by simp[f2,Tree.n,Nm.zero]at hx) (by simp[f2,Tree.n,Nm.zero]) (by simp[f2,Tree.k]) (fun x hx=>by simp[f2,Tree.v]at hx)
theorem zoT:VR (obj Yj) awQ15=some (obj zgU):=by
 unfold VR
 rw[if_pos (show awQ15.op=1 from rfl)]
 show YK (obj Yj) [[97],[45]] f2=_
 unfold YK
 rw[if_neg (by simp)]
 have h1:wU (obj Yj) [[97]]=some (arr [null]):=by rfl
 show(wU (obj Yj) [[97]]).bind _=_
 rw[h1,zD,if_neg (by decide),if_pos (by decide)]
 rfl
theorem zq4:ziX (obj zgU) 100=true:=by decide
theorem zsi:zqV [awQ15] where
 does o ho t ht:=by rw[List.mem_singleton.1 ho];exact zhR t awQ15 ht rfl (by simp[awQ15])
 ord o ho t r ht h:=by
  rw[List.mem_singleton.1 ho]at h
  have h:YK t [[97],[45]] f2=some r:=h
  obtain⟨h1,h2⟩:=znG ht.ord zqL h
  have:=ht.w
  have:yj f2=1:=by decide
  exact⟨h1,by omega⟩
theorem zql:P0 vu [.v awQ15.val] []=some (.bool true,[]):=by
 refine zoH awQ15 rfl rfl (by simp[awQ15,f2,Tree.kind]) (zhM (.bool false) (by decide) (by decide)) (zn4 _ (by simp[awQ15]) (fun s hs => ?_))
 simp only[awQ15,zS,List.not_mem_nil,or_false]at hs
 rcases hs with rfl | rfl<;>exact⟨by decide,zkc (by decide)⟩
theorem znj:P0 vB [.v (.agg [(.int .i64 7),(.bool false),(.bool false),(.sl []),(.int .i64 0),(.str []),(.sl [(.str [97])]),(.sl [(.agg [(.int .i64 6),(.bool false),(.bool false),(.sl []),(.int .i64 0),(.str []),(.sl []),(.sl [(.agg [(.int .i64 1),(.bool false),(.bool false),(.sl []),(.int .i64 0),(.str []),(.sl []),(.sl [])])])])])]),.v (.sl [(.agg [(.int .i64 1),(.sl [(.str [97]),(.str [45])]),(.sl []),(.int .i64 2),(.bool false),(.bool false),(.sl []),(.int .i64 0),(.str []),(.sl []),(.sl [])])]),.v (.int .i64 100)] [] =
  some (.tup [(obj zgU).val,.int .i64 (-1),.int .i64 0],[]):=by
 have ev:(obj Yj).val = .agg [(.int .i64 7),(.bool false),(.bool false),(.sl []),(.int .i64 0),(.str []),(.sl [(.str [97])]),(.sl [(.agg [(.int .i64 6),(.bool false),(.bool false),(.sl []),(.int .i64 0),(.str []),(.sl []),(.sl [(.agg [(.int .i64 1),(.bool false),(.bool false),(.sl []),(.int .i64 0),(.str []),(.sl []),(.sl [])])])])])]:=by
  rw[Vv];rfl
 have eo:zaJ [awQ15]=[(.agg [(.int .i64 1),(.sl [(.str [97]),(.str [45])]),(.sl []),(.int .i64 2),(.bool false),(.bool false),(.sl []),(.int .i64 0),(.str []),(.sl []),(.sl [])])]:=rfl
 have ea:JL 100 (obj Yj) [awQ15] 0 = .inl (obj zgU):=by
  rw[JL,zoT]
  dsimp only
  rw[if_pos zq4,JL]
 have h:=zoD (obj Yj) [awQ15] 100 (by decide) zrA (zhM zq2 (by decide) (by decide)) (by simp) (fun o ho=>by rw[List.mem_singleton.1 ho];exact zql) zsi
 rw[ea,ev,eo]at h
 exact h
theorem za8:P0 vm [] []=some (.bool true,[]):=by
 have ev:(obj zgU).val = .agg [(.int .i64 7),(.bool false),(.bool false),(.sl []),(.int .i64 0),(.str []),(.sl [(.str [97])]),(.sl [(.agg [(.int .i64 6),(.bool false),(.bool false),(.sl []),(.int .i64 0),(.str []),(.sl []),(.sl [(.agg [(.int .i64 1),(.bool false),(.bool false),(.sl []),(.int .i64 0),(.str []),(.sl []),(.sl [])]),(.agg [(.int .i64 2),(.bool false),(.bool false),(.sl []),(.int .i64 0),(.str []),(.sl []),(.sl [])])])])])]:=by
  rw[Vv];rfl
 rw[zdd];unfold V2
 simp only[zb,znj,ev,za]
 rfl
end Go.Ev
end
section
namespace Go.Ev
attribute [local irreducible] P0
theorem zcT(t:Tree)(p:List Str)(h:Sz t)(hp:p.length≤1000000):P0 vE [.v t.val,.v (.sl (strs p))] []=some (wt (zaw t p),[]):=by
 rw[zdu];unfold QQ
 unfold zaw
 by_cases hn:p=[]
 ·subst hn
  have c : ¬ (((0:Nat):Int) > 0):=by decide
  rw[if_pos rfl]
  simp only[zb,zd,zh,zg,zf,za,List.length_nil,c,decide_false,vf,zF,if_false,ql,zo,zM,zN,zc,wt]
 rw[if_neg hn]
 have c:((p.length:Nat):Int) > 0:=by have:=List.length_pos_iff.2 hn;omega
 have hup:p.dropLast.length≤1000000:=by rw[List.length_dropLast];omega
 have hg:=Jd t p h hp
 have hs:=zgR p hn hp
 cases hy:wU t p with
 | none=>
  rw[hy]at hg
  simp only[zb,zd,zh,zg,zf,za,c,decide_true,vf,if_true,zo,zM,zN,zc,hg,wt,ql,zF,if_false,Option.bind_none]
 | some y=>
  rw[hy]at hg
  obtain⟨x,hx,hc⟩:=zh2 hn hy
  have hg2:=Jd t p.dropLast h hup
  rw[hx]at hg2
  have hsz:=h.get hx
  rw[hx,zD,zD]
  by_cases hk:x.kind=7
  ·have e:zdh x (xq p)=obj (YB (xq p) (al x)):=if_pos hk
   rw[e]
   have hu:=znA x (xq p) (Nat.le_trans (zgj x) hsz.v)
   rw[zir hk hc]at hu
   have hput:=za2 t p.dropLast (obj (YB (xq p) (al x))) h hup
   cases hq:Wk t p.dropLast (obj (YB (xq p) (al x)))with
   | none=>
    rw[hq]at hput
    simp only[zb,zd,zh,zg,zf,za,c,decide_true,vf,if_true,zo,zM,zN,zc,hg,hs,hg2,wt,jv,yV,hk,hu,hput,ql,zF,if_false]
   | some z=>
    rw[hq]at hput
    simp only[zb,zd,zh,zg,zf,za,c,decide_true,vf,if_true,zo,zM,zN,zc,hg,hs,hg2,wt,jv,yV,hk,hu,hput]
  ·have hk6:x.kind=6:=(QD hc).resolve_right hk
   obtain⟨i,h1,h2,h3⟩:=Ko hk6 hc
   have e:zdh x (xq p)=arr (x.v.take i++x.v.drop (i+1)):=by unfold zdh;rw[if_neg hk,h1];rfl
   rw[e]
   have hi:=zaW (xq p) (x.v.length:Int)
   rw[zl9 h1 (b:=(x.v.length:Int)) (by omega)]at hi
   have hi:P0 ye [.v (.str (xq p)),.v (.int .i64 (x.v.length:Int))] []=some (.tup [.int .i64 (i:Int),.bool true],[]):=hi
   have hxl:=hsz.v
   have hb1:=XR .i64 (i:Int) x.v.length ⟨by omega,by omega⟩
   have hb2:=jw .i64 ((i+1:Nat):Int) x.v.length ⟨by omega,by omega⟩
   rw[Int.toNat_natCast]at hb1 hb2
   have hcc:=zd2 (x.v.take i) (x.v.drop (i+1)) (by rw[List.length_take];omega) (by rw[List.length_drop];omega)
   have hdt:(x.v.drop (i+1)).take (x.v.length - (i+1))=x.v.drop (i+1):=by rw[zV];rw[List.length_drop];exact zR _
   have hput:=za2 t p.dropLast (arr (x.v.take i++x.v.drop (i+1))) h hup
   rw[zfy]at hput
   have k7 : ¬ ((6:Int)=7):=by decide
   cases hq:Wk t p.dropLast (arr (x.v.take i++x.v.drop (i+1)))with
   | none=>
    rw[hq]at hput
    simp only[zb,zd,zh,zg,zf,za,c,decide_true,vf,if_true,zo,zM,zN,zc,hg,hs,hg2,wt,jv,yV,hk6,k7,decide_false,zF,if_false,qj,zm,hi,xQ,hb1,xo,yM (i:=i) (by omega),hb2,zU,Nat.sub_zero,Zw,Xf,hdt,hcc,Qr,vn,hput,ql]
   | some z=>
    rw[hq]at hput
    simp only[zb,zd,zh,zg,zf,za,c,decide_true,vf,if_true,zo,zM,zN,zc,hg,hs,hg2,wt,jv,yV,hk6,k7,decide_false,zF,if_false,qj,zm,hi,xQ,hb1,xo,yM (i:=i) (by omega),hb2,zU,Nat.sub_zero,Zw,Xf,hdt,hcc,Qr,vn,hput]
theorem znh(t:Tree)(a b:List Str)(h:Sz t)(ha:a.length≤1000000)(hb:b.length≤1000000):P0 Zs [.v t.val,.v (.sl (strs a)),.v (.sl (strs b))] []=some (wt (ziU t a b),[]):=by
 rw[zg2];unfold zdc
 unfold ziU
 have hg:=Jd t a h ha
 have hq:=seq_ok a b ha
 have hst:=zjw a b ha
 cases hv:wU t a with
 | none=>
  rw[hv]at hg
  simp only[zb,zd,zh,za,hg,wt,ql,zo,zM,zN,zc,zF,if_false,Option.bind_none]
 | some v=>
  rw[hv]at hg
  rw[zD]
  by_cases hab:a=b
  ·rw[if_pos hab]
   have hd:decide (a=b)=true:=decide_eq_true hab
   rw[hd]at hq
   simp only[zb,zd,zh,za,hg,wt,zo,zM,zN,zc,if_true,hq]
  rw[if_neg hab]
  have hd:decide (a=b)=false:=decide_eq_false hab
  rw[hd]at hq
  by_cases hn:a=[]
  ·subst hn
   have c : ¬ (((0:Nat):Int) > 0):=by decide
   rw[if_pos (.inl rfl)]
   simp only[zb,zd,zh,za,hg,wt,zo,zM,zN,zc,if_true,hq,zF,if_false,zg,zf,List.length_nil,c,decide_false,vf,ql]
  have c:((a.length:Nat):Int) > 0:=by have:=List.length_pos_iff.2 hn;omega
  have hst:P0 y3 [.v (.sl (strs a)),.v (.sl (strs b))] []=some (.bool (Jz a b),[]):=hst
  cases hs:Jz a b with
  | true=>
   rw[hs]at hst
   rw[if_pos (.inr rfl)]
   simp only[zb,zd,zh,za,hg,wt,zo,zM,zN,zc,if_true,hq,zF,if_false,zg,zf,c,decide_true,hst,y0,zH,vf,ql]
  | false=>
   rw[hs]at hst
   rw[if_neg (fun e=>by rcases e with e | e;exact hn e;cases e)]
   have hr:=zcT t a h ha
   cases hx:zaw t a with
   | none=>
    rw[hx]at hr
    simp only[zb,zd,zh,za,hg,wt,zo,zM,zN,zc,if_true,hq,zF,if_false,zg,zf,c,decide_true,hst,y0,zI,vf,ql,hr,Option.bind_none]
   | some x=>
    rw[hx]at hr
    obtain⟨o1,o2⟩:=zmZ h.ord hx
    have hsx:Sz x:=⟨o1,by have:=h.w;omega⟩
    have had:=zgb x b v hsx hb
    rw[zD]
    cases hz:YK x b v with
    | none=>
     rw[hz]at had
     simp only[zb,zd,zh,za,hg,wt,zo,zM,zN,zc,if_true,hq,zF,if_false,zg,zf,c,decide_true,hst,y0,zI,vf,ql,hr,had]
    | some z=>
     rw[hz]at had
     simp only[zb,zd,zh,za,hg,wt,zo,zM,zN,zc,if_true,hq,zF,if_false,zg,zf,c,decide_true,hst,y0,zI,vf,hr,had]
theorem znX(t:Tree)(o:OpR)(h:Sz t)(ho:o.op=2)(hp:o.path.length≤1000000):P0 vi [.v t.val,.v o.val] []=some (wt (zaw t o.path),[]):=by
 rw[Yk];unfold ZC
 have ha:=zcT t o.path h hp
 have n1 : ¬ ((2:Int)=1):=by decide
 cases hx:zaw t o.path with
 | none=>
  rw[hx]at ha
  simp only[zb,zd,qt,zh,V5,VJ,ho,yV,n1,decide_false,decide_true,za,zc,if_true,zF,if_false,ha,wt,ql,zo,zM,zN]
 | some x=>
  rw[hx]at ha
  simp only[zb,zd,qt,zh,V5,VJ,ho,yV,n1,decide_false,decide_true,za,zc,if_true,zF,if_false,ha,wt,zo,zM,zN]
theorem zoo(t:Tree)(o:OpR)(h:Sz t)(ho:o.op=4)(hp:o.path.length≤1000000)(hf:o.from'.length≤1000000):P0 vi [.v t.val,.v o.val] []=some (wt (ziU t o.from' o.path),[]):=by
 rw[Yk];unfold ZC
 have ha:=znh t o.from' o.path h hf hp
 have n1 : ¬ ((4:Int)=1):=by decide
 have n2 : ¬ ((4:Int)=2):=by decide
 have n3 : ¬ ((4:Int)=3):=by decide
 cases hx:ziU t o.from' o.path with
 | none=>
  rw[hx]at ha
  simp only[zb,zd,qt,zh,V5,VJ,zee,ho,yV,n1,n2,n3,decide_false,decide_true,za,zc,if_true,zF,if_false,ha,wt,ql,zo,zM,zN]
 | some x=>
  rw[hx]at ha
  simp only[zb,zd,qt,zh,V5,VJ,zee,ho,yV,n1,n2,n3,decide_false,decide_true,za,zc,if_true,zF,if_false,ha,wt,zo,zM,zN]
theorem zn7(t:Tree)(o:OpR)(h:Sz t)(ho:o.op=5)(hp:o.path.length≤1000000)(hf:o.from'.length≤1000000):P0 vi [.v t.val,.v o.val] []=some (wt ((wU t o.from').bind fun v=>YK t o.path v),[]):=by
 rw[Yk];unfold ZC
 have hg:=Jd t o.from' h hf
 have n1 : ¬ ((5:Int)=1):=by decide
 have n2 : ¬ ((5:Int)=2):=by decide
 have n3 : ¬ ((5:Int)=3):=by decide
 have n4 : ¬ ((5:Int)=4):=by decide
 cases hx:wU t o.from' with
 | none=>
  rw[hx]at hg
  simp only[zb,zd,qt,zh,V5,VJ,zee,ho,yV,n1,n2,n3,n4,decide_false,decide_true,za,zc,if_true,zF,if_false,hg,wt,ql,zo,zM,zN,Option.bind_none]
 | some v=>
  rw[hx]at hg
  have ha:=zgb t o.path v h hp
  rw[zD]
  cases hq:YK t o.path v with
  | none=>
   rw[hq]at ha
   simp only[zb,zd,qt,zh,V5,VJ,zee,ho,yV,n1,n2,n3,n4,decide_false,decide_true,za,zc,if_true,zF,if_false,hg,ha,wt,ql,zo,zM,zN]
  | some x=>
   rw[hq]at ha
   simp only[zb,zd,qt,zh,V5,VJ,zee,ho,yV,n1,n2,n3,n4,decide_false,decide_true,za,zc,if_true,zF,if_false,hg,ha,wt,zo,zM,zN]
end Go.Ev
end
