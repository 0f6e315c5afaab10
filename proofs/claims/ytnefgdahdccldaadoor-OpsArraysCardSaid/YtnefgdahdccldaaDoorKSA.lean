/- What functions compute, put together. -/
import Derived.Test.YtnefgdahdccldaaDoorKPv
import Derived.Test.YtnefgdahdccldaaDoorKSp
set_option linter.all false
open Option renaming map_eq_some_iff→zB,map_some→zC,bind_some→zD
open Bool renaming false_eq_true→zF,and_eq_true→zG,not_true→zH,not_false→zI
open List renaming getElem?_eq_getElem→zL,getElem?_cons_zero→zM,getElem?_cons_succ→zN,drop_eq_getElem_cons→zO,drop_eq_nil_of_le→zQ,drop_zero→zU,take_of_length_le→zV
open Nat renaming le_refl→zR
open Int renaming natCast_nonneg→zY
section
namespace Go.Ev
attribute [local irreducible] P0
end Go.Ev
end
section
namespace Go.Ev
attribute [local irreducible] P0
theorem Nm.zero_ok:Nm.zero.ok := .inl ⟨rfl,rfl,rfl⟩
end Go.Ev
end
section
namespace Go.Ev
attribute [local irreducible] P0
instance:DecidableEq Nm:=fun a b=>by
 cases a;cases b
 simp only[Nm.mk.injEq]
 infer_instance
theorem zom{n:Nm}(h:n.ok):U32 n.m∧Nrm n.m∧n.m.length≤90:=by
 rcases h with⟨h1,_⟩ | ⟨_,h2,h3,h4,_⟩
 ·rw[h1];exact⟨fun x hx=>by simp at hx,by simp[Nrm],by simp⟩
 ·exact⟨h2,h4,h3⟩
end Go.Ev
end
section
namespace Go.Ev
theorem qK(s:Str):zaH (.str s)=some s.length:=rfl
theorem JJ(s:Str)(k:IntKind)(i:Nat)(b:UInt8)(h:s[i]?=some b):Zx (.str s) (.int k (i:Int))=some (.int .u8 (b.toNat:Int)):=by
 have hi:i<s.length:=by
  rcases Nat.lt_or_ge i s.length with h' | h'
  ·exact h'
  ·rw[List.getElem?_eq_none h']at h;cases h
 unfold Zx;simp[zp k i s.length hi,h]
end Go.Ev
end
section
namespace Go.Ev
attribute [local irreducible] P0
end Go.Ev
end
section
namespace Go.Ev
attribute [local irreducible] P0
theorem yM{i:Nat}(h:i≤1000000000):IntKind.i64.wrap ((i:Int)+1)=((i+1:Nat):Int):=w64 (a:=(i:Int)+1) (by omega)
theorem zjx(l:List Str)(s:Str)(hl:l.length≤1000000)(k:Nat) : ∀ i,i+k=l.length →
  yk (xp l.length (.sl (strs l)) (.str s)) (vec [.int .i64 (i:Int)])=match pos s (l.drop i)with | some j=>some (1,vec [.int .i64 ((i+j:Nat):Int)]) | none=>some (0,vec []):=by
 induction k with
 | zero=>
  intro i hi
  have e:i=l.length:=by omega
  subst e
  rw[List.drop_length]
  apply zr
  unfold xp
  simp only[zb,zl,zw,Int.lt_irrefl,decide_false,za,zc,zF,if_false]
 | succ k ih=>
  intro i hi
  have hlt:i<l.length:=by omega
  have c1:(i:Int)<(l.length:Int):=by omega
  have hx:l[i]?=some l[i]:=zL hlt
  rw[zO hlt]
  simp only[pos]
  by_cases he:l[i]=s
  ·rw[if_pos he]
   apply zr
   unfold xp
   simp only[zb,zl,zw,c1,decide_true,za,zc,if_true,yI,zf,zp _ i l.length hlt,xB,hx,zC,y4,jU,he,beq_self_eq_true,Nat.add_zero]
  ·rw[if_neg he]
   have hne:(s == l[i])=false:=by simpa using fun e=>he e.symm
   rw[zy (a':=vec [.int .i64 ((i+1:Nat):Int)])]
   ·rw[ih (i+1) (by omega)]
    cases pos s (l.drop (i+1))with
    | none=>rfl
    | some j=>simp only[zC];rw[show i+1+j=i+(j+1) by omega]
   ·unfold xp
    simp only[zb,zl,zw,c1,decide_true,za,zc,if_true,yI,zf,zp _ i l.length hlt,xB,hx,zC,y4,jU,hne,zF,if_false,xo,yM (i:=i) (by omega)]
theorem zbR(l:List Str)(s:Str)(hl:l.length≤1000000):P0 yb [.v (.sl (strs l)),.v (.str s)] []=some (.int .i64 (match pos s l with | some i=>(i:Int) | none => -1),[]):=by
 rw[Xm];unfold jS
 have h:=zjx l s hl l.length 0 (by omega)
 rw[zU,show((0:Nat):Int)=0 from rfl]at h
 simp only[zb,zg,za,zf,h]
 cases pos s l with
 | none=>rfl
 | some i=>simp only[za,Nat.zero_add];rfl
theorem zlU(k:List Str)(v:List Tree):names (k.zip v)=k.take (min k.length v.length):=by
 induction k generalizing v with
 | nil=>simp[names]
 | cons x r ih=>cases v with
  | nil=>simp[names]
  | cons y s=>
   have:=ih s
   simp only[names]at this ⊢
   simp[this,Nat.succ_min_succ]
theorem zlo(k:List Str)(v:List Tree):yn (k.zip v)=v.take (min k.length v.length):=by
 induction k generalizing v with
 | nil=>simp[yn]
 | cons x r ih=>cases v with
  | nil=>simp[yn]
  | cons y s=>
   have:=ih s
   simp only[yn]at this ⊢
   simp[this,Nat.succ_min_succ]
theorem zkr(k k':IntKind)(i n:Nat)(h:i≤n):zlZ none (some (.int k (i:Int))) (some (.int k' (i:Int))) n=some (0,i):=by
 simp[zlZ,Kj,h]
theorem ziG(t:Tree):P0 wx [.v t.val] []=some (.tup [.sl (strs (names (al t))),.sl (trs (yn (al t)))],[]):=by
 rw[zgJ];unfold zdf
 by_cases hk:t.kind=7
 ·have hal:al t=t.k.zip t.v:=if_pos hk
  have hm:zgt (.int .i64 ((t.k.length:Nat):Int)) [.int .i64 ((t.v.length:Nat):Int)]=some (.int .i64 ((min t.k.length t.v.length:Nat):Int)):=by
   simp only[zgt,if_true]
   congr 2
   split<;>omega
  simp only[zb,zd,zh,jv,za,zeJ,hk,decide_true,zH,zc,zF,if_false,zav,qj,zg,zf,zm,hm,yI,xQ,
   zkr _ _ _ _ (Nat.min_le_left t.k.length t.v.length),zkr _ _ _ _ (Nat.min_le_right t.k.length t.v.length),zU,Nat.sub_zero,j5,Zw,hal,zlU,zlo]
 ·simp only[zb,zd,zh,jv,za,zeJ,hk,decide_false,zI,zc,if_true,X9 hk]
  rfl
/-- what is at the first place of a name -/
theorem zqD{n:Str}{l:AL}:(pos n (names l)).bind (fun i=>(yn l)[i]?)=lk n l:=by
 induction l with
 | nil=>rfl
 | cons p r ih=>
  obtain⟨k,v⟩:=p
  show(if k=n then some 0 else(pos n (names r)).map (· + 1)).bind _=if k=n then some v else lk n r
  split
  ·rfl
  ·rw[← ih]
   cases pos n (names r)with
   | none=>rfl
   | some i=>simp[yn]
theorem zbd{n:Str}{l:AL}:pos n (names l)=none↔lk n l=none:=by
 induction l with
 | nil=>simp[names,pos,lk]
 | cons p r ih=>
  obtain⟨k,v⟩:=p
  show(if k=n then some 0 else(pos n (names r)).map (· + 1))=none↔(if k=n then some v else lk n r)=none
  split
  ·simp
  ·rw[← ih];simp
/-- a member, and whether there is one -/
def zqO(n:Str)(l:AL):V:=match lk n l with
 | some x => .tup [x.val,.bool true]
 | none => .tup [Tree.zero.val,.bool false]
theorem zlc(t:Tree)(n:Str)(hl:(al t).length≤1000000):P0 vk [.v t.val,.v (.str n)] []=some (zqO n (al t),[]):=by
 rw[zcx];unfold VI
 have hlen:(names (al t)).length=(al t).length:=jg _
 have hlen2:(yn (al t)).length=(al t).length:=jf _
 simp only[zb,zd,zh,ziG,za,zo,zM,zN,zbR _ _ (by omega:(names (al t)).length≤1000000)]
 unfold zqO
 have h:=zqD (n:=n) (l:=al t)
 cases hp:pos n (names (al t))with
 | none=>
  rw[hp]at h
  simp only[Option.bind_none]at h
  rw[← h]
  have c1 : ¬ (0:Int) ≤ -1:=by decide
  simp only[zb,qP,c1,decide_false,za,zc,zF,if_false]
  rfl
 | some i=>
  have hi:=zjj hp
  rw[hp]at h
  simp only[zD]at h
  have hx:(yn (al t))[i]?=some (yn (al t))[i]:=zL (by omega)
  rw[hx]at h
  rw[← h]
  have c1:(0:Int)≤(i:Int):=zY i
  simp only[zb,qP,c1,decide_true,za,zc,if_true,xQ,zm,zp _ i (yn (al t)).length (by omega),jy,hx,zC,zd,zh]
end Go.Ev
end
section
namespace Go.Ev
attribute [local irreducible] P0
theorem zqy(a b:Str):(!(Op.bytesLess a b || a == b))=lt b a:=by
 by_cases h:a=b
 ·subst h;rw[lt_irrefl];simp
 ·have hb:(a == b)=false:=by simpa using h
  rw[hb,Bool.or_false]
  cases h1:Op.bytesLess a b with
  | true=>rw[zg5 h1];rfl
  | false=>rw[zbo h h1];rfl
/-- the first place of a greater name -/
def Wc(n:Str):List Str→Option Nat
 | []=>none
 | x::r=>if lt n x=true then some 0 else(Wc n r).map (· + 1)
theorem zoX{s:Str}{l:List Str}{i:Nat}(h:Wc s l=some i):i<l.length:=by
 induction l generalizing i with
 | nil=>simp[Wc]at h
 | cons x r ih=>
  simp only[Wc]at h
  split at h
  ·injection h with h;subst h;simp
  ·rw[zB]at h
   obtain⟨j,hj,rfl⟩:=h
   have:=ih hj;simp;omega
theorem zqa(a b:Str):P0 xJ [.v (.str a),.p 0 0] [(true,1,.str b)]=some (.bool (lt b a),[.str b]):=by
 rw[zdA];unfold Jm
 simp only[zb,zqf,za,zqy]
theorem ze0:Nat.blt xJ wT=true:=rfl
theorem zh0(l:List Str)(s:Str)(hl:l.length≤1000000)(k:Nat) : ∀ i,i+k=l.length →
  yk (yW l.length (.sl (strs l)) xJ (.str s)) (vec [.int .i64 (i:Int)])=match Wc s (l.drop i)with | some j=>some (1,vec [.int .i64 ((i+j:Nat):Int)]) | none=>some (0,vec []):=by
 induction k with
 | zero=>
  intro i hi
  have e:i=l.length:=by omega
  subst e
  rw[List.drop_length]
  apply zr
  unfold yW
  simp only[zb,zl,zw,Int.lt_irrefl,decide_false,za,zc,zF,if_false]
 | succ k ih=>
  intro i hi
  have hlt:i<l.length:=by omega
  have c1:(i:Int)<(l.length:Int):=by omega
  have hx:l[i]?=some l[i]:=zL hlt
  rw[zO hlt]
  simp only[Wc]
  by_cases he:lt s l[i]=true
  ·rw[if_pos he]
   apply zr
   unfold yW
   simp only[zb,zl,zw,c1,decide_true,za,zc,if_true,yI,zf,zp _ i l.length hlt,xB,hx,zC,y4,ze0,zh,zqa,he,Nat.add_zero]
  ·rw[if_neg he]
   have he:lt s l[i]=false:=by simpa using he
   rw[zy (a':=vec [.int .i64 ((i+1:Nat):Int)])]
   ·rw[ih (i+1) (by omega)]
    cases Wc s (l.drop (i+1))with
    | none=>rfl
    | some j=>simp only[zC];rw[show i+1+j=i+(j+1) by omega]
   ·unfold yW
    simp only[zb,zl,zw,c1,decide_true,za,zc,if_true,yI,zf,zp _ i l.length hlt,xB,hx,zC,y4,ze0,zh,zqa,he,zF,if_false,xo,yM (i:=i) (by omega)]
theorem zlf(l:List Str)(s:Str)(hl:l.length≤1000000):P0 zz [.v (.sl (strs l)),.fn xJ [.p 0 0]] [(false,1,.str s)]=some (.int .i64 (match Wc s l with | some i=>(i:Int) | none => -1),[.str s]):=by
 rw[Zv];unfold qI
 have h:=zh0 l s hl l.length 0 (by omega)
 rw[zU,show((0:Nat):Int)=0 from rfl]at h
 simp only[zb,zg,za,zf,h]
 cases Wc s l with
 | none=>rfl
 | some i=>simp only[za,Nat.zero_add];rfl
theorem zjV(l:List Str)(i:Nat)(n:Str)(hi:i≤l.length)(hl:l.length≤1000000):P0 xG [.u,.v (.sl (strs l)),.v (.int .i64 (i:Int)),.v (.sl [.str n])] []=some (.sl (strs (l.take i++n::l.drop i)),[]):=by
 rw[ZZ]
 have hk:KU 16 (strs l).length [V.str n].length (i:Int)=true:=by
  simp only[KU,zf,List.length_singleton,zG,decide_eq_true_eq];omega
 have h1:yc 1 [V.str n]=true:=rfl
 simp only[ZK,zcB,V1,kC,KA,h1,hk,Bool.and_self,zh,za,Int.toNat_natCast,j5,Vn]
 simp[strs]
theorem znN(l:List Tree)(i:Nat)(x:Tree)(hi:i≤l.length)(hl:l.length≤1000000):P0 wB [.u,.v (.sl (trs l)),.v (.int .i64 (i:Int)),.v (.sl [x.val])] []=some (.sl (trs (l.take i++x::l.drop i)),[]):=by
 rw[Wi]
 have hk:KU 120 (trs l).length [x.val].length (i:Int)=true:=by
  simp only[KU,zm,List.length_singleton,zG,decide_eq_true_eq];omega
 have h1:yc 8 [x.val]=true:=by simp[yc,zd]
 simp only[ZK,zcB,V1,kC,zcz,h1,hk,Bool.and_self,zh,za,Int.toNat_natCast,Zw,Xf]
 simp[trs]
theorem Vv(l:AL):(obj l).val = .agg [.int .i64 7,.bool false,.bool false,.sl [],.int .i64 0,.str [],.sl (strs (names l)),.sl (trs (yn l))]:=by rw[Tree.val_eq];rfl
theorem zhq{α:Type}(l:List α)(z:α):((xR (List.replicate l.length z) 0 (l.take (Nat.min l.length l.length))).drop 0).take l.length=l:=by
 have:Nat.min l.length l.length=l.length:=Nat.min_self _
 rw[this,zV (zR _),zU]
 simp[xR]
theorem zmj{n:Str}{v:Tree}{l:AL}{i:Nat}(hs:Qo l)(h:pos n (names l)=some i):names (qU n v l)=names l∧yn (qU n v l)=(yn l).set i v:=by
 induction l generalizing i with
 | nil=>simp[names,pos]at h
 | cons p r ih=>
  obtain⟨k,w⟩:=p
  obtain⟨h1,h2⟩:=JD.1 hs
  have h:(if k=n then some 0 else(pos n (names r)).map (· + 1))=some i:=h
  simp only[qU]
  by_cases e:k=n
  ·rw[if_pos e]at h ⊢
   injection h with h;subst h
   exact⟨by rw[e];rfl,rfl⟩
  ·rw[if_neg e]at h ⊢
   rw[zB]at h
   obtain⟨j,hj,rfl⟩:=h
   have hm:n∈names r:=by
    apply Classical.byContradiction
    intro hc
    rw[zbd.2 (zgM.2 hc)]at hj;contradiction
   have:lt n k=false:=zg5 (h1 n hm)
   rw[this]
   obtain⟨h3,h4⟩:=ih h2 hj
   exact⟨by show k::names (qU n v r)=k::names r;rw[h3],by show w::yn (qU n v r)=(w::yn r).set (j+1) v;rw[h4];rfl⟩
theorem zoQ{n:Str}{v:Tree}{l:AL}(h:pos n (names l)=none):names (qU n v l)=(names l).take ((Wc n (names l)).getD l.length)++n::(names l).drop ((Wc n (names l)).getD l.length) ∧
  yn (qU n v l)=(yn l).take ((Wc n (names l)).getD l.length)++v::(yn l).drop ((Wc n (names l)).getD l.length):=by
 induction l with
 | nil=>exact⟨rfl,rfl⟩
 | cons p r ih=>
  obtain⟨k,w⟩:=p
  have h:(if k=n then some 0 else(pos n (names r)).map (· + 1))=none:=h
  split at h
  ·contradiction
  ·next e=>
   have h:pos n (names r)=none:=by simpa using h
   obtain⟨h3,h4⟩:=ih h
   have e1:names ((k,w)::r)=k::names r:=rfl
   have e2:yn ((k,w)::r)=w::yn r:=rfl
   simp only[qU,if_neg e,e1,e2,Wc]
   by_cases hlt:lt n k=true
   ·simp only[if_pos hlt];exact⟨rfl,rfl⟩
   ·simp only[if_neg hlt]
    have e3:((Wc n (names r)).map (· + 1)).getD (r.length+1)=(Wc n (names r)).getD r.length+1:=by cases Wc n (names r)<;>rfl
    simp only[List.length_cons,e3,List.take_succ_cons,List.drop_succ_cons,List.cons_append]
    exact⟨by show k::names (qU n v r)=_;rw[h3],by show w::yn (qU n v r)=_;rw[h4]⟩
theorem zm1(t:Tree)(n:Str)(v:Tree)(hs:Qo (al t))(hl:(al t).length≤1000000):P0 vj [.v t.val,.v (.str n),.v v.val] []=some ((obj (qU n v (al t))).val,[]):=by
 rw[zhZ];unfold zc0
 have hlen:(names (al t)).length=(al t).length:=jg _
 have hlen2:(yn (al t)).length=(al t).length:=jf _
 have m1:=zgV 16 (names (al t)).length (by omega) (by omega)
 have m2:=zgV 120 (yn (al t)).length (by omega) (by omega)
 have e1:=zhq (strs (names (al t))) (.str [])
 have e2:=fun z=>zhq (trs (yn (al t))) z
 rw[zf]at e1
 simp only[zm]at e2
 simp only[zb,zd,zh,kA,y4,za,ziG,zo,zM,zN,zg,zf,zm,m1,m2,W8,kN,e1,zbR _ _ (by omega:(names (al t)).length≤1000000)]
 cases hp:pos n (names (al t))with
 | some i=>
  have hi:=zjj hp
  obtain⟨h1,h2⟩:=zmj (v:=v) hs hp
  have c1:(0:Int)≤(i:Int):=zY i
  have e3 : ∀ z,(((xR (List.replicate (yn (al t)).length z) 0 ((trs (yn (al t))).take (Nat.min (yn (al t)).length (yn (al t)).length))).set (0+i) v.val).drop 0).take (yn (al t)).length=trs ((yn (al t)).set i v):=by
   intro z
   have:=e2 z
   rw[zU]at this ⊢
   have hln:(xR (List.replicate (yn (al t)).length z) 0 ((trs (yn (al t))).take (Nat.min (yn (al t)).length (yn (al t)).length))).length=(yn (al t)).length:=by
    have h8:Nat.min (yn (al t)).length (yn (al t)).length=(yn (al t)).length:=Nat.min_self _
    rw[h8];simp[xR,zm]
   rw[zV (by omega)]at this
   rw[this,zV (by rw[List.length_set,zm];omega),Nat.zero_add,zfT]
  simp only[zb,qP,c1,decide_true,za,zc,if_true,zp _ i (yn (al t)).length (by omega),zd,zh,zf,zm,e1,e3,Vv,h1,h2]
 | none=>
  obtain⟨h1,h2⟩:=zoQ (v:=v) hp
  have c1 : ¬ (0:Int) ≤ -1:=by decide
  simp only[zb,qP,c1,decide_false,za,zc,zF,if_false,zf,e1,zlf _ _ (by omega:(names (al t)).length≤1000000),zM]
  cases hg:Wc n (names (al t))with
  | some p=>
   have hpl:=zoX hg
   have c2 : ¬ ((p:Int)<0):=by omega
   rw[hg]at h1 h2
   simp only[Option.getD_some]at h1 h2
   simp only[zb,zw,c2,decide_false,za,zc,zF,if_false,kA,zh,y4,Nat.beq_refl,zl,zf,zm,e1,e2,zjV _ _ _ (by omega:p≤(names (al t)).length) (by omega),zd,znN _ _ _ (by omega:p≤(yn (al t)).length) (by omega),Qr,vn,Vv,h1,h2]
  | none=>
   have c2:((-1:Int)<0):=by decide
   rw[hg]at h1 h2
   simp only[Option.getD_none]at h1 h2
   rw[← hlen]at h1 h2
   have i1:=zjV (names (al t)) (names (al t)).length n (zR _) (by omega)
   have i2:=znN (yn (al t)) (names (al t)).length v (by omega) (by omega)
   simp only[zb,zw,c2,decide_true,za,zc,if_true,kA,zh,y4,Nat.beq_refl,zl,zf,zm,e1,e2,i1,zd,i2,Qr,vn,Vv,h1,h2]
end Go.Ev
end
section
namespace Go.Ev
attribute [local irreducible] P0
theorem zgp(s:Str):yc 1 [V.str s]=true:=rfl
theorem zoC(n:Nat)(h:n≤100000000):P0 xu [.g,.v (.sl []),.v (.int .i64 (n:Int))] []=some (.sl [],[]):=by
 rw[YY]
 have hk:Qg 16 (n:Int)=true:=by
  simp only[Qg,zG,decide_eq_true_eq,Int.toNat_natCast];omega
 simp only[ZK,zcB,V1,W2,hk,zh,za]
theorem zkn(n:Nat)(h:n≤100000000):P0 wv [.g,.v (.sl []),.v (.int .i64 (n:Int))] []=some (.sl [],[]):=by
 rw[VE]
 have hk:Qg 120 (n:Int)=true:=by
  simp only[Qg,zG,decide_eq_true_eq,Int.toNat_natCast];omega
 simp only[ZK,zcB,V1,W2,hk,zh,za]
theorem znH(a b:List V):yc 1 [V.sl a,V.sl b]=true:=rfl
theorem kI(a b:List V):xk 1 (.sl [V.sl a,V.sl b])=some [.sl a,.sl b]:=by unfold xk;simp only[znH]
theorem zfC:slV (.sl [])=some []:=rfl
theorem zjS(a b:List Str)(ha:a.length≤1000000)(hb:b.length≤1000000):P0 yN [.v (.sl [.sl (strs a),.sl (strs b)])] []=some (.sl (strs (a++b)),[]):=by
 rw[Xa];unfold jC
 have w1:IntKind.i64.wrap (0+(a.length:Int))=(a.length:Int):=w64 (a:=0+(a.length:Int)) (by omega) |>.trans (by omega)
 have w2:IntKind.i64.wrap ((a.length:Int)+(b.length:Int))=((a.length+b.length:Nat):Int):=w64 (a:=(a.length:Int)+(b.length:Int)) (by omega) |>.trans (by omega)
 have w3:IntKind.i64.wrap (0+1)=1:=by decide
 have w4:IntKind.i64.wrap (1+1)=2:=by decide
 have c0 : ¬ (a.length:Int)<0:=by omega
 have c1 : ¬ ((a.length+b.length:Nat):Int)<0:=by omega
 have d0:(0:Int)<((2:Nat):Int):=by decide
 have d1:(1:Int)<((2:Nat):Int):=by decide
 have d2 : ¬ (2:Int)<((2:Nat):Int):=by decide
 have i0:=zcv .i64 2 (by decide)
 have i1:xP (.int .i64 1) 2=some 1:=zp .i64 1 2 (by decide)
 have l1:yk (xf 2 (.sl [.sl (strs a),.sl (strs b)])) (vec [.int .i64 0,.int .i64 0])=some (0,vec [.int .i64 ((a.length+b.length:Nat):Int)]):=by
  rw[zy (a':=vec [.int .i64 (a.length:Int),.int .i64 1])]
  ·rw[zy (a':=vec [.int .i64 ((a.length+b.length:Nat):Int),.int .i64 2])]
   ·apply zr
    unfold xf
    simp only[zb,zl,yp,zw,d2,decide_false,za,zc,zF,if_false]
   ·unfold xf
    simp only[zb,zl,yp,zw,d1,decide_true,za,zc,if_true,kI,List.length_cons,List.length_nil,Nat.zero_add,Nat.reduceAdd,i1,zN,zM,vn,zg,zf,xo,w2,c1,decide_false,zF,if_false,w4]
  ·unfold xf
   simp only[zb,zl,yp,zw,d0,decide_true,za,zc,if_true,kI,List.length_cons,List.length_nil,Nat.zero_add,Nat.reduceAdd,i0,zM,vn,zg,zf,xo,w1,c0,decide_false,zF,if_false,w3]
 have l2:yk (xd 2 (.sl [.sl (strs a),.sl (strs b)])) (vec [.sl [],.int .i64 0])=some (0,vec [.sl (strs (a++b))]):=by
  rw[zy (a':=vec [.sl (strs a),.int .i64 1])]
  ·rw[zy (a':=vec [.sl (strs (a++b)),.int .i64 2])]
   ·apply zr
    unfold xd
    simp only[zb,zl,yp,zw,d2,decide_false,za,zc,zF,if_false,yU]
   ·unfold xd
    simp only[zb,zl,yp,zw,d1,decide_true,za,zc,if_true,kI,List.length_cons,List.length_nil,Nat.zero_add,Nat.reduceAdd,i1,zN,zM,vn,W8,yU,zf,qk 16 a.length b.length (by omega) (by omega),zh,xo,w4,zio]
  ·unfold xd
   simp only[zb,zl,yp,zw,d0,decide_true,za,zc,if_true,kI,List.length_cons,List.length_nil,Nat.zero_add,Nat.reduceAdd,i0,zM,vn,W8,yU,zf,qk 16 0 a.length (by omega) (by omega),zh,xo,w3,List.nil_append]
 simp only[zb,zg,za,List.length_cons,List.length_nil,Nat.zero_add,Nat.reduceAdd,l1,if_true,zl,zoC _ (by omega:a.length+b.length≤100000000),zfC,l2,yU]
theorem zd2(a b:List Tree)(ha:a.length≤1000000)(hb:b.length≤1000000):P0 z7 [.v (.sl [.sl (trs a),.sl (trs b)])] []=some (.sl (trs (a++b)),[]):=by
 rw[kV];unfold qZ
 have w1:IntKind.i64.wrap (0+(a.length:Int))=(a.length:Int):=w64 (a:=0+(a.length:Int)) (by omega) |>.trans (by omega)
 have w2:IntKind.i64.wrap ((a.length:Int)+(b.length:Int))=((a.length+b.length:Nat):Int):=w64 (a:=(a.length:Int)+(b.length:Int)) (by omega) |>.trans (by omega)
 have w3:IntKind.i64.wrap (0+1)=1:=by decide
 have w4:IntKind.i64.wrap (1+1)=2:=by decide
 have c0 : ¬ (a.length:Int)<0:=by omega
 have c1 : ¬ ((a.length+b.length:Nat):Int)<0:=by omega
 have d0:(0:Int)<((2:Nat):Int):=by decide
 have d1:(1:Int)<((2:Nat):Int):=by decide
 have d2 : ¬ (2:Int)<((2:Nat):Int):=by decide
 have i0:=zcv .i64 2 (by decide)
 have i1:xP (.int .i64 1) 2=some 1:=zp .i64 1 2 (by decide)
 have l1:yk (yu 2 (.sl [.sl (trs a),.sl (trs b)])) (vec [.int .i64 0,.int .i64 0])=some (0,vec [.int .i64 ((a.length+b.length:Nat):Int)]):=by
  rw[zy (a':=vec [.int .i64 (a.length:Int),.int .i64 1])]
  ·rw[zy (a':=vec [.int .i64 ((a.length+b.length:Nat):Int),.int .i64 2])]
   ·apply zr
    unfold yu
    simp only[zb,zl,yp,zw,d2,decide_false,za,zc,zF,if_false]
   ·unfold yu
    simp only[zb,zl,yp,zw,d1,decide_true,za,zc,if_true,kI,List.length_cons,List.length_nil,Nat.zero_add,Nat.reduceAdd,i1,zN,zM,vn,zg,zm,xo,w2,c1,decide_false,zF,if_false,w4]
  ·unfold yu
   simp only[zb,zl,yp,zw,d0,decide_true,za,zc,if_true,kI,List.length_cons,List.length_nil,Nat.zero_add,Nat.reduceAdd,i0,zM,vn,zg,zm,xo,w1,c0,decide_false,zF,if_false,w3]
 have l2:yk (yw 2 (.sl [.sl (trs a),.sl (trs b)])) (vec [.sl [],.int .i64 0])=some (0,vec [.sl (trs (a++b))]):=by
  rw[zy (a':=vec [.sl (trs a),.int .i64 1])]
  ·rw[zy (a':=vec [.sl (trs (a++b)),.int .i64 2])]
   ·apply zr
    unfold yw
    simp only[zb,zl,yp,zw,d2,decide_false,za,zc,zF,if_false,yU]
   ·unfold yw
    simp only[zb,zl,yp,zw,d1,decide_true,za,zc,if_true,kI,List.length_cons,List.length_nil,Nat.zero_add,Nat.reduceAdd,i1,zN,zM,vn,kN,yU,zm,qk 120 a.length b.length (by omega) (by omega),zh,xo,w4,Je]
  ·unfold yw
   simp only[zb,zl,yp,zw,d0,decide_true,za,zc,if_true,kI,List.length_cons,List.length_nil,Nat.zero_add,Nat.reduceAdd,i0,zM,vn,kN,yU,zm,qk 120 0 a.length (by omega) (by omega),zh,xo,w3,List.nil_append]
 simp only[zb,zg,za,List.length_cons,List.length_nil,Nat.zero_add,Nat.reduceAdd,l1,if_true,zl,zkn _ (by omega:a.length+b.length≤100000000),zfC,l2,yU]
theorem zpD{n:Str}{l:AL}{i:Nat}(h:pos n (names l)=some i):names (YB n l)=(names l).take i++(names l).drop (i+1)∧yn (YB n l)=(yn l).take i++(yn l).drop (i+1):=by
 induction l generalizing i with
 | nil=>simp[names,pos]at h
 | cons p r ih=>
  obtain⟨k,w⟩:=p
  have h:(if k=n then some 0 else(pos n (names r)).map (· + 1))=some i:=h
  simp only[YB]
  by_cases e:k=n
  ·rw[if_pos e]at h ⊢
   injection h with h;subst h
   exact⟨rfl,rfl⟩
  ·rw[if_neg e]at h ⊢
   rw[zB]at h
   obtain⟨j,hj,rfl⟩:=h
   obtain⟨h3,h4⟩:=ih hj
   exact⟨by show k::names (YB n r)=k::_;rw[h3];rfl,by show w::yn (YB n r)=w::_;rw[h4];rfl⟩
theorem znA(t:Tree)(n:Str)(hl:(al t).length≤1000000):P0 w7 [.v t.val,.v (.str n)] []=some ((match lk n (al t)with | some _=>(obj (YB n (al t))).val | none=>t.val),[]):=by
 rw[zdT];unfold JF
 have hlen:(names (al t)).length=(al t).length:=jg _
 have hlen2:(yn (al t)).length=(al t).length:=jf _
 simp only[zb,zd,zh,ziG,za,zo,zM,zN,zbR _ _ (by omega:(names (al t)).length≤1000000)]
 cases hp:pos n (names (al t))with
 | none=>
  rw[zbd.1 hp]
  have c1:(-1:Int)<0:=by decide
  simp only[zb,zw,c1,decide_true,za,zc,if_true,zd,zh]
 | some i=>
  have hi:=zjj hp
  have hne:lk n (al t)≠none:=fun e=>by rw[zbd.2 e]at hp;contradiction
  obtain⟨x,hx⟩ : ∃ x,lk n (al t)=some x:=by
   cases h:lk n (al t)with
   | none=>exact(hne h).elim
   | some x=>exact⟨x,rfl⟩
  obtain⟨h1,h2⟩:=zpD hp
  have c1 : ¬ (i:Int)<0:=by omega
  have w:=yM (i:=i) (by omega)
  have b1:=XR .i64 (i:Int) (names (al t)).length ⟨zY i,by omega⟩
  have b2:=jw .i64 ((i+1:Nat):Int) (names (al t)).length ⟨zY _,by omega⟩
  have b3:=XR .i64 (i:Int) (yn (al t)).length ⟨zY i,by omega⟩
  have b4:=jw .i64 ((i+1:Nat):Int) (yn (al t)).length ⟨zY _,by omega⟩
  simp only[Int.toNat_natCast]at b1 b2 b3 b4
  have k1:((names (al t)).drop (i+1)).take ((names (al t)).length - (i+1))=(names (al t)).drop (i+1):=zV (by simp)
  have k2:((yn (al t)).drop (i+1)).take ((yn (al t)).length - (i+1))=(yn (al t)).drop (i+1):=zV (by simp)
  have cc1:=zjS ((names (al t)).take i) ((names (al t)).drop (i+1)) (by simp;omega) (by simp;omega)
  have cc2:=zd2 ((yn (al t)).take i) ((yn (al t)).drop (i+1)) (by simp;omega) (by simp;omega)
  simp only[zb,zw,c1,decide_false,za,zc,zF,if_false,yI,xQ,zf,zm,b1,b2,b3,b4,xo,w,zU,Nat.sub_zero,Vn,j5,Xf,Zw,k1,k2,cc1,cc2,Qr,zh,vn,hx,Vv,h1,h2]
end Go.Ev
end
section
namespace Go.Ev
attribute [local irreducible] P0
theorem OkT.al_srt{t:Tree}(h:OkT t):Qo (al t):=by
 have:=h.srt
 cases this with | mk _ h _=>exact h
end Go.Ev
end
section
namespace Go.Ev
attribute [local irreducible] P0
theorem zlP(f:Nat)(hf:Nat.blt f wT=true)(g:Tree→Bool)(l:List Tree)(hg : ∀ x,x∈l→P0 f [.v x.val] []=some (.bool (g x),[]))(hl:l.length≤1000000)(k:Nat) : ∀ i,i+k=l.length →
  ∃ j v,yk (xv l.length (.sl (trs l)) f) (vec [.int .i64 (i:Int)])=some (j,v)∧((l.drop i).any g=true→j=1 ∧ ∃ m:Nat,v=vec [.int .i64 (m:Int)])∧((l.drop i).any g=false→j=0):=by
 induction k with
 | zero=>
  intro i hi
  refine⟨0,vec [],zr ?_,?_,fun _=>rfl⟩
  ·unfold xv
   have e:i=l.length:=by omega
   subst e
   simp only[zb,zl,zw,Int.lt_irrefl,decide_false,za,zc,zF,if_false]
  ·rw[zQ (by omega)];intro h;rw[List.any_nil]at h;contradiction
 | succ k ih=>
  intro i hi
  have hlt:i<l.length:=by omega
  have c1:(i:Int)<(l.length:Int):=by omega
  have hx:l[i]?=some l[i]:=zL hlt
  have hgx:=hg l[i] (List.getElem_mem _)
  rw[zO hlt]
  cases hb:g l[i]with
  | true=>
   refine⟨1,vec [.int .i64 (i:Int)],zr ?_,fun _=>⟨rfl,i,rfl⟩,fun h=>by simp only[List.any_cons,hb,Bool.true_or]at h;contradiction⟩
   unfold xv
   rw[hb]at hgx
   simp only[zb,zl,zw,c1,decide_true,za,zc,if_true,xQ,zm,zp _ i l.length hlt,jy,hx,zC,hf,zh,hgx]
  | false=>
   obtain⟨j,v,h1,h2,h3⟩:=ih (i+1) (by omega)
   refine⟨j,v,?_,fun h=>h2 (by simpa only[List.any_cons,hb,Bool.false_or]using h),fun h=>h3 (by simpa only[List.any_cons,hb,Bool.false_or]using h)⟩
   rw[← h1]
   apply zy
   unfold xv
   rw[hb]at hgx
   simp only[zb,zl,zw,c1,decide_true,za,zc,if_true,xQ,zm,zp _ i l.length hlt,jy,hx,zC,hf,zh,hgx,zF,if_false,xo,yM (i:=i) (by omega)]
theorem znt(f:Nat)(hf:Nat.blt f wT=true)(g:Tree→Bool)(l:List Tree)(hg : ∀ x,x∈l→P0 f [.v x.val] []=some (.bool (g x),[]))(hl:l.length≤1000000):P0 yD [.v (.sl (trs l)),.fn f []] []=some (.bool (l.any g),[]):=by
 obtain⟨j,v,h1,h2,h3⟩:=zlP f hf g l hg hl l.length 0 (by omega)
 rw[zU]at h2 h3
 rw[show((0:Nat):Int)=0 from rfl]at h1
 rw[Z1];unfold qR
 rw[XI];unfold jQ
 simp only[zb,zg,za,zm,h1]
 cases hb:l.any g with
 | true=>
  obtain⟨rfl,m,rfl⟩:=h2 hb
  have c:(0:Int)≤(m:Int):=zY m
  simp only[zb,Nat.one_ne_zero,if_false,za,zl,qP,c,decide_true]
 | false=>
  have:=h3 hb
  subst this
  have c : ¬ (0:Int) ≤ -1:=by decide
  simp only[zb,if_true,za,qP,c,decide_false]
/-- kinds that may be -/
theorem OkT.kind{t:Tree}(h:OkT t):t.kind=1∨t.kind=2∨t.kind=3∨t.kind=4∨t.kind=5∨t.kind=6∨t.kind=7:=by
 cases h<;>simp[Tree.kind,Ev.null,Ev.obj]
theorem zpN(t:Tree):We t.val 2 3=t.n.val:=by rw[t.val_eq];rfl
theorem OkT.num_ok{t:Tree}(h:OkT t):t.n.ok:=by
 cases h<;>first | exact Nm.zero_ok | assumption
/-- what a value is, by its kind -/
theorem OkT.shape{t:Tree}(h:OkT t) :
  (t.kind=1→t=Ev.null)∧(t.kind=2→t = .mk 2 t.b .zero [] [] [])∧(t.kind=3→t = .mk 3 false t.n [] [] [])∧(t.kind=4→t = .mk 4 false .zero t.s [] [])∧(t.kind=5→t = .mk 5 false .zero t.s [] []) ∧
  (t.kind=6→t = .mk 6 false .zero [] [] t.v)∧(t.kind=7→t = .mk 7 false .zero [] t.k t.v):=by
 cases h<;>simp[Tree.kind,Ev.null,Ev.obj,Tree.b,Tree.n,Tree.s,Tree.v,Tree.k]
theorem OkT.lens{t:Tree}(h:OkT t):t.k.length≤300∧t.v.length≤300∧(t.kind≠7→t.k=[])∧(t.kind≠6→t.kind≠7→t.v=[])∧(t.kind=7→t.k.length=t.v.length):=by
 cases h with
 | arr v hl hv=>exact⟨by simp[Tree.k],hl,fun _=>rfl,fun h=>absurd rfl h,fun h=>by simp[Tree.kind]at h⟩
 | obj l hs hl hn hv=>exact⟨by show(names l).length≤300;rw[jg];exact hl,by show(yn l).length≤300;rw[jf];exact hl,fun h=>absurd rfl h,fun _ h=>absurd rfl h,fun _=>by show(names l).length=(yn l).length;rw[jg,jf]⟩
 | _=>refine⟨by simp[Tree.k,Ev.null],by simp[Tree.v,Ev.null],fun _=>rfl,fun _ _=>rfl,fun h=>by simp[Tree.kind,Ev.null]at h⟩
theorem OkT.sub{t:Tree}(h:OkT t) : ∀ x,x∈t.v→OkT x:=by
 cases h with
 | arr v hl hv=>exact hv
 | obj l hs hl hn hv=>
  intro x hx
  obtain⟨q,hq,rfl⟩:=List.mem_map.1 (show x∈yn l from hx)
  exact hv q hq
 | _=>intro x hx;simp[Tree.v,Ev.null]at hx
/-- trees by induction -/
theorem Tree.ind{Q:Tree→Prop}(h : ∀ t,(∀ x,x∈t.v→Q x)→Q t)(t:Tree):Q t:=by
 have key : ∀ n,∀ t,vo t≤n→Q t:=by
  intro n
  induction n with
  | zero=>intro t ht;rw[vW]at ht;omega
  | succ n ih=>
   intro t ht
   refine h t (fun x hx=>ih x ?_)
   have:vo x≤nodesL t.v:=by
    have : ∀ l:List Tree,x∈l→vo x≤nodesL l:=by
     intro l
     induction l with
     | nil=>intro h;simp at h
     | cons y r ih2=>
      intro h
      simp only[nodesL]
      rcases List.mem_cons.1 h with rfl | h
      ·omega
      ·have:=ih2 h;omega
    exact this _ hx
   rw[vW]at ht;omega
 exact key _ t (zR _)
end Go.Ev
end
section
namespace Go.Ev
attribute [local irreducible] P0
theorem zq5{l:List Str}(h:Srt l) : ∀ i j (hj:j<l.length) (hi:i<j),lt (l[i]'(by omega)) l[j]=true:=by
 induction l with
 | nil=>intro i j hj;simp at hj
 | cons x r ih=>
  intro i j hj hi
  cases j with
  | zero=>omega
  | succ j=>
   cases i with
   | zero=>exact h.1 _ (List.getElem_mem (by simpa using hj))
   | succ i=>exact ih h.2 i j (by simpa using hj) (by omega)
end Go.Ev
end
section
namespace Go.Ev
attribute [local irreducible] P0
theorem zft(a:Int)(n:Nat)(hn:0<n)(hn2:n≤2000000000) : ∃ r:Nat,P0 yC [.v (.int .i64 a),.v (.int .i64 (n:Int))] []=some (.int .i64 (r:Int),[])∧r<n∧(0≤a→(r:Int)=a % (n:Int)):=by
 rw[zb5];unfold V7
 have h0:(n:Int)≠0:=by omega
 have hp:(0:Int)<(n:Int):=by omega
 by_cases ha:0≤a
 ·have e:=Int.tmod_eq_emod_of_nonneg (b:=(n:Int)) ha
  have b1:=Int.emod_nonneg a h0
  have b2:=Int.emod_lt_of_pos a hp
  have c : ¬ (a % (n:Int)<0):=by omega
  refine⟨(a % (n:Int)).toNat,?_,by omega,fun _=>by omega⟩
  simp only[zb,zkq _ _ _ h0,za,zw,e,c,decide_false,zc,zF,if_false]
  rw[show(((a % (n:Int)).toNat:Nat):Int)=a % (n:Int) by omega]
 ·have e:a.tmod (n:Int) = -((-a) % (n:Int)):=by
   rw[← Int.tmod_eq_emod_of_nonneg (a := -a) (b:=(n:Int)) (by omega),Int.neg_tmod];omega
  have b1:=Int.emod_nonneg (-a) h0
  have b2:=Int.emod_lt_of_pos (-a) hp
  by_cases hz:(-a) % (n:Int)=0
  ·refine⟨0,?_,hn,fun h=>absurd h ha⟩
   simp only[zb,zkq _ _ _ h0,za,zw,e,hz,Int.neg_zero,Int.lt_irrefl,decide_false,zc,zF,if_false]
   rfl
  ·have c : -((-a) % (n:Int))<0:=by omega
   refine⟨((n:Int) - (-a) % (n:Int)).toNat,?_,by omega,fun h=>absurd h ha⟩
   simp only[zb,zkq _ _ _ h0,za,zw,e,c,decide_true,zc,if_true,xo,w64 (a := -((-a) % (n:Int))+(n:Int)) (by omega)]
   rw[show((((n:Int) - (-a) % (n:Int)).toNat:Nat):Int) = -((-a) % (n:Int))+(n:Int) by omega]
end Go.Ev
end
section
namespace Go.Ev
attribute [local irreducible] P0
end Go.Ev
end
section
namespace Go.Ev
attribute [local irreducible] P0
end Go.Ev
end
