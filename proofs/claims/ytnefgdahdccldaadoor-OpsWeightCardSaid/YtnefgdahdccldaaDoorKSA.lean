/- What functions compute, put together. -/
import Derived.Test.YtnefgdahdccldaaDoorKPv
import Derived.Test.YtnefgdahdccldaaDoorKSp
set_option linter.all false
open Option renaming map_eq_some_iff→zB,map_some→zC,bind_some→zD
open Bool renaming false_eq_true→zF,and_eq_true→zG,not_true→zH,not_false→zI
open List renaming getElem?_eq_getElem→zL,getElem?_cons_zero→zM,getElem?_cons_succ→zN,drop_eq_getElem_cons→zO,mem_cons_of_mem→zP,drop_eq_nil_of_le→zQ,drop_zero→zU,take_of_length_le→zV
open Nat renaming le_refl→zR
open Int renaming natCast_nonneg→zY
section
namespace Go.Ev
attribute [local irreducible] P0
end Go.Ev
end
section
namespace Go.Ev
attribute [local irreducible] P0
theorem Nm.zero_ok:Nm.zero.ok := .inl ⟨rfl,rfl,rfl⟩
end Go.Ev
end
section
namespace Go.Ev
attribute [local irreducible] P0
instance:DecidableEq Nm:=fun a b=>by
 cases a;cases b
 simp only[Nm.mk.injEq]
 infer_instance
theorem znt{n:Nm}(h:n.ok):U32 n.m∧Nrm n.m∧n.m.length≤90:=by
 rcases h with⟨h1,_⟩ | ⟨_,h2,h3,h4,_⟩
 ·rw[h1];exact⟨fun x hx=>by simp at hx,by simp[Nrm],by simp⟩
 ·exact⟨h2,h4,h3⟩
end Go.Ev
end
section
namespace Go.Ev
theorem qe(s:Str):Ke (.str s)=some s.length:=rfl
theorem QW(s:Str)(k:IntKind)(i:Nat)(b:UInt8)(h:s[i]?=some b):Zw (.str s) (.int k (i:Int))=some (.int .u8 (b.toNat:Int)):=by
 have hi:i<s.length:=by
  rcases Nat.lt_or_ge i s.length with h' | h'
  ·exact h'
  ·rw[List.getElem?_eq_none h']at h;cases h
 unfold Zw;simp[zn k i s.length hi,h]
end Go.Ev
end
section
namespace Go.Ev
attribute [local irreducible] P0
end Go.Ev
end
section
namespace Go.Ev
attribute [local irreducible] P0
theorem xq{i:Nat}(h:i≤1000000000):IntKind.i64.wrap ((i:Int)+1)=((i+1:Nat):Int):=w64 (a:=(i:Int)+1) (by omega)
theorem ziD(l:List Str)(s:Str)(hl:l.length≤1000000)(k:Nat) : ∀ i,i+k=l.length →
  yi (xf l.length (.sl (strs l)) (.str s)) (vec [.int .i64 (i:Int)])=match pos s (l.drop i)with | some j=>some (1,vec [.int .i64 ((i+j:Nat):Int)]) | none=>some (0,vec []):=by
 induction k with
 | zero=>
  intro i hi
  have e:i=l.length:=by omega
  subst e
  rw[List.drop_length]
  apply zq
  unfold xf
  simp only[zb,zj,zy,Int.lt_irrefl,decide_false,za,zc,zF,if_false]
 | succ k ih=>
  intro i hi
  have hlt:i<l.length:=by omega
  have c1:(i:Int)<(l.length:Int):=by omega
  have hx:l[i]?=some l[i]:=zL hlt
  rw[zO hlt]
  simp only[pos]
  by_cases he:l[i]=s
  ·rw[if_pos he]
   apply zq
   unfold xf
   simp only[zb,zj,zy,c1,decide_true,za,zc,if_true,yP,zl,zn _ i l.length hlt,xC,hx,zC,xH,jJ,he,beq_self_eq_true,Nat.add_zero]
  ·rw[if_neg he]
   have hne:(s == l[i])=false:=by simpa using fun e=>he e.symm
   rw[yb (a':=vec [.int .i64 ((i+1:Nat):Int)])]
   ·rw[ih (i+1) (by omega)]
    cases pos s (l.drop (i+1))with
    | none=>rfl
    | some j=>simp only[zC];rw[show i+1+j=i+(j+1) by omega]
   ·unfold xf
    simp only[zb,zj,zy,c1,decide_true,za,zc,if_true,yP,zl,zn _ i l.length hlt,xC,hx,zC,xH,jJ,hne,zF,if_false,wB,xq (i:=i) (by omega)]
theorem zgz(l:List Str)(s:Str)(hl:l.length≤1000000):P0 ye [.v (.sl (strs l)),.v (.str s)] []=some (.int .i64 (match pos s l with | some i=>(i:Int) | none => -1),[]):=by
 rw[Xj];unfold jM
 have h:=ziD l s hl l.length 0 (by omega)
 rw[zU,show((0:Nat):Int)=0 from rfl]at h
 simp only[zb,zf,za,zl,h]
 cases pos s l with
 | none=>rfl
 | some i=>simp only[za,Nat.zero_add];rfl
theorem zlZ(k:List Str)(v:List Tree):names (k.zip v)=k.take (min k.length v.length):=by
 induction k generalizing v with
 | nil=>simp[names]
 | cons x r ih=>cases v with
  | nil=>simp[names]
  | cons y s=>
   have:=ih s
   simp only[names]at this ⊢
   simp[this,Nat.succ_min_succ]
theorem zml(k:List Str)(v:List Tree):yw (k.zip v)=v.take (min k.length v.length):=by
 induction k generalizing v with
 | nil=>simp[yw]
 | cons x r ih=>cases v with
  | nil=>simp[yw]
  | cons y s=>
   have:=ih s
   simp only[yw]at this ⊢
   simp[this,Nat.succ_min_succ]
theorem zj0(k k':IntKind)(i n:Nat)(h:i≤n):zlA none (some (.int k (i:Int))) (some (.int k' (i:Int))) n=some (0,i):=by
 simp[zlA,Kx,h]
theorem zmO(t:Tree):P0 vh [.v t.val] []=some (.tup [.sl (strs (names (al t))),.sl (trs (yw (al t)))],[]):=by
 rw[zha];unfold zb9
 by_cases hk:t.kind=7
 ·have hal:al t=t.k.zip t.v:=if_pos hk
  have hm:zhj (.int .i64 ((t.k.length:Nat):Int)) [.int .i64 ((t.v.length:Nat):Int)]=some (.int .i64 ((min t.k.length t.v.length:Nat):Int)):=by
   simp only[zhj,if_true]
   congr 2
   split<;>omega
  simp only[zb,zd,zi,jl,za,KP,hk,decide_true,zH,zc,zF,if_false,J8,vI,zf,zl,zo,hm,yP,wr,
   zj0 _ _ _ _ (Nat.min_le_left t.k.length t.v.length),zj0 _ _ _ _ (Nat.min_le_right t.k.length t.v.length),zU,Nat.sub_zero,Y1,QI,hal,zlZ,zml]
 ·simp only[zb,zd,zi,jl,za,KP,hk,decide_false,zI,zc,if_true,Wa hk]
  rfl
/-- what is at the first place of a name -/
theorem zqR{n:Str}{l:AL}:(pos n (names l)).bind (fun i=>(yw l)[i]?)=lk n l:=by
 induction l with
 | nil=>rfl
 | cons p r ih=>
  obtain⟨k,v⟩:=p
  show(if k=n then some 0 else(pos n (names r)).map (· + 1)).bind _=if k=n then some v else lk n r
  split
  ·rfl
  ·rw[← ih]
   cases pos n (names r)with
   | none=>rfl
   | some i=>simp[yw]
theorem zmK{n:Str}{l:AL}:pos n (names l)=none↔lk n l=none:=by
 induction l with
 | nil=>simp[names,pos,lk]
 | cons p r ih=>
  obtain⟨k,v⟩:=p
  show(if k=n then some 0 else(pos n (names r)).map (· + 1))=none↔(if k=n then some v else lk n r)=none
  split
  ·simp
  ·rw[← ih];simp
/-- a member, and whether there is one -/
def zqT(n:Str)(l:AL):V:=match lk n l with
 | some x => .tup [x.val,.bool true]
 | none => .tup [Tree.zero.val,.bool false]
theorem zlN(t:Tree)(n:Str)(hl:(al t).length≤1000000):P0 vi [.v t.val,.v (.str n)] []=some (zqT n (al t),[]):=by
 rw[zcp];unfold VM
 have hlen:(names (al t)).length=(al t).length:=jU _
 have hlen2:(yw (al t)).length=(al t).length:=jY _
 simp only[zb,zd,zi,zmO,za,yd,zM,zN,zgz _ _ (by omega:(names (al t)).length≤1000000)]
 unfold zqT
 have h:=zqR (n:=n) (l:=al t)
 cases hp:pos n (names (al t))with
 | none=>
  rw[hp]at h
  simp only[Option.bind_none]at h
  rw[← h]
  have c1 : ¬ (0:Int) ≤ -1:=by decide
  simp only[zb,qi,c1,decide_false,za,zc,zF,if_false]
  rfl
 | some i=>
  have hi:=znM hp
  rw[hp]at h
  simp only[zD]at h
  have hx:(yw (al t))[i]?=some (yw (al t))[i]:=zL (by omega)
  rw[hx]at h
  rw[← h]
  have c1:(0:Int)≤(i:Int):=zY i
  simp only[zb,qi,c1,decide_true,za,zc,if_true,wr,zo,zn _ i (yw (al t)).length (by omega),qP,hx,zC,zd,zi]
end Go.Ev
end
section
namespace Go.Ev
attribute [local irreducible] P0
theorem zqF(a b:Str):(!(Op.bytesLess a b || a == b))=lt b a:=by
 by_cases h:a=b
 ·subst h;rw[lt_irrefl];simp
 ·have hb:(a == b)=false:=by simpa using h
  rw[hb,Bool.or_false]
  cases h1:Op.bytesLess a b with
  | true=>rw[zim h1];rfl
  | false=>rw[zbv h h1];rfl
/-- the first place of a greater name -/
def We(n:Str):List Str→Option Nat
 | []=>none
 | x::r=>if lt n x=true then some 0 else(We n r).map (· + 1)
theorem zoY{s:Str}{l:List Str}{i:Nat}(h:We s l=some i):i<l.length:=by
 induction l generalizing i with
 | nil=>simp[We]at h
 | cons x r ih=>
  simp only[We]at h
  split at h
  ·injection h with h;subst h;simp
  ·rw[zB]at h
   obtain⟨j,hj,rfl⟩:=h
   have:=ih hj;simp;omega
theorem zqa(a b:Str):P0 xI [.v (.str a),.p 0 0] [(true,1,.str b)]=some (.bool (lt b a),[.str b]):=by
 rw[zdz];unfold Q2
 simp only[zb,zp9,za,zqF]
theorem zeD:Nat.blt xI wS=true:=rfl
theorem zg2(l:List Str)(s:Str)(hl:l.length≤1000000)(k:Nat) : ∀ i,i+k=l.length →
  yi (yO l.length (.sl (strs l)) xI (.str s)) (vec [.int .i64 (i:Int)])=match We s (l.drop i)with | some j=>some (1,vec [.int .i64 ((i+j:Nat):Int)]) | none=>some (0,vec []):=by
 induction k with
 | zero=>
  intro i hi
  have e:i=l.length:=by omega
  subst e
  rw[List.drop_length]
  apply zq
  unfold yO
  simp only[zb,zj,zy,Int.lt_irrefl,decide_false,za,zc,zF,if_false]
 | succ k ih=>
  intro i hi
  have hlt:i<l.length:=by omega
  have c1:(i:Int)<(l.length:Int):=by omega
  have hx:l[i]?=some l[i]:=zL hlt
  rw[zO hlt]
  simp only[We]
  by_cases he:lt s l[i]=true
  ·rw[if_pos he]
   apply zq
   unfold yO
   simp only[zb,zj,zy,c1,decide_true,za,zc,if_true,yP,zl,zn _ i l.length hlt,xC,hx,zC,xH,zeD,zi,zqa,he,Nat.add_zero]
  ·rw[if_neg he]
   have he:lt s l[i]=false:=by simpa using he
   rw[yb (a':=vec [.int .i64 ((i+1:Nat):Int)])]
   ·rw[ih (i+1) (by omega)]
    cases We s (l.drop (i+1))with
    | none=>rfl
    | some j=>simp only[zC];rw[show i+1+j=i+(j+1) by omega]
   ·unfold yO
    simp only[zb,zj,zy,c1,decide_true,za,zc,if_true,yP,zl,zn _ i l.length hlt,xC,hx,zC,xH,zeD,zi,zqa,he,zF,if_false,wB,xq (i:=i) (by omega)]
theorem zkJ(l:List Str)(s:Str)(hl:l.length≤1000000):P0 zw [.v (.sl (strs l)),.fn xI [.p 0 0]] [(false,1,.str s)]=some (.int .i64 (match We s l with | some i=>(i:Int) | none => -1),[.str s]):=by
 rw[Zl];unfold qE
 have h:=zg2 l s hl l.length 0 (by omega)
 rw[zU,show((0:Nat):Int)=0 from rfl]at h
 simp only[zb,zf,za,zl,h]
 cases We s l with
 | none=>rfl
 | some i=>simp only[za,Nat.zero_add];rfl
theorem zkb(l:List Str)(i:Nat)(n:Str)(hi:i≤l.length)(hl:l.length≤1000000):P0 xx [.u,.v (.sl (strs l)),.v (.int .i64 (i:Int)),.v (.sl [.str n])] []=some (.sl (strs (l.take i++n::l.drop i)),[]):=by
 rw[ZQ]
 have hk:KS 16 (strs l).length [V.str n].length (i:Int)=true:=by
  simp only[KS,zl,List.length_singleton,zG,decide_eq_true_eq];omega
 have h1:yu 1 [V.str n]=true:=rfl
 simp only[Xb,zdG,Q4,kB,JZ,h1,hk,Bool.and_self,zi,za,Int.toNat_natCast,Y1,J7]
 simp[strs]
theorem znE(l:List Tree)(i:Nat)(x:Tree)(hi:i≤l.length)(hl:l.length≤1000000):P0 ww [.u,.v (.sl (trs l)),.v (.int .i64 (i:Int)),.v (.sl [x.val])] []=some (.sl (trs (l.take i++x::l.drop i)),[]):=by
 rw[Wh]
 have hk:KS 120 (trs l).length [x.val].length (i:Int)=true:=by
  simp only[KS,zo,List.length_singleton,zG,decide_eq_true_eq];omega
 have h1:yu 8 [x.val]=true:=by simp[yu,zd]
 simp only[Xb,zdG,Q4,kB,zbV,h1,hk,Bool.and_self,zi,za,Int.toNat_natCast,QI,zcl]
 simp[trs]
theorem JA(l:AL):(obj l).val = .agg [.int .i64 7,.bool false,.bool false,.sl [],.int .i64 0,.str [],.sl (strs (names l)),.sl (trs (yw l))]:=by rw[Tree.val_eq];rfl
theorem zid{α:Type}(l:List α)(z:α):((xM (List.replicate l.length z) 0 (l.take (Nat.min l.length l.length))).drop 0).take l.length=l:=by
 have:Nat.min l.length l.length=l.length:=Nat.min_self _
 rw[this,zV (zR _),zU]
 simp[xM]
theorem zlb{n:Str}{v:Tree}{l:AL}{i:Nat}(hs:Kq l)(h:pos n (names l)=some i):names (qJ n v l)=names l∧yw (qJ n v l)=(yw l).set i v:=by
 induction l generalizing i with
 | nil=>simp[names,pos]at h
 | cons p r ih=>
  obtain⟨k,w⟩:=p
  obtain⟨h1,h2⟩:=zcC.1 hs
  have h:(if k=n then some 0 else(pos n (names r)).map (· + 1))=some i:=h
  simp only[qJ]
  by_cases e:k=n
  ·rw[if_pos e]at h ⊢
   injection h with h;subst h
   exact⟨by rw[e];rfl,rfl⟩
  ·rw[if_neg e]at h ⊢
   rw[zB]at h
   obtain⟨j,hj,rfl⟩:=h
   have hm:n∈names r:=by
    apply Classical.byContradiction
    intro hc
    rw[zmK.2 (zhd.2 hc)]at hj;contradiction
   have:lt n k=false:=zim (h1 n hm)
   rw[this]
   obtain⟨h3,h4⟩:=ih h2 hj
   exact⟨by show k::names (qJ n v r)=k::names r;rw[h3],by show w::yw (qJ n v r)=(w::yw r).set (j+1) v;rw[h4];rfl⟩
theorem zpQ{n:Str}{v:Tree}{l:AL}(h:pos n (names l)=none):names (qJ n v l)=(names l).take ((We n (names l)).getD l.length)++n::(names l).drop ((We n (names l)).getD l.length) ∧
  yw (qJ n v l)=(yw l).take ((We n (names l)).getD l.length)++v::(yw l).drop ((We n (names l)).getD l.length):=by
 induction l with
 | nil=>exact⟨rfl,rfl⟩
 | cons p r ih=>
  obtain⟨k,w⟩:=p
  have h:(if k=n then some 0 else(pos n (names r)).map (· + 1))=none:=h
  split at h
  ·contradiction
  ·next e=>
   have h:pos n (names r)=none:=by simpa using h
   obtain⟨h3,h4⟩:=ih h
   have e1:names ((k,w)::r)=k::names r:=rfl
   have e2:yw ((k,w)::r)=w::yw r:=rfl
   simp only[qJ,if_neg e,e1,e2,We]
   by_cases hlt:lt n k=true
   ·simp only[if_pos hlt];exact⟨rfl,rfl⟩
   ·simp only[if_neg hlt]
    have e3:((We n (names r)).map (· + 1)).getD (r.length+1)=(We n (names r)).getD r.length+1:=by cases We n (names r)<;>rfl
    simp only[List.length_cons,e3,List.take_succ_cons,List.drop_succ_cons,List.cons_append]
    exact⟨by show k::names (qJ n v r)=_;rw[h3],by show w::yw (qJ n v r)=_;rw[h4]⟩
theorem zm7(t:Tree)(n:Str)(v:Tree)(hs:Kq (al t))(hl:(al t).length≤1000000):P0 ve [.v t.val,.v (.str n),.v v.val] []=some ((obj (qJ n v (al t))).val,[]):=by
 rw[zgR];unfold zbh
 have hlen:(names (al t)).length=(al t).length:=jU _
 have hlen2:(yw (al t)).length=(al t).length:=jY _
 have m1:=ze3 16 (names (al t)).length (by omega) (by omega)
 have m2:=ze3 120 (yw (al t)).length (by omega) (by omega)
 have e1:=zid (strs (names (al t))) (.str [])
 have e2:=fun z=>zid (trs (yw (al t))) z
 rw[zl]at e1
 simp only[zo]at e2
 simp only[zb,zd,zi,Jk,xH,za,zmO,yd,zM,zN,zf,zl,zo,m1,m2,zeZ,YL,e1,zgz _ _ (by omega:(names (al t)).length≤1000000)]
 cases hp:pos n (names (al t))with
 | some i=>
  have hi:=znM hp
  obtain⟨h1,h2⟩:=zlb (v:=v) hs hp
  have c1:(0:Int)≤(i:Int):=zY i
  have e3 : ∀ z,(((xM (List.replicate (yw (al t)).length z) 0 ((trs (yw (al t))).take (Nat.min (yw (al t)).length (yw (al t)).length))).set (0+i) v.val).drop 0).take (yw (al t)).length=trs ((yw (al t)).set i v):=by
   intro z
   have:=e2 z
   rw[zU]at this ⊢
   have hln:(xM (List.replicate (yw (al t)).length z) 0 ((trs (yw (al t))).take (Nat.min (yw (al t)).length (yw (al t)).length))).length=(yw (al t)).length:=by
    have h8:Nat.min (yw (al t)).length (yw (al t)).length=(yw (al t)).length:=Nat.min_self _
    rw[h8];simp[xM,zo]
   rw[zV (by omega)]at this
   rw[this,zV (by rw[List.length_set,zo];omega),Nat.zero_add,zfC]
  simp only[zb,qi,c1,decide_true,za,zc,if_true,zn _ i (yw (al t)).length (by omega),zd,zi,zl,zo,e1,e3,JA,h1,h2]
 | none=>
  obtain⟨h1,h2⟩:=zpQ (v:=v) hp
  have c1 : ¬ (0:Int) ≤ -1:=by decide
  simp only[zb,qi,c1,decide_false,za,zc,zF,if_false,zl,e1,zkJ _ _ (by omega:(names (al t)).length≤1000000),zM]
  cases hg:We n (names (al t))with
  | some p=>
   have hpl:=zoY hg
   have c2 : ¬ ((p:Int)<0):=by omega
   rw[hg]at h1 h2
   simp only[Option.getD_some]at h1 h2
   simp only[zb,zy,c2,decide_false,za,zc,zF,if_false,Jk,zi,xH,Nat.beq_refl,zj,zl,zo,e1,e2,zkb _ _ _ (by omega:p≤(names (al t)).length) (by omega),zd,znE _ _ _ (by omega:p≤(yw (al t)).length) (by omega),zfd,Yv,JA,h1,h2]
  | none=>
   have c2:((-1:Int)<0):=by decide
   rw[hg]at h1 h2
   simp only[Option.getD_none]at h1 h2
   rw[← hlen]at h1 h2
   have i1:=zkb (names (al t)) (names (al t)).length n (zR _) (by omega)
   have i2:=znE (yw (al t)) (names (al t)).length v (by omega) (by omega)
   simp only[zb,zy,c2,decide_true,za,zc,if_true,Jk,zi,xH,Nat.beq_refl,zj,zl,zo,e1,e2,i1,zd,i2,zfd,Yv,JA,h1,h2]
end Go.Ev
end
section
namespace Go.Ev
attribute [local irreducible] P0
theorem zo2(n:Nat)(h:n≤100000000):P0 wq [.g,.v (.sl []),.v (.int .i64 (n:Int))] []=some (.sl [],[]):=by
 rw[Vy]
 have hk:zbb 120 (n:Int)=true:=by
  simp only[zbb,zG,decide_eq_true_eq,Int.toNat_natCast];omega
 simp only[Xb,zdG,Q4,Kh,hk,zi,za]
theorem zoU:slV (.sl [])=some []:=rfl
end Go.Ev
end
section
namespace Go.Ev
attribute [local irreducible] P0
theorem OkT.al_srt{t:Tree}(h:OkT t):Kq (al t):=by
 have:=h.srt
 cases this with | mk _ h _=>exact h
end Go.Ev
end
section
namespace Go.Ev
attribute [local irreducible] P0
theorem zlM(f:Nat)(hf:Nat.blt f wS=true)(g:Tree→Bool)(l:List Tree)(hg : ∀ x,x∈l→P0 f [.v x.val] []=some (.bool (g x),[]))(hl:l.length≤1000000)(k:Nat) : ∀ i,i+k=l.length →
  ∃ j v,yi (xb l.length (.sl (trs l)) f) (vec [.int .i64 (i:Int)])=some (j,v)∧((l.drop i).any g=true→j=1 ∧ ∃ m:Nat,v=vec [.int .i64 (m:Int)])∧((l.drop i).any g=false→j=0):=by
 induction k with
 | zero=>
  intro i hi
  refine⟨0,vec [],zq ?_,?_,fun _=>rfl⟩
  ·unfold xb
   have e:i=l.length:=by omega
   subst e
   simp only[zb,zj,zy,Int.lt_irrefl,decide_false,za,zc,zF,if_false]
  ·rw[zQ (by omega)];intro h;rw[List.any_nil]at h;contradiction
 | succ k ih=>
  intro i hi
  have hlt:i<l.length:=by omega
  have c1:(i:Int)<(l.length:Int):=by omega
  have hx:l[i]?=some l[i]:=zL hlt
  have hgx:=hg l[i] (List.getElem_mem _)
  rw[zO hlt]
  cases hb:g l[i]with
  | true=>
   refine⟨1,vec [.int .i64 (i:Int)],zq ?_,fun _=>⟨rfl,i,rfl⟩,fun h=>by simp only[List.any_cons,hb,Bool.true_or]at h;contradiction⟩
   unfold xb
   rw[hb]at hgx
   simp only[zb,zj,zy,c1,decide_true,za,zc,if_true,wr,zo,zn _ i l.length hlt,qP,hx,zC,hf,zi,hgx]
  | false=>
   obtain⟨j,v,h1,h2,h3⟩:=ih (i+1) (by omega)
   refine⟨j,v,?_,fun h=>h2 (by simpa only[List.any_cons,hb,Bool.false_or]using h),fun h=>h3 (by simpa only[List.any_cons,hb,Bool.false_or]using h)⟩
   rw[← h1]
   apply yb
   unfold xb
   rw[hb]at hgx
   simp only[zb,zj,zy,c1,decide_true,za,zc,if_true,wr,zo,zn _ i l.length hlt,qP,hx,zC,hf,zi,hgx,zF,if_false,wB,xq (i:=i) (by omega)]
theorem zoj(f:Nat)(hf:Nat.blt f wS=true)(g:Tree→Bool)(l:List Tree)(hg : ∀ x,x∈l→P0 f [.v x.val] []=some (.bool (g x),[]))(hl:l.length≤1000000):P0 yy [.v (.sl (trs l)),.fn f []] []=some (.bool (l.any g),[]):=by
 obtain⟨j,v,h1,h2,h3⟩:=zlM f hf g l hg hl l.length 0 (by omega)
 rw[zU]at h2 h3
 rw[show((0:Nat):Int)=0 from rfl]at h1
 rw[ZR];unfold qM
 rw[XQ];unfold jG
 simp only[zb,zf,za,zo,h1]
 cases hb:l.any g with
 | true=>
  obtain⟨rfl,m,rfl⟩:=h2 hb
  have c:(0:Int)≤(m:Int):=zY m
  simp only[zb,Nat.one_ne_zero,if_false,za,zj,qi,c,decide_true]
 | false=>
  have:=h3 hb
  subst this
  have c : ¬ (0:Int) ≤ -1:=by decide
  simp only[zb,if_true,za,qi,c,decide_false]
/-- kinds that may be -/
theorem OkT.kind{t:Tree}(h:OkT t):t.kind=1∨t.kind=2∨t.kind=3∨t.kind=4∨t.kind=5∨t.kind=6∨t.kind=7:=by
 cases h<;>simp[Tree.kind,Ev.null,Ev.obj]
theorem zko(t:Tree):YK t.val 2 3=t.n.val:=by rw[t.val_eq];rfl
theorem OkT.num_ok{t:Tree}(h:OkT t):t.n.ok:=by
 cases h<;>first | exact Nm.zero_ok | assumption
/-- what a value is, by its kind -/
theorem OkT.shape{t:Tree}(h:OkT t) :
  (t.kind=1→t=Ev.null)∧(t.kind=2→t = .mk 2 t.b .zero [] [] [])∧(t.kind=3→t = .mk 3 false t.n [] [] [])∧(t.kind=4→t = .mk 4 false .zero t.s [] [])∧(t.kind=5→t = .mk 5 false .zero t.s [] []) ∧
  (t.kind=6→t = .mk 6 false .zero [] [] t.v)∧(t.kind=7→t = .mk 7 false .zero [] t.k t.v):=by
 cases h<;>simp[Tree.kind,Ev.null,Ev.obj,Tree.b,Tree.n,Tree.s,Tree.v,Tree.k]
theorem OkT.lens{t:Tree}(h:OkT t):t.k.length≤300∧t.v.length≤300∧(t.kind≠7→t.k=[])∧(t.kind≠6→t.kind≠7→t.v=[])∧(t.kind=7→t.k.length=t.v.length):=by
 cases h with
 | arr v hl hv=>exact⟨by simp[Tree.k],hl,fun _=>rfl,fun h=>absurd rfl h,fun h=>by simp[Tree.kind]at h⟩
 | obj l hs hl hn hv=>exact⟨by show(names l).length≤300;rw[jU];exact hl,by show(yw l).length≤300;rw[jY];exact hl,fun h=>absurd rfl h,fun _ h=>absurd rfl h,fun _=>by show(names l).length=(yw l).length;rw[jU,jY]⟩
 | _=>refine⟨by simp[Tree.k,Ev.null],by simp[Tree.v,Ev.null],fun _=>rfl,fun _ _=>rfl,fun h=>by simp[Tree.kind,Ev.null]at h⟩
theorem OkT.sub{t:Tree}(h:OkT t) : ∀ x,x∈t.v→OkT x:=by
 cases h with
 | arr v hl hv=>exact hv
 | obj l hs hl hn hv=>
  intro x hx
  obtain⟨q,hq,rfl⟩:=List.mem_map.1 (show x∈yw l from hx)
  exact hv q hq
 | _=>intro x hx;simp[Tree.v,Ev.null]at hx
/-- trees by induction -/
theorem Tree.ind{Q:Tree→Prop}(h : ∀ t,(∀ x,x∈t.v→Q x)→Q t)(t:Tree):Q t:=by
 have key : ∀ n,∀ t,xZ t≤n→Q t:=by
  intro n
  induction n with
  | zero=>intro t ht;rw[wu]at ht;omega
  | succ n ih=>
   intro t ht
   refine h t (fun x hx=>ih x ?_)
   have:xZ x≤nodesL t.v:=by
    have : ∀ l:List Tree,x∈l→xZ x≤nodesL l:=by
     intro l
     induction l with
     | nil=>intro h;simp at h
     | cons y r ih2=>
      intro h
      simp only[nodesL]
      rcases List.mem_cons.1 h with rfl | h
      ·omega
      ·have:=ih2 h;omega
    exact this _ hx
   rw[wu]at ht;omega
 exact key _ t (zR _)
end Go.Ev
end
section
namespace Go.Ev
attribute [local irreducible] P0
theorem zqo{l:List Str}(h:Srt l) : ∀ i j (hj:j<l.length) (hi:i<j),lt (l[i]'(by omega)) l[j]=true:=by
 induction l with
 | nil=>intro i j hj;simp at hj
 | cons x r ih=>
  intro i j hj hi
  cases j with
  | zero=>omega
  | succ j=>
   cases i with
   | zero=>exact h.1 _ (List.getElem_mem (by simpa using hj))
   | succ i=>exact ih h.2 i j (by simpa using hj) (by omega)
end Go.Ev
end
section
namespace Go.Ev
attribute [local irreducible] P0
theorem zmP(a:Int)(n:Nat)(hn:0<n)(hn2:n≤2000000000) : ∃ r:Nat,P0 y3 [.v (.int .i64 a),.v (.int .i64 (n:Int))] []=some (.int .i64 (r:Int),[])∧r<n∧(0≤a→(r:Int)=a % (n:Int)):=by
 rw[zbG];unfold VT
 have h0:(n:Int)≠0:=by omega
 have hp:(0:Int)<(n:Int):=by omega
 by_cases ha:0≤a
 ·have e:=Int.tmod_eq_emod_of_nonneg (b:=(n:Int)) ha
  have b1:=Int.emod_nonneg a h0
  have b2:=Int.emod_lt_of_pos a hp
  have c : ¬ (a % (n:Int)<0):=by omega
  refine⟨(a % (n:Int)).toNat,?_,by omega,fun _=>by omega⟩
  simp only[zb,zjV _ _ _ h0,za,zy,e,c,decide_false,zc,zF,if_false]
  rw[show(((a % (n:Int)).toNat:Nat):Int)=a % (n:Int) by omega]
 ·have e:a.tmod (n:Int) = -((-a) % (n:Int)):=by
   rw[← Int.tmod_eq_emod_of_nonneg (a := -a) (b:=(n:Int)) (by omega),Int.neg_tmod];omega
  have b1:=Int.emod_nonneg (-a) h0
  have b2:=Int.emod_lt_of_pos (-a) hp
  by_cases hz:(-a) % (n:Int)=0
  ·refine⟨0,?_,hn,fun h=>absurd h ha⟩
   simp only[zb,zjV _ _ _ h0,za,zy,e,hz,Int.neg_zero,Int.lt_irrefl,decide_false,zc,zF,if_false]
   rfl
  ·have c : -((-a) % (n:Int))<0:=by omega
   refine⟨((n:Int) - (-a) % (n:Int)).toNat,?_,by omega,fun h=>absurd h ha⟩
   simp only[zb,zjV _ _ _ h0,za,zy,e,c,decide_true,zc,if_true,wB,w64 (a := -((-a) % (n:Int))+(n:Int)) (by omega)]
   rw[show((((n:Int) - (-a) % (n:Int)).toNat:Nat):Int) = -((-a) % (n:Int))+(n:Int) by omega]
end Go.Ev
end
section
namespace Go.Ev
attribute [local irreducible] P0
end Go.Ev
end
section
namespace Go.Ev
attribute [local irreducible] P0
theorem zpj{P:Program}{n:Nat}{t e:TypeId}{xs:List V}(hu:P.underlying t=some (.slice e))(he:P.underlying e=some (.int .i64))(h:Ty P n t xs) : ∃ l:List Int,mkV P t xs = .sl (ints l):=by
 cases n with
 | zero=>exact h.elim
 | succ n=>
  unfold Ty at h
  rw[hu]at h
  obtain⟨ys,_,hy,rfl⟩:=h
  have : ∀ ys:List (List V),(∀ x∈ys,Ty P n e x) → ∃ l:List Int,ys.map (mkV P e)=ints l:=by
   intro ys
   induction ys with
   | nil=>intro _;exact⟨[],rfl⟩
   | cons y r ih=>
    intro hy
    obtain⟨l,hl⟩:=ih (fun x hx=>hy x (zP _ hx))
    obtain⟨z,_,hz⟩:=zm3 he (hy y List.mem_cons_self)
    exact⟨z::l,by rw[List.map_cons,hl,hz];rfl⟩
  obtain⟨l,hl⟩:=this ys hy
  refine⟨l,?_⟩
  rw[hl];unfold mkV kD
  rw[hu];rfl
end Go.Ev
end
