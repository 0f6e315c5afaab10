/- What functions compute, put together. -/
import Derived.Test.YtnefgdahdccldaaDoorKSB
import Derived.Test.YtnefgdahdccldaaDoorKSp
import Derived.Test.YtnefgdahdccldaaDoorKSA
set_option linter.all false
open Option renaming bind_eq_some_iff→zA,map_some→zC,bind_some→zD
open Bool renaming false_eq_true→zF,not_true→zH,not_false→zI,true_eq_false→zX
open List renaming getElem?_eq_getElem→zL,getElem?_cons_zero→zM,getElem?_cons_succ→zN,drop_eq_getElem_cons→zO,mem_cons_of_mem→zP,drop_eq_nil_of_le→zQ,drop_zero→zU,take_of_length_le→zV,length_append→zZ
open Nat renaming le_refl→zR
section
namespace Go.Ev
attribute [local irreducible] P0
section
variable {P:Program} {tt ti tb tn ts tk tv tl te:TypeId} {fs fn:Array Field}
end
end Go.Ev
end
section
namespace Go.Ev
attribute [local irreducible] P0
theorem zgW(a b:Nat):decide ((a:Int)<(b:Int))=decide (a<b):=by
 by_cases h:a<b
 ·rw[decide_eq_true h,decide_eq_true (by omega)]
 ·rw[decide_eq_false h,decide_eq_false (by omega)]
theorem zqK{b:UInt8}(h:48≤b.toNat):IntKind.u8.wrap ((b.toNat:Int) - 48)=((b.toNat - 48:Nat):Int):=by
 have hb:b.toNat<256:=b.toNat_lt
 rw[IntWalk.u8_in ((b.toNat:Int) - 48) (by omega)];omega
theorem zf3{a:Int}(n:Nat)(h:a=n)(hn:n≤1000000000):IntKind.i64.wrap a=(n:Int):=by
 subst h;exact w64 (by omega)
theorem zk2(s:Str)(hl:s.length≤4)(k:Nat) : ∀ (i n:Nat),i+k=s.length→n<10 ^ i →
  yi (yW s.length (.str s)) (vec [.int .i64 (n:Int),.int .i64 (i:Int)])=match dig n (s.drop i)with | some m=>some (0,vec [.int .i64 (m:Int)]) | none=>some (1,vec [.int .i64 0,.bool false]):=by
 induction k with
 | zero=>
  intro i n hi hn
  rw[zQ (by omega)]
  simp only[dig]
  apply zq
  unfold yW
  have c1 : ¬ (i:Int)<(s.length:Int):=by omega
  simp only[zb,zj,yz,zy,c1,decide_false,za,zc,zF,if_false]
 | succ k ih=>
  intro i n hi hn
  have hlt:i<s.length:=by omega
  have c1:(i:Int)<(s.length:Int):=by omega
  have hx:s[i]?=some s[i]:=zL hlt
  have hn2:n≤10000:=Nat.le_trans (Nat.le_of_lt hn) (Nat.le_trans (Nat.pow_le_pow_right (by decide) (show i≤4 by omega)) (by decide))
  rw[zO hlt]
  have hb:s[i].toNat<256:=s[i].toNat_lt
  by_cases h1:s[i].toNat<48
  ·simp only[dig,h1,true_or,if_true]
   apply zq
   unfold yW
   have d:((s[i].toNat:Nat):Int)<48:=by omega
   simp only[zb,zj,yz,zy,c1,decide_true,za,zc,if_true,QW s .i64 i _ hx,d,zX,if_false]
  have d : ¬ ((s[i].toNat:Nat):Int)<48:=by omega
  by_cases h2:57<s[i].toNat
  ·simp only[dig,h2,or_true,if_true]
   apply zq
   unfold yW
   have e:(57:Int)<((s[i].toNat:Nat):Int):=by omega
   simp only[zb,zj,yz,zy,kK,c1,decide_true,decide_false,za,zc,if_true,QW s .i64 i _ hx,d,e]
  ·have e : ¬ (57:Int)<((s[i].toNat:Nat):Int):=by omega
   have hd:dig n (s[i]::s.drop (i+1))=dig (10 * n+(s[i].toNat - 48)) (s.drop (i+1)):=by
    simp only[dig,h1,h2,or_self,if_false]
   rw[hd,← ih (i+1) (10 * n+(s[i].toNat - 48)) (by omega) (by rw[Nat.pow_succ];omega)]
   apply yb
   unfold yW
   have w1:IntKind.i64.wrap (10 * (n:Int))=((10 * n:Nat):Int):=zf3 _ (by omega) (by omega)
   have w2:IntKind.i64.wrap (((s[i].toNat - 48:Nat):Int))=((s[i].toNat - 48:Nat):Int):=zf3 _ rfl (by omega)
   have w3:IntKind.i64.wrap (((10 * n:Nat):Int)+((s[i].toNat - 48:Nat):Int))=((10 * n+(s[i].toNat - 48):Nat):Int):=zf3 _ (by omega) (by omega)
   simp only[zb,zj,yz,zy,kK,c1,decide_true,decide_false,za,zc,if_true,QW s .i64 i _ hx,d,e,zF,if_false,zp1,W6,kn,wB,zqK (b:=s[i]) (by omega),w1,w2,w3,xq (i:=i) (by omega)]
/-- what an index yields -/
def zex(o:Option Nat):V:=match o with
 | some n => .tup [.int .i64 (n:Int),.bool true]
 | none => .tup [.int .i64 0,.bool false]
theorem zfZ(s:Str)(most:Int):P0 yp [.v (.str s),.v (.int .i64 most)] []=some (zex (jR s most),[]):=by
 rw[KE];unfold X3
 have e0:(s == ([]:Str))=decide (s=[]):=zfj s
 cases s with
 | nil=>simp only[zb,jJ,e0,decide_true,za,zc,zX,if_false,if_true];rfl
 | cons b r=>
 have hne:decide ((b::r)=([]:Str))=false:=decide_eq_false (by simp)
 have hx:(b::r)[0]?=some b:=rfl
 have hx0:Zw (.str (b::r)) (.int .i64 0)=some (.int .u8 (b.toNat:Int)):=QW (b::r) .i64 0 b hx
 have d4:decide (((((b::r).length:Nat):Int)) > 4)=decide (4<(b::r).length):=zgW 4 _
 have d1:decide (((((b::r).length:Nat):Int)) > 1)=decide (1<(b::r).length):=zgW 1 _
 by_cases h4:4<(b::r).length
 ·have hN:jR (b::r) most=none:=by unfold jR zkY;rw[if_pos (.inr (.inl h4))];rfl
  rw[hN]
  simp only[zb,jJ,e0,hne,za,zc,qe,d4,decide_eq_true h4,zX,if_false,if_true];rfl
 have e48:decide ((b.toNat:Int)=48)=decide (b=48):=by
  by_cases hb:b=48
  ·subst hb;rfl
  ·rw[decide_eq_false hb,decide_eq_false]
   intro h
   exact hb (UInt8.toNat_inj.1 (by show b.toNat=48;omega))
 by_cases hz:b=48∧1<(b::r).length
 ·have hN:jR (b::r) most=none:=by unfold jR zkY;rw[if_pos (.inr (.inr hz))];rfl
  rw[hN]
  simp only[zb,jJ,e0,hne,za,zc,qe,d4,d1,decide_eq_false h4,if_true,hx0,xd,e48,decide_eq_true hz.1,decide_eq_true hz.2,zX,if_false];rfl
 have hN:zkY (b::r)=dig 0 (b::r):=by
  unfold zkY
  rw[if_neg]
  rintro(h | h | h)
  ·simp at h
  ·exact h4 h
  ·exact hz h
 have hl:=zk2 (b::r) (by omega) (b::r).length 0 0 (by omega) (by decide)
 rw[zU,← hN]at hl
 have hl:yi (yW (b::r).length (.str (b::r))) (vec [.int .i64 0,.int .i64 0])=_:=hl
 have fin : ∀ (X:Bool),X=false→((asBool (.bool X)).bind fun b12=>if b12=true then some ((V.tup [(.int .i64 0),(.bool false)]),[])else
   (Ke (.str (b::r))).bind fun n13=>
   (yi (yW n13 (.str (b::r))) (vec [(.int .i64 0),(.int .i64 0)])).bind fun o30=>
   if o30.1=0 then
   (ze .gtr (o30.2 0) (.int .i64 most)).bind fun x31=>
   (asBool x31).bind fun b32=>
   if b32=true then
   some ((.tup [(.int .i64 0),(.bool false)]),[])
   else
   some ((.tup [(o30.2 0),(.bool true)]),[])
   else
   some ((.tup [(o30.2 0),(o30.2 1)]),[]))=some (zex (jR (b::r) most),([]:List V)):=by
  intro X hX
  subst hX
  simp only[zb,zc,za,zF,if_false,qe,hl]
  unfold jR
  cases zkY (b::r)with
  | none=>simp only[zb,za,Nat.one_ne_zero,if_false,zj,yz];rfl
  | some m=>
   by_cases hm:(m:Int)≤most
   ·have c : ¬ most<(m:Int):=by omega
    simp only[zb,za,if_true,zj,kK,c,decide_false,zc,zF,if_false,zD,hm];rfl
   ·have c:most<(m:Int):=by omega
    simp only[zb,za,if_true,zj,kK,c,decide_true,zc,zD,hm,if_false];rfl
 by_cases hb:b=48
 ·have h1 : ¬ 1<(b::r).length:=fun h=>hz ⟨hb,h⟩
  simp only[zb,jJ,e0,hne,za,zc,qe,d4,d1,decide_eq_false h4,if_true,hx0,xd,e48,decide_eq_true hb,decide_eq_false h1]
  exact fin false rfl
 ·simp only[zb,jJ,e0,hne,za,zc,qe,d4,decide_eq_false h4,if_true,hx0,xd,e48,decide_eq_false hb,zF,if_false]
  exact fin false rfl
end Go.Ev
end
section
namespace Go.Ev
attribute [local irreducible] P0
open Go.Lib (decodeN)
/-- a code point, or none -/
def rv(s:Str)(i:Nat):Int:=if(ud s i).1=65533∧(ud s i).2=1 then -1 else((ud s i).1:Nat)
end Go.Ev
end
section
namespace Go.Ev
attribute [local irreducible] P0
def r32(l:List Int):List V:=l.map (.int .i32)
end Go.Ev
end
section
namespace Go.Ev
attribute [local irreducible] P0
inductive LightT:Tree→Prop
 | mk (t:Tree) (h1:t.n.m.length≤95) (h2:t.s.length≤2100) (h3:t.k.length≤40) (h4:t.v.length≤40) (h5 : ∀ x,x∈t.k→x.length≤2100) (hv : ∀ x,x∈t.v→LightT x):LightT t
end Go.Ev
end
section
namespace Go.Ev
attribute [local irreducible] P0
end Go.Ev
end
section
namespace Go.Ev
attribute [local irreducible] P0
end Go.Ev
end
section
namespace Go.Ev
attribute [local irreducible] P0
end Go.Ev
end
section
namespace Go.Ev
attribute [local irreducible] P0
theorem LightT.sub{t:Tree}(h:LightT t) : ∀ x,x∈t.v→LightT x:=by cases h;assumption
end Go.Ev
end
section
namespace Go.Ev
attribute [local irreducible] P0
inductive zq2:Tree→Prop
 | mk (t:Tree) (h1:U32 t.n.m) (h2:t.n.m.length≤1000) (h3:t.k.length≤1000000) (h4:t.v.length≤1000000) (hv : ∀ x,x∈t.v→zq2 x):zq2 t
theorem zgx(l:List Nat)(hl:l.length≤1000000)(m:Nat) : ∀ i,i+m=l.length →
  yi (vk (.sl (yx l)) (.sl (yx l))) (vec [.int .i64 (i:Int)])=some (0,vec []):=by
 induction m with
 | zero=>
  intro i hi
  apply zq
  unfold vk
  have c1 : ¬ (i:Int)<(l.length:Int):=by omega
  simp only[zb,zj,zf,y0,za,zy,c1,decide_false,zc,zF,if_false]
 | succ m ih=>
  intro i hi
  have h1:i<l.length:=by omega
  have c1:(i:Int)<(l.length:Int):=by omega
  have hx:l[i]?=some l[i]:=zL h1
  rw[← ih (i+1) (by omega)]
  apply yb
  unfold vk
  simp only[zb,zj,zf,y0,za,zy,c1,decide_true,zc,if_true,j2,zn _ i l.length h1,YS,hx,zC,qu,KP,zH,zF,if_false,wB,xq (i:=i) (by omega)]
theorem zlT(l:List Nat)(hl:l.length≤1000000):P0 xp [.v (.sl (yx l)),.v (.sl (yx l))] []=some (.bool true,[]):=by
 rw[Qx];unfold Ya
 have h:=zgx l hl l.length 0 (by omega)
 rw[show((0:Nat):Int)=0 from rfl]at h
 simp only[zb,zf,y0,za,bne_self_eq_false,zF,if_false,h,if_true]
theorem zjd(l:List Str)(hl:l.length≤1000000)(m:Nat) : ∀ i,i+m=l.length →
  yi (wH (.sl (strs l)) (.sl (strs l))) (vec [.int .i64 (i:Int)])=some (0,vec []):=by
 induction m with
 | zero=>
  intro i hi
  apply zq
  unfold wH
  have c1 : ¬ (i:Int)<(l.length:Int):=by omega
  simp only[zb,zj,zf,zl,za,zy,c1,decide_false,zc,zF,if_false]
 | succ m ih=>
  intro i hi
  have h1:i<l.length:=by omega
  have c1:(i:Int)<(l.length:Int):=by omega
  have hx:l[i]?=some l[i]:=zL h1
  rw[← ih (i+1) (by omega)]
  apply yb
  unfold wH
  simp only[zb,zj,zf,zl,za,zy,c1,decide_true,zc,if_true,yP,zn _ i l.length h1,xC,hx,zC,xH,zhZ,beq_self_eq_true,zH,zF,if_false,wB,xq (i:=i) (by omega)]
theorem zm2(l:List Str)(hl:l.length≤1000000):P0 yU [.v (.sl (strs l)),.v (.sl (strs l))] []=some (.bool true,[]):=by
 rw[WD];unfold kJ
 have h:=zjd l hl l.length 0 (by omega)
 rw[show((0:Nat):Int)=0 from rfl]at h
 simp only[zb,zf,zl,za,bne_self_eq_false,zF,if_false,h,if_true]
theorem zo7(n:Nm)(hl:n.m.length≤1000000):P0 xU [.v n.val,.v n.val] []=some (.bool true,[]):=by
 rw[Kr];unfold X4
 simp only[zb,zoE,zi,zj6,zjW,zkt,za,zc,beq_self_eq_true,if_true,xd,decide_true,zlT n.m hl]
theorem zjm(t:Tree)(hl:t.v.length≤1000000)(hs : ∀ x,x∈t.v→P0 yB [.v x.val,.v x.val] []=some (.bool true,[]))(m:Nat) : ∀ i,i+m=t.v.length →
  yi (vB t.val t.val) (vec [.int .i64 (i:Int)])=some (0,vec []):=by
 induction m with
 | zero=>
  intro i hi
  apply zq
  unfold vB
  have c1 : ¬ (i:Int)<(t.v.length:Int):=by omega
  simp only[zb,zj,vI,zf,zo,za,zy,c1,decide_false,zc,zF,if_false]
 | succ m ih=>
  intro i hi
  have h1:i<t.v.length:=by omega
  have c1:(i:Int)<(t.v.length:Int):=by omega
  have hx:t.v[i]?=some t.v[i]:=zL h1
  rw[← ih (i+1) (by omega)]
  apply yb
  unfold vB
  simp only[zb,zj,vI,zf,zo,za,zy,c1,decide_true,zc,if_true,wr,zn _ i t.v.length h1,qP,hx,zC,hs _ (List.getElem_mem h1),xj,zH,zF,if_false,wB,xq (i:=i) (by omega)]
theorem zmz : ∀ t,zq2 t→P0 yB [.v t.val,.v t.val] []=some (.bool true,[]):=by
 intro t
 induction t using Tree.ind with
 | h t ih=>
 intro h
 cases h with
 | mk _ h1 h2 h3 h4 hv=>
 have hloop:=zjm t h4 (fun x hx=>ih x hx (hv x hx)) t.v.length 0 (by omega)
 rw[show((0:Nat):Int)=0 from rfl]at hloop
 rw[Je];unfold YR
 simp only[zb,zd,zi,jl,zb5,Qd,J8,vI,za,KP,zhZ,decide_true,zH,zc,if_true,beq_self_eq_true,zko,zo7 t.n (by omega),xj,zm2 t.k (by omega),zf,bne_self_eq_false,zF,if_false,hloop]
end Go.Ev
end
section
namespace Go.Ev
attribute [local irreducible] P0
/-- in order, and of sizes that go together -/
inductive OrdT:Tree→Prop
 | mk (t:Tree) (h:t.kind=7→t=obj (al t)) (hs:Kq (al t)) (h1:U32 t.n.m) (h2:t.n.m.length≤1000) (h3:t.k.length≤t.v.length) (hv : ∀ x,x∈t.v→OrdT x):OrdT t
theorem OrdT.null:OrdT Ev.null := .mk _ (fun h=>by simp[Ev.null,Tree.kind]at h) (by rw[Wa (by simp[Ev.null,Tree.kind])];trivial) (fun x hx=>by simp[Ev.null,Tree.n,Nm.zero]at hx) (by simp[Ev.null,Tree.n,Nm.zero]) (zR _) (fun x hx=>by simp[Ev.null,Tree.v]at hx)
theorem zfc{l:AL}(hs:Kq l)(hv : ∀ q,q∈l→OrdT q.2):OrdT (obj l):=
 .mk _ (fun _=>by rw[zfG]) (by rw[zfG];exact hs) (fun x hx=>by simp[obj,Tree.n,Nm.zero]at hx) (by simp[obj,Tree.n,Nm.zero]) (by show(names l).length≤(yw l).length;rw[jU,jY];exact zR _) (fun x hx=>by
  obtain⟨q,hq,rfl⟩:=List.mem_map.1 (show x∈yw l from hx)
  exact hv q hq)
theorem OrdT.al_ord{t:Tree}(h:OrdT t) : ∀ q,q∈al t→OrdT q.2:=by
 intro q hq
 cases h with
 | mk _ h hs h1 h2 h3 hv=>
  by_cases hk:t.kind=7
  ·refine hv _ ?_
   have:t.v=yw (al t):=by
    have:=congrArg Tree.v (h hk)
    exact this
   rw[this]
   exact List.mem_map.2 ⟨q,hq,rfl⟩
  ·rw[Wa hk]at hq;simp at hq
theorem OrdT.al_srt{t:Tree}(h:OrdT t):Kq (al t):=by cases h;assumption
/-- weights of lists of pairs -/
def wA(u:AL):Nat:=weightL (yw u)
theorem zaR(k:Str)(v:Tree)(r:AL):wA ((k,v)::r)=zz v+wA r:=by
 show weightL (v::yw r)=_
 rw[weightL];rfl
def wO:Option Tree→Nat
 | some x=>zz x
 | none=>0
theorem zmA{n:Str}{v:Tree}{u:AL}(hs:Kq u):wA (qJ n v u)+wO (lk n u)=wA u+zz v:=by
 induction u with
 | nil=>simp only[qJ,lk,wO,zaR];omega
 | cons p r ih=>
  obtain⟨k,w⟩:=p
  obtain⟨h1,h2⟩:=zcC.1 hs
  by_cases hk:k=n
  ·simp only[qJ,lk,if_pos hk,wO,zaR];omega
  ·by_cases hlt:lt n k=true
   ·have hno:lk n r=none:=zhd.2 (fun hm=>by
     have:=lt_trans hlt (h1 n hm)
     rw[lt_irrefl]at this;contradiction)
    simp only[qJ,lk,if_neg hk,if_pos hlt,hno,wO,zaR];omega
   ·have:=ih h2
    simp only[qJ,lk,if_neg hk,if_neg hlt,zaR];omega
theorem Xz(l:AL):zz (obj l)=1+wA l:=by
 rw[xD]
 have:w1 (obj l)=1:=by unfold w1;simp[obj,Tree.kind]
 rw[this];rfl
end Go.Ev
end
section
namespace Go.Ev
attribute [local irreducible] P0
end Go.Ev
end
section
namespace Go.Ev
attribute [local irreducible] P0
theorem OrdT.sub{t:Tree}(h:OrdT t) : ∀ x,x∈t.v→OrdT x:=by cases h;assumption
theorem zdk{t x:Tree}(h:x∈t.v):zz x<zz t:=by
 have h1:=XN h
 have h2:=xD t
 have h3:=QD t
 omega
theorem ziS(t:Tree):t.v.length<zz t:=by
 have h1:=ZV t.v
 have h2:=xD t
 have h3:=QD t
 omega
theorem OrdT.klen{t:Tree}(h:OrdT t):t.k.length≤t.v.length:=by cases h;assumption
theorem Vc{t x:Tree}{s:Str}(h:child t s=some x):x∈t.v:=by
 unfold child at h
 split at h
 ·rw[zA]at h
  obtain⟨i,_,h⟩:=h
  exact List.mem_of_getElem? h
 ·exact zsq (zot h)
theorem zoz(s:Str)(l:AL):zqT s l=Wd (lk s l):=rfl
theorem Qy{t:Tree}{s:Str}{i:Nat}(h:jR s ((t.v.length:Int) - 1)=some i):i<t.v.length:=by
 have:=zky h;omega
theorem zhe{n:Nat}(h:n≤1000000):IntKind.i64.wrap ((n:Int) - 1)=(n:Int) - 1:=w64 (by omega)
theorem zgY(t:Tree)(s:Str)(hw:t.v.length≤1000000):P0 xu [.v t.val,.v (.str s)] []=some (Wd (child t s),[]):=by
 rw[zaL];unfold WJ
 have ha:=ziY t
 by_cases hk:t.kind=6
 ·have hc:child t s=(jR s ((t.v.length:Int) - 1)).bind fun i=>t.v[i]?:=if_pos hk
  rw[hc]
  have hi:=zfZ s ((t.v.length:Int) - 1)
  simp only[zb,zd,zi,jl,za,KP,hk,decide_true,zH,zc,zF,if_false,vI,zf,zo,zhe hw,hi]
  cases hx:jR s ((t.v.length:Int) - 1)with
  | none=>simp only[zb,zex,yd,zM,zN,za,xj,zI,zc,if_true];rfl
  | some i=>
   have hlt:=Qy hx
   have hg:t.v[i]?=some t.v[i]:=zL hlt
   simp only[zb,zex,yd,zM,zN,za,xj,zH,zc,zF,if_false,vI,wr,zo,zn _ i t.v.length hlt,qP,hg,zC,zd,zi,zD];rfl
 ·have hc:child t s=lk s (al t):=if_neg hk
  rw[hc]
  have hm:=zlN t s (by omega)
  rw[zoz]at hm
  simp only[zb,zd,zi,jl,za,KP,hk,decide_false,zI,zc,if_true,hm]
  cases lk s (al t)with
  | none=>simp only[zb,Wd,yd,zM,zN,za,zd,zi]
  | some x=>simp only[zb,Wd,yd,zM,zN,za,zd,zi]
/-- a value of which all parts are few enough -/
structure Sz(t:Tree):Prop where
 ord:OrdT t
 w:zz t≤900000
theorem Sz.sub{t x:Tree}(h:Sz t)(hx:x∈t.v):Sz x:=⟨h.ord.sub x hx,by have:=zdk hx;have:=h.w;omega⟩
theorem Sz.v{t:Tree}(h:Sz t):t.v.length≤1000000:=by have:=ziS t;have:=h.w;omega
theorem Sz.k{t:Tree}(h:Sz t):t.k.length≤1000000:=Nat.le_trans h.ord.klen h.v
theorem Sz.child{t x:Tree}{s:Str}(h:Sz t)(hx:child t s=some x):Sz x:=h.sub (Vc hx)
theorem zbi:V.agg [.int .i64 0,.bool false,.bool false,.sl [],.int .i64 0,.str [],.sl [],.sl []]=Tree.zero.val:=by rw[Tree.val_eq];rfl
abbrev zs:List V:=[.int .i64 0,.bool false,.bool false,.sl [],.int .i64 0,.str [],.sl [],.sl []]
theorem zkQ(l:List Str)(hl:l.length≤1000000)(k:Nat) : ∀ (i:Nat) (x:Tree),Sz x→i+k=l.length →
  ∃ y:V,yi (vK l.length (.sl (strs l))) (vec (.int .i64 (i:Int)::x.val::zs))=match kX x (l.drop i)with | some z=>some (0,vec [z.val,.agg zs]) | none=>some (1,vec (.bool false::y::zs)):=by
 induction k with
 | zero=>
  intro i x hx hi
  rw[zQ (by omega)]
  refine⟨x.val,zq ?_⟩
  unfold vK
  have c1 : ¬ (i:Int)<(l.length:Int):=by omega
  simp only[zb,zj,yz,zy,c1,decide_false,za,zc,zF,if_false]
 | succ k ih=>
  intro i x hx hi
  have hlt:i<l.length:=by omega
  have c1:(i:Int)<(l.length:Int):=by omega
  have hg:l[i]?=some l[i]:=zL hlt
  rw[zO hlt]
  have hst:=zgY x l[i] hx.v
  cases hc:child x l[i]with
  | none=>
   rw[hc]at hst
   refine⟨x.val,?_⟩
   simp only[kX,hc,Option.bind_none]
   apply zq
   unfold vK
   simp only[zb,zj,yz,zy,c1,decide_true,za,zc,if_true,yP,zl,zn _ i l.length hlt,xC,hg,zC,xH,hst,Wd,yd,zM,zN,zd,zi,xj,zI]
  | some y=>
   rw[hc]at hst
   obtain⟨z,hz⟩:=ih (i+1) y (hx.child hc) (by omega)
   refine⟨z,?_⟩
   simp only[kX,hc,zD]
   rw[← hz]
   apply yb
   unfold vK
   simp only[zb,zj,yz,zy,c1,decide_true,za,zc,if_true,yP,zl,zn _ i l.length hlt,xC,hg,zC,xH,hst,Wd,yd,zM,zN,zd,zi,xj,zH,zF,if_false,wB,xq (i:=i) (by omega)]
theorem zpM(t:Tree)(p:List Str)(h:Sz t)(hp:p.length≤1000000):P0 wj [.v t.val,.v (.sl (strs p))] []=some (Wd (kX t p),[]):=by
 rw[zcr];unfold V1
 obtain⟨y,hy⟩:=zkQ p hp p.length 0 t h (by omega)
 rw[zU,show((0:Nat):Int)=0 from rfl]at hy
 have z1:(1:Nat)=0↔False:=by decide
 cases hg:kX t p with
 | none=>
  rw[hg]at hy
  simp only[zb,zd,zi,zf,zl,za,hy,z1,if_false,zj,yz,zbi,Wd]
 | some x=>
  rw[hg]at hy
  simp only[zb,zd,zi,zf,zl,za,hy,if_true,zj,yz,Wd]
theorem zpq(p:List Str) : ∀ (t v:Tree),Sz t→p.length≤1000000→P0 xn [.v t.val,.v (.sl (strs p)),.v v.val] []=some (Wd (Qk t p v),[]):=by
 induction p with
 | nil=>
  intro t v h _
  rw[WM];unfold YI
  have e:(((0:Nat):Int) == 0)=true:=rfl
  simp only[zb,zd,zi,zf,zl,za,List.length_nil,e,if_true];rfl
 | cons s r ih=>
  intro t v h hp
  have hp:r.length+1≤1000000:=hp
  rw[WM];unfold YI
  have e0:(((((s::r).length:Nat):Int)) == 0)=false:=by rw[zmL];simp
  have h0:0<(s::r).length:=by simp
  have hst:=zgY t s h.v
  have hb:=zbd .i64 1 (s::r).length ⟨by decide,by simp only[List.length_cons];omega⟩
  have et:((strs (s::r)).drop (1:Int).toNat).take ((s::r).length - (1:Int).toNat)=strs r:=by
   rw[J7,Y1]
   show strs ((r).take ((s::r).length - 1))=strs r
   rw[zV (by simp)]
  cases hc:child t s with
  | none=>
   rw[hc]at hst
   simp only[Qk,hc,Option.bind_none]
   simp only[zb,zd,zi,zf,zl,za,e0,zF,if_false,yP,zhQ _ _ h0,xC,zM,zC,xH,hst,Wd,yd,zN,zc,zj,xj,zI,if_true,zbi]
  | some x=>
   rw[hc]at hst
   have hx:=h.child hc
   have hi:=ih x v hx (by omega)
   simp only[Qk,hc,zD]
   cases hq:Qk x r v with
   | none=>
    rw[hq]at hi
    simp only[zb,zd,zi,zf,zl,za,e0,zF,if_false,yP,zhQ _ _ h0,xC,zM,zC,xH,hst,Wd,yd,zN,zc,if_true,hb,et,hi,zj,xj,zI,zbi,Option.map_none]
   | some y=>
    rw[hq]at hi
    by_cases hk:t.kind=7
    ·have hset:=zm7 t s y h.ord.al_srt (Nat.le_trans (ziY t) h.v)
     simp only[zb,zd,zi,zf,zl,za,e0,zF,if_false,yP,zhQ _ _ h0,xC,zM,zC,xH,hst,Wd,yd,zN,zc,if_true,hb,et,hi,zj,yz,xj,zH,jl,xd,hk,decide_true,hset,zdD]
    ·have hk6:t.kind=6:=by
      refine Classical.byContradiction fun h6 => ?_
      unfold child at hc
      rw[if_neg h6,Wa hk]at hc
      simp[lk]at hc
     have hix : ∃ i,jR s ((t.v.length:Int) - 1)=some i:=by
      unfold child at hc
      rw[if_pos hk6,zA]at hc
      obtain⟨i,hi,_⟩:=hc
      exact⟨i,hi⟩
     obtain⟨i,hix⟩:=hix
     have hlt:=Qy hix
     have hpi:=zfZ s ((t.v.length:Int) - 1)
     rw[hix]at hpi
     have hm:=ze3 120 t.v.length (by have:=h.v;omega) (by have:=h.v;omega)
     have hsl : ∀ z:V,(((xM (List.replicate t.v.length z) 0 ((trs t.v).take (Nat.min t.v.length t.v.length))).set (0+i) y.val).drop 0).take t.v.length=trs (t.v.set i y):=by
      intro z
      have h1:xM (List.replicate t.v.length z) 0 ((trs t.v).take (Nat.min t.v.length t.v.length))=trs t.v:=by
       rw[zdR]
       ·rw[zV];rw[zo];simp
       ·rw[List.length_take,zo,List.length_replicate];simp
      rw[h1,Nat.zero_add,zU,zfC,zV]
      rw[zo,List.length_set];exact zR _
     have hpc:zdD t s y=zlC t (t.v.set i y):=by unfold zdD;rw[if_neg hk,hix];rfl
     have hval:(zlC t (t.v.set i y)).val = .agg [.int .i64 t.kind,.bool t.b,.bool t.n.neg,.sl (yx t.n.m),.int .i64 t.n.e,.str t.s,.sl (strs t.k),.sl (trs (t.v.set i y))]:=by rw[Tree.val_eq];rfl
     simp only[zb,zd,zi,zf,zl,za,e0,zF,if_false,yP,zhQ _ _ h0,xC,zM,zC,xH,hst,Wd,yd,zN,zc,if_true,hb,et,hi,zj,yz,xj,zH,jl,xd,hk,decide_false,vI,zo,zhe h.v,hpi,zex,hm,YL,zn _ i t.v.length hlt,zb5,zdN,zob,zqX,Qd,J8,hsl,hpc,hval]
end Go.Ev
end
section
namespace Go.Ev
attribute [local irreducible] P0
def arr(l:List Tree):Tree := .mk 6 false .zero [] [] l
theorem zf6{l:List Tree}(h : ∀ x,x∈l→OrdT x):OrdT (arr l):=
 .mk _ (fun h=>by simp[arr,Tree.kind]at h) (by rw[Wa (by simp[arr,Tree.kind])];trivial) (fun x hx=>by simp[arr,Tree.n,Nm.zero]at hx) (by simp[arr,Tree.n,Nm.zero]) (Nat.zero_le _) h
theorem Qo(l:List Tree):zz (arr l)=1+weightL l:=by
 rw[xD]
 have:w1 (arr l)=1:=by unfold w1;simp[arr,Tree.kind]
 rw[this];rfl
theorem WW(a b:List Tree):weightL (a++b)=weightL a+weightL b:=by
 induction a with
 | nil=>simp[weightL]
 | cons x r ih=>simp only[List.cons_append,weightL,ih];omega
theorem zgD{l:List Tree}{i:Nat}{x y:Tree}(h:l[i]?=some x):weightL (l.set i y)+zz x=weightL l+zz y:=by
 induction l generalizing i with
 | nil=>simp at h
 | cons z r ih=>
  cases i with
  | zero=>simp only[zM,Option.some.injEq]at h;subst h;simp only[List.set_cons_zero,weightL];omega
  | succ i=>simp only[zN]at h;have:=ih h;simp only[List.set_cons_succ,weightL];omega
theorem zds(l:List Tree)(i:Nat):weightL (l.take i)+weightL (l.drop i)=weightL l:=by rw[← WW,List.take_append_drop]
theorem zjH{t x:Tree}{s:Str}(h:child t s=some x):t.kind=6∨t.kind=7:=by
 refine Classical.byContradiction fun hn => ?_
 unfold child at h
 rw[if_neg (fun e=>hn (.inl e)),Wa (fun e=>hn (.inr e))]at h
 simp[lk]at h
theorem zmn{t x:Tree}{s:Str}(hk:t.kind=6)(h:child t s=some x) : ∃ i,jR s ((t.v.length:Int) - 1)=some i∧t.v[i]?=some x∧i<t.v.length:=by
 unfold child at h
 rw[if_pos hk,zA]at h
 obtain⟨i,h1,h2⟩:=h
 exact⟨i,h1,h2,Qy h1⟩
theorem zow{t x:Tree}{s:Str}(hk:t.kind=7)(h:child t s=some x):lk s (al t)=some x:=by
 unfold child at h
 rw[if_neg (by omega)]at h;exact h
theorem OrdT.obj{t:Tree}(h:OrdT t)(hk:t.kind=7):t=Ev.obj (al t):=by cases h with | mk _ h _ _ _ _ _=>exact h hk
theorem zng{t x y:Tree}{s:Str}(hc:child t s=some x)(h:OrdT t)(hy:OrdT y):OrdT (zdD t s y)∧zz (zdD t s y)+zz x=zz t+zz y:=by
 by_cases hk:t.kind=7
 ·have hp:zdD t s y=obj (qJ s y (al t)):=if_pos hk
  rw[hp]
  refine⟨zfc (zkr h.al_srt) (fun q hq => ?_),?_⟩
  ·rcases zj1 hq with rfl | hq
   ·exact hy
   ·exact h.al_ord q hq
  ·have e:=h.obj hk
   have w:=zmA (n:=s) (v:=y) h.al_srt
   rw[zow hk hc]at w
   have hw:zz t=1+wA (al t):=by rw[← Xz,← e]
   rw[Xz,hw]
   simp only[wO]at w;omega
 ·have hk6:t.kind=6:=(zjH hc).resolve_right hk
  obtain⟨i,h1,h2,h3⟩:=zmn hk6 hc
  have hp:zdD t s y=zlC t (t.v.set i y):=by unfold zdD;rw[if_neg hk,h1];rfl
  rw[hp]
  constructor
  ·cases h with
   | mk _ g hs g1 g2 g3 hv=>
    refine .mk _ (fun e=>absurd e hk) (by rw[Wa (show ¬ (zlC t (t.v.set i y)).kind=7 from hk)];trivial) g1 g2 (by show t.k.length≤(t.v.set i y).length;rw[List.length_set];exact g3) (fun z hz => ?_)
    rcases List.mem_or_eq_of_mem_set hz with hz | rfl
    ·exact hv z hz
    ·exact hy
  ·have:=zgD (y:=y) h2
   have e1:w1 (zlC t (t.v.set i y))=w1 t:=rfl
   rw[xD,xD t,e1]
   show w1 t+weightL (t.v.set i y)+_=_
   omega
theorem zhO(p:List Str) : ∀ {t y:Tree},OrdT t→OrdT y → ∀ {old:Tree},kX t p=some old → ∃ u,Qk t p y=some u∧OrdT u∧zz u+zz old=zz t+zz y:=by
 induction p with
 | nil=>
  intro t y ht hy old h
  injection h with h;subst h
  exact⟨y,rfl,hy,by omega⟩
 | cons s r ih=>
  intro t y ht hy old h
  simp only[kX,zA]at h
  obtain⟨x,hc,h⟩:=h
  obtain⟨u,h1,h2,h3⟩:=ih (ht.sub _ (Vc hc)) hy h
  obtain⟨h4,h5⟩:=zng hc ht h2
  refine⟨zdD t s u,?_,h4,by omega⟩
  simp only[Qk,hc,zD,h1,zC]
theorem zhx(p:List Str) : ∀ {t x:Tree},kX t p=some x→OrdT t→OrdT x∧zz x≤zz t:=by
 induction p with
 | nil=>intro t x h ht;injection h with h;subst h;exact⟨ht,zR _⟩
 | cons s r ih=>
  intro t x h ht
  simp only[kX,zA]at h
  obtain⟨y,hc,h⟩:=h
  obtain⟨h1,h2⟩:=ih h (ht.sub _ (Vc hc))
  have:=zdk (Vc hc)
  exact⟨h1,by omega⟩
theorem Sz.get{t x:Tree}{p:List Str}(h:Sz t)(hx:kX t p=some x):Sz x:=by
 obtain⟨h1,h2⟩:=zhx p hx h.ord
 exact⟨h1,by have:=h.w;omega⟩
def vo(p:List Str):Str:=p.getLastD []
/-- the place that a last token says, of so many and one more -/
def XA(s:Str)(n:Nat):Option Nat:=if s=[45]then some n else jR s n
def QE(t:Tree)(p:List Str)(v:Tree):Option Tree:=
 if p=[]then some v else(kX t p.dropLast).bind fun x=>
  if x.kind=7 then Qk t p.dropLast (obj (qJ (vo p) v (al x)))
  else if x.kind=6 then(XA (vo p) x.v.length).bind fun i=>Qk t p.dropLast (arr (x.v.take i++v::x.v.drop i))
  else none
def zsn(x:Tree)(s:Str):Tree:=if x.kind=7 then obj (zqr s (al x))else arr (x.v.take ((jR s ((x.v.length:Int) - 1)).getD 0)++x.v.drop ((jR s ((x.v.length:Int) - 1)).getD 0+1))
def zrR(t:Tree)(p:List Str):Option Tree:=
 if p=[]then none else(kX t p).bind fun _=>(kX t p.dropLast).bind fun x=>Qk t p.dropLast (zsn x (vo p))
def zpH(a b:List Str):Bool:=decide (a.length≤b.length) && decide (a=b.take a.length)
def zsC(t:Tree)(a b:List Str):Option Tree:=(kX t a).bind fun v=>if a=b then some t else if a=[]∨zpH a b=true then none else(zrR t a).bind fun x=>QE x b v
structure OpR where
 op:Int
 path:List Str
 from':List Str
 value:Tree
def OpR.val(o:OpR):V := .agg [.int .i64 o.op,.sl (strs o.path),.sl (strs o.from'),.int .i64 o.value.kind,.bool o.value.b,.bool o.value.n.neg,.sl (yx o.value.n.m),.int .i64 o.value.n.e,.str o.value.s,.sl (strs o.value.k),.sl (trs o.value.v)]
noncomputable def V5(t:Tree)(o:OpR):Option Tree:=
 if o.op=1 then QE t o.path o.value
 else if o.op=2 then zrR t o.path
 else if o.op=3 then Qk t o.path o.value
 else if o.op=4 then zsC t o.from' o.path
 else if o.op=5 then(kX t o.from').bind fun v=>QE t o.path v
 else if o.op=6 then(kX t o.path).bind fun x=>(open Classical in if x=o.value then some t else none)
 else none
end Go.Ev
end
section
namespace Go.Ev
attribute [local irreducible] P0
def VI:V := .tup [.bool false,.iface zas (.agg [])]
/-- what comes of it, or the panic -/
def ZM(o:Option Tree):V:=match o with
 | some x => .tup [.bool true,x.val]
 | none=>VI
theorem Vd(b:Bool):P0 zt [.v (.bool b)] []=some (if b=true then .tup [.bool true,.tup []]else VI,[]):=by
 rw[zhX];unfold zbS
 cases b with
 | true=>simp only[zb,xj,zH,za,zc,zF,if_false,if_true]
 | false=>simp only[zb,xj,zI,za,zc,if_true,Jy,zF,if_false];rfl
theorem zpe(t:Tree)(p:List Str)(h:Sz t)(hp:p.length≤1000000):P0 xP [.v t.val,.v (.sl (strs p))] []=some (ZM (kX t p),[]):=by
 rw[ziq];unfold zer
 have hg:=zpM t p h hp
 cases hx:kX t p with
 | none=>
  rw[hx]at hg
  simp only[zb,zd,zi,hg,Wd,za,yd,zM,zN,Vd,zF,if_false,VI,zc,ZM]
 | some x=>
  rw[hx]at hg
  simp only[zb,zd,zi,hg,Wd,za,yd,zM,zN,Vd,if_true,zc,ZM]
theorem zkn(t:Tree)(p:List Str)(v:Tree)(h:Sz t)(hp:p.length≤1000000):P0 vr [.v t.val,.v (.sl (strs p)),.v v.val] []=some (ZM (Qk t p v),[]):=by
 rw[zju];unfold zdQ
 have hg:=zpq p t v h hp
 cases hx:Qk t p v with
 | none=>
  rw[hx]at hg
  simp only[zb,zd,zi,hg,Wd,za,yd,zM,zN,Vd,zF,if_false,VI,zc,ZM]
 | some x=>
  rw[hx]at hg
  simp only[zb,zd,zi,hg,Wd,za,yd,zM,zN,Vd,if_true,zc,ZM]
theorem zom(p:List Str)(h:p≠[])(hp:p.length≤1000000):P0 wm [.v (.sl (strs p))] []=some (.tup [.sl (strs p.dropLast),.str (vo p)],[]):=by
 rw[zfN];unfold K0
 have hl:0<p.length:=List.length_pos_iff.2 h
 have w:IntKind.i64.wrap (((p.length:Nat):Int) - 1)=((p.length - 1:Nat):Int):=(w64 (a:=(p.length:Int) - 1) (by omega)).trans (by omega)
 have hb:=zn3 .i64 ((p.length - 1:Nat):Int) p.length ⟨by omega,by omega⟩
 rw[Int.toNat_natCast]at hb
 have hlast:p[p.length - 1]?=some (vo p):=by
  unfold vo
  rw[List.getLastD_eq_getLast?,List.getLast?_eq_getElem?]
  cases hx:p[p.length - 1]? with
  | none=>rw[List.getElem?_eq_none_iff]at hx;omega
  | some x=>rfl
 simp only[zb,zf,zl,za,yP,w,hb,zn _ (p.length - 1) p.length (by omega),xC,hlast,zC,xH,zU,Nat.sub_zero,Y1,List.dropLast_eq_take]
theorem znd(a b c:List V):yu 1 [V.sl a,V.sl b,V.sl c]=true:=rfl
theorem YP(a b c:List V):xy 1 (.sl [V.sl a,V.sl b,V.sl c])=some [.sl a,.sl b,.sl c]:=by unfold xy;simp only[znd]
theorem zje(a b c:List Tree)(ha:a.length≤1000000)(hb:b.length≤1000000)(hc:c.length≤1000000):P0 yq [.v (.sl [.sl (trs a),.sl (trs b),.sl (trs c)])] []=some (.sl (trs (a++b++c)),[]):=by
 rw[VB];unfold ZI
 have w1:IntKind.i64.wrap (0+(a.length:Int))=(a.length:Int):=w64 (a:=0+(a.length:Int)) (by omega) |>.trans (by omega)
 have w2:IntKind.i64.wrap ((a.length:Int)+(b.length:Int))=((a.length+b.length:Nat):Int):=w64 (a:=(a.length:Int)+(b.length:Int)) (by omega) |>.trans (by omega)
 have w2':IntKind.i64.wrap (((a.length+b.length:Nat):Int)+(c.length:Int))=((a.length+b.length+c.length:Nat):Int):=w64 (a:=((a.length+b.length:Nat):Int)+(c.length:Int)) (by omega) |>.trans (by omega)
 have w3:IntKind.i64.wrap (0+1)=1:=by decide
 have w4:IntKind.i64.wrap (1+1)=2:=by decide
 have w5:IntKind.i64.wrap (2+1)=3:=by decide
 have c0 : ¬ (a.length:Int)<0:=by omega
 have c1 : ¬ ((a.length+b.length:Nat):Int)<0:=by omega
 have c2 : ¬ ((a.length+b.length+c.length:Nat):Int)<0:=by omega
 have d0:(0:Int)<((3:Nat):Int):=by decide
 have d1:(1:Int)<((3:Nat):Int):=by decide
 have d2:(2:Int)<((3:Nat):Int):=by decide
 have d3 : ¬ (3:Int)<((3:Nat):Int):=by decide
 have i0:=zhQ .i64 3 (by decide)
 have i1:xN (.int .i64 1) 3=some 1:=zn .i64 1 3 (by decide)
 have i2:xN (.int .i64 2) 3=some 2:=zn .i64 2 3 (by decide)
 have l1:yi (xe 3 (.sl [.sl (trs a),.sl (trs b),.sl (trs c)])) (vec [.int .i64 0,.int .i64 0])=some (0,vec [.int .i64 ((a.length+b.length+c.length:Nat):Int)]):=by
  rw[yb (a':=vec [.int .i64 (a.length:Int),.int .i64 1])]
  ·rw[yb (a':=vec [.int .i64 ((a.length+b.length:Nat):Int),.int .i64 2])]
   ·rw[yb (a':=vec [.int .i64 ((a.length+b.length+c.length:Nat):Int),.int .i64 3])]
    ·apply zq
     unfold xe
     simp only[zb,zj,yz,zy,d3,decide_false,za,zc,zF,if_false]
    ·unfold xe
     simp only[zb,zj,yz,zy,d2,decide_true,za,zc,if_true,YP,List.length_cons,List.length_nil,Nat.zero_add,Nat.reduceAdd,i2,zN,zM,Yv,zf,zo,wB,w2',c2,decide_false,zF,if_false,w5]
   ·unfold xe
    simp only[zb,zj,yz,zy,d1,decide_true,za,zc,if_true,YP,List.length_cons,List.length_nil,Nat.zero_add,Nat.reduceAdd,i1,zN,zM,Yv,zf,zo,wB,w2,c1,decide_false,zF,if_false,w4]
  ·unfold xe
   simp only[zb,zj,yz,zy,d0,decide_true,za,zc,if_true,YP,List.length_cons,List.length_nil,Nat.zero_add,Nat.reduceAdd,i0,zM,Yv,zf,zo,wB,w1,c0,decide_false,zF,if_false,w3]
 have l2:yi (xc 3 (.sl [.sl (trs a),.sl (trs b),.sl (trs c)])) (vec [.sl [],.int .i64 0])=some (0,vec [.sl (trs (a++b++c))]):=by
  rw[yb (a':=vec [.sl (trs a),.int .i64 1])]
  ·rw[yb (a':=vec [.sl (trs (a++b)),.int .i64 2])]
   ·rw[yb (a':=vec [.sl (trs (a++b++c)),.int .i64 3])]
    ·apply zq
     unfold xc
     simp only[zb,zj,yz,zy,d3,decide_false,za,zc,zF,if_false,wz]
    ·unfold xc
     simp only[zb,zj,yz,zy,d2,decide_true,za,zc,if_true,YP,List.length_cons,List.length_nil,Nat.zero_add,Nat.reduceAdd,i2,zN,zM,Yv,YL,wz,zo,zZ,zfq 120 (a.length+b.length) c.length (by omega) (by omega),zi,wB,w5,zf8]
   ·unfold xc
    simp only[zb,zj,yz,zy,d1,decide_true,za,zc,if_true,YP,List.length_cons,List.length_nil,Nat.zero_add,Nat.reduceAdd,i1,zN,zM,Yv,YL,wz,zo,zfq 120 a.length b.length (by omega) (by omega),zi,wB,w4,zf8]
  ·unfold xc
   simp only[zb,zj,yz,zy,d0,decide_true,za,zc,if_true,YP,List.length_cons,List.length_nil,Nat.zero_add,Nat.reduceAdd,i0,zM,Yv,YL,wz,zo,zfq 120 0 a.length (by omega) (by omega),zi,wB,w3,List.nil_append]
 simp only[zb,zf,za,List.length_cons,List.length_nil,Nat.zero_add,Nat.reduceAdd,l1,if_true,zj,zo2 _ (by omega:a.length+b.length+c.length≤100000000),zoU,l2,wz]
theorem zjO(l:List Tree):(arr l).val = .agg [.int .i64 6,.bool false,.bool false,.sl [],.int .i64 0,.str [],.sl [],.sl (trs l)]:=by rw[Tree.val_eq];rfl
theorem zrY(s:Str):(s == ([45]:Str))=decide (s=[45]):=by
 by_cases h:s=[45]
 ·rw[decide_eq_true h,h];rfl
 ·rw[decide_eq_false h,beq_eq_false_iff_ne];exact h
theorem zna{s:Str}{n i:Nat}(h:jR s (n:Int)=some i):i≤n:=by have:=zky h;omega
theorem zmb{s:Str}{n i:Nat}(h:XA s n=some i):i≤n:=by
 unfold XA at h
 split at h
 ·injection h with h;omega
 ·exact zna h
theorem zpp(t:Tree)(p:List Str)(v:Tree)(h:Sz t)(hp:p.length≤1000000):P0 je [.v t.val,.v (.sl (strs p)),.v v.val] []=some (ZM (QE t p v),[]):=by
 rw[ziy];unfold zej
 unfold QE
 by_cases hn:p=[]
 ·subst hn
  have e:(((0:Nat):Int) == 0)=true:=rfl
  simp only[zb,zd,zi,zf,zl,za,List.length_nil,e,if_true,ZM]
 rw[if_neg hn]
 have e0:(((((p.length:Nat):Int)) == 0))=false:=by rw[zmL];exact decide_eq_false hn
 have hup:p.dropLast.length≤1000000:=by rw[List.length_dropLast];omega
 have hs:=zom p hn hp
 have hg:=zpe t p.dropLast h hup
 cases hx:kX t p.dropLast with
 | none=>
  rw[hx]at hg
  simp only[zb,zd,zi,zf,zl,za,e0,zF,if_false,hs,yd,zM,zN,hg,ZM,VI,zc,Option.bind_none]
 | some x=>
  rw[hx]at hg
  have hsz:=h.get hx
  simp only[zD]
  by_cases hk:x.kind=7
  ·rw[if_pos hk]
   have hset:=zm7 x (vo p) v hsz.ord.al_srt (Nat.le_trans (ziY x) hsz.v)
   have hput:=zkn t p.dropLast (obj (qJ (vo p) v (al x))) h hup
   cases hq:Qk t p.dropLast (obj (qJ (vo p) v (al x)))with
   | none=>
    rw[hq]at hput
    simp only[zb,zd,zi,zf,zl,za,e0,zF,if_false,hs,yd,zM,zN,hg,ZM,zc,if_true,jl,xd,hk,decide_true,hset,hput,VI]
   | some y=>
    rw[hq]at hput
    simp only[zb,zd,zi,zf,zl,za,e0,zF,if_false,hs,yd,zM,zN,hg,ZM,zc,if_true,jl,xd,hk,decide_true,hset,hput]
  rw[if_neg hk]
  by_cases hk6:x.kind=6
  ·rw[if_pos hk6]
   have hi:=zfZ (vo p) (x.v.length:Int)
   have hcut:(((ze .eql (.str (vo p)) (.str [45])).bind fun x25=>
     (asBool x25).bind fun b26=>
     if b26=true then
     (zh x.val 7).bind fun c27=>
     (yR c27).bind fun n28=>
     some (0,(vec [(.int .i64 ((n28:Nat):Int)),(.bool true)]))
     else
     some (0,(vec [.int .i64 ((((jR (vo p) x.v.length).getD 0:Nat)):Int),.bool (jR (vo p) x.v.length).isSome])):Option (Nat×(Nat→V))))=some (0,vec [.int .i64 ((((XA (vo p) x.v.length).getD 0:Nat)):Int),.bool (XA (vo p) x.v.length).isSome]):=by
    by_cases hd:vo p=[45]
    ·have:XA (vo p) x.v.length=some x.v.length:=if_pos hd
     rw[this]
     simp only[zb,jJ,zrY,decide_eq_true hd,za,zc,if_true,vI,zf,zo,Option.getD_some,Option.isSome_some]
    ·have:XA (vo p) x.v.length=jR (vo p) x.v.length:=if_neg hd
     rw[this]
     simp only[zb,jJ,zrY,decide_eq_false hd,za,zc,zF,if_false]
   have hi2:zex (jR (vo p) (x.v.length:Int)) = .tup [.int .i64 ((((jR (vo p) x.v.length).getD 0:Nat)):Int),.bool (jR (vo p) x.v.length).isSome]:=by
    cases jR (vo p) (x.v.length:Int)<;>rfl
   rw[hi2]at hi
   have k7 : ¬ ((6:Int)=7):=by decide
   cases hq:XA (vo p) x.v.length with
   | none=>
    rw[hq]at hcut
    simp only[zb,zd,zi,zf,zl,za,e0,zF,if_false,hs,yd,zM,zN,hg,ZM,zc,if_true,jl,xd,hk6,k7,decide_false,decide_true,vI,zo,hi,Option.bind_none]
    simp only[vI,za,zb,zf,zo]at hcut
    simp only[zb,hcut,za,zj,yz,Option.isSome_none,Vd,zF,if_false,VI,yd,zM,zN,zc]
   | some i=>
    rw[hq]at hcut
    have hle:=zmb hq
    have hb1:=zn3 .i64 (i:Int) x.v.length ⟨by omega,by omega⟩
    have hb2:=zbd .i64 (i:Int) x.v.length ⟨by omega,by omega⟩
    rw[Int.toNat_natCast]at hb1 hb2
    have hxl:=hsz.v
    have hcc:=zje (x.v.take i) [v] (x.v.drop i) (by rw[List.length_take];omega) (by simp) (by rw[List.length_drop];omega)
    have e1:trs [v]=[v.val]:=rfl
    rw[e1]at hcc
    have hdt:(x.v.drop i).take (x.v.length - i)=x.v.drop i:=by rw[zV];rw[List.length_drop];exact zR _
    have happ:x.v.take i++[v]++x.v.drop i=x.v.take i++v::x.v.drop i:=by simp
    rw[happ]at hcc
    have hput:=zkn t p.dropLast (arr (x.v.take i++v::x.v.drop i)) h hup
    rw[zjO]at hput
    simp only[zb,zd,zi,zf,zl,za,e0,zF,if_false,hs,yd,zM,zN,hg,ZM,zc,if_true,jl,xd,hk6,k7,decide_false,decide_true,vI,zo,hi,zD]
    simp only[vI,za,zb,zf,zo]at hcut
    simp only[zb,hcut,za,zj,yz,Option.isSome_some,Option.getD_some,Vd,if_true,yd,zM,zN,zc,vI,zd,wr,zo,hb1,hb2,zU,Nat.sub_zero,QI,zcl,hdt,hcc,zfd,zi,Yv,hput]
    cases Qk t p.dropLast (arr (x.v.take i++v::x.v.drop i))with
    | none=>simp only[zb,ZM,VI,yd,zM,zN,za,zc,zF,if_false]
    | some y=>simp only[zb,ZM,yd,zM,zN,za,zc,if_true,zd,zi]
  ·rw[if_neg hk6]
   simp only[zb,zd,zi,zf,zl,za,e0,zF,if_false,hs,yd,zM,zN,hg,ZM,zc,if_true,jl,xd,hk,hk6,decide_false,Jy];rfl
end Go.Ev
end
section
namespace Go.Ev
attribute [local irreducible] P0
theorem zfg(t:Tree)(hl:t.v.length≤1000000000)(hw : ∀ x,x∈t.v→P0 y4 [.v x.val] []=some (.int .i64 (zz x:Nat),[]))(m:Nat) : ∀ (i a:Nat),i+m=t.v.length→a+weightL (t.v.drop i)≤1000000000 →
  yi (qC t.val) (vec [.int .i64 (a:Int),.int .i64 (i:Int)])=some (0,vec [.int .i64 ((a+weightL (t.v.drop i):Nat):Int)]):=by
 induction m with
 | zero=>
  intro i a hi ha
  apply zq
  unfold qC
  have c1 : ¬ (i:Int)<(t.v.length:Int):=by omega
  have e:t.v.drop i=[]:=zQ (by omega)
  simp only[zb,zj,yz,vI,zf,zo,zy,c1,decide_false,za,zc,zF,if_false,e,weightL,Nat.add_zero]
 | succ m ih=>
  intro i a hi ha
  have hlt:i<t.v.length:=by omega
  have c1:(i:Int)<(t.v.length:Int):=by omega
  have hx:t.v[i]?=some t.v[i]:=zL hlt
  rw[Q6 _ _ hlt]at ha ⊢
  have wa:IntKind.i64.wrap ((a:Int)+((zz t.v[i]:Nat):Int))=((a+zz t.v[i]:Nat):Int):=w64 (a:=(a:Int)+((zz t.v[i]:Nat):Int)) (by omega)
  rw[← Nat.add_assoc,← ih (i+1) (a+zz t.v[i]) (by omega) (by omega)]
  apply yb
  unfold qC
  simp only[zb,zj,yz,vI,zf,zo,zy,c1,decide_true,za,zc,if_true,wr,zn _ i t.v.length hlt,qP,hx,zC,zd,zi,hw _ (List.getElem_mem hlt),wB,wa,xq (i:=i) (by omega)]
theorem zjK : ∀ t:Tree,zz t≤1000000000→P0 y4 [.v t.val] []=some (.int .i64 (zz t:Nat),[]):=by
 intro t
 induction t using Tree.ind with
 | h t ih=>
  intro hw
  rw[xD]at hw
  have hlen:=ZV t.v
  have hp:=QD t
  have hloop:=zfg t (by omega) (fun x hx=>ih x hx (by have:=XN hx;omega)) t.v.length 0 (w1 t) (by omega) (by rw[zU];omega)
  rw[zU,show((0:Nat):Int)=0 from rfl,← xD]at hloop
  rw[zaA];unfold WV
  by_cases h3:t.kind=3
  ·have e:w1 t=1+t.n.m.length:=by unfold w1;rw[if_pos h3]
   have wn:IntKind.i64.wrap (1+((t.n.m.length:Nat):Int))=((w1 t:Nat):Int):=by rw[w64 (a:=1+((t.n.m.length:Nat):Int)) (by omega)];omega
   simp only[zb,zd,zi,jl,za,xd,h3,decide_true,zc,if_true,zob,zf,y0,wn,vI,zo,zj,hloop]
  by_cases h45:t.kind=4∨t.kind=5
  ·have e:w1 t=1+t.s.length:=by unfold w1;rw[if_neg h3];rcases h45 with h | h<;>simp[h]
   have wn:IntKind.i64.wrap (1+((t.s.length:Nat):Int))=((w1 t:Nat):Int):=by rw[w64 (a:=1+((t.s.length:Nat):Int)) (by omega)];omega
   rcases h45 with h | h
   ·simp only[zb,zd,zi,jl,za,xd,h,Int.reduceEq,decide_true,decide_false,zc,zF,if_false,if_true,zj,Qd,qe,wn,vI,zf,zo,hloop]
   ·simp only[zb,zd,zi,jl,za,xd,h,Int.reduceEq,decide_true,decide_false,zc,zF,if_false,if_true,zj,Qd,qe,wn,vI,zf,zo,hloop]
  ·have e:w1 t=1:=by
    unfold w1;rw[if_neg h3,if_neg (fun h=>h45 (.inl h)),if_neg (fun h=>h45 (.inr h))]
   have h4 : ¬ t.kind=4:=fun h=>h45 (.inl h)
   have h5 : ¬ t.kind=5:=fun h=>h45 (.inr h)
   rw[e,show((1:Nat):Int)=1 from rfl]at hloop
   simp only[zb,zd,zi,jl,za,xd,h3,h4,h5,decide_false,zc,zF,if_false,zj,vI,zf,zo,hloop]
mutual
def zfD:Tree→Bool
 | .mk _ _ _ _ _ v=>decide (v.length≤300) && fewL v
def fewL:List Tree→Bool
 | []=>true
 | x::r=>zfD x && fewL r
end
theorem zi5(t:Tree):zfD t=(decide (t.v.length≤300) && fewL t.v):=by cases t;rw[zfD];rfl
theorem zmx(l:List Tree):fewL l = !(l.any fun x => !zfD x):=by
 induction l with
 | nil=>rfl
 | cons x r ih=>rw[fewL,ih];cases hb:zfD x<;>simp[hb]
/-- within limits -/
def zge(t:Tree)(w:Int):Bool:=decide ((zz t:Int)≤w) && decide ((xZ t:Int)≤2000) && decide ((depth t:Int)≤64) && zfD t
theorem zfQ : ∀ t:Tree,xZ t≤zz t:=by
 intro t
 induction t using Tree.ind with
 | h t ih=>
  rw[wu,xD]
  have hp:=QD t
  have : ∀ l:List Tree,(∀ x,x∈l→xZ x≤zz x)→nodesL l≤weightL l:=by
   intro l
   induction l with
   | nil=>intro _;simp[nodesL]
   | cons y r ihr=>
    intro h
    have h1:=h y List.mem_cons_self
    have h2:=ihr (fun x hx=>h x (zP _ hx))
    rw[weightL,nodesL];omega
  have:=this t.v ih
  omega
end Go.Ev
end
