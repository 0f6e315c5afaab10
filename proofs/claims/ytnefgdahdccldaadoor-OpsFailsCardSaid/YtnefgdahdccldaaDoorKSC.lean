/- What functions compute, put together. -/
import Derived.Test.YtnefgdahdccldaaDoorKSB
import Derived.Test.YtnefgdahdccldaaDoorKSp
import Derived.Test.YtnefgdahdccldaaDoorKSA
set_option linter.all false
open Option renaming bind_eq_some_iff->zA,map_some->zC,bind_some->zD
open Bool renaming false_eq_true->zF,not_true->zH,not_false->zI,true_eq_false->zX
open List renaming getElem?_eq_getElem->zL,getElem?_cons_zero->zM,getElem?_cons_succ->zN,drop_eq_getElem_cons->zO,mem_cons_of_mem->zP,drop_eq_nil_of_le->zQ,drop_zero->zU,take_of_length_le->zV,length_append->zZ
open Nat renaming le_refl->zR
namespace Go.Ev
abbrev yD:=And.intro @zn @wt
end Go.Ev
namespace Go.Ev
abbrev xP:=And.intro @zv @X3
end Go.Ev
namespace Go.Ev
abbrev kh:=And.intro @if_true.{1} (And.intro @zBx @z5)
end Go.Ev
namespace Go.Ev
abbrev yM:=And.intro @zn (And.intro @wt (And.intro @zf (And.intro @if_false.{1} @zF)))
end Go.Ev
namespace Go.Ev
section
attribute [local irreducible] P0
section
variable {P:Program} {tt ti tb tn ts tk tv tl te:TypeId} {fs fn:Array Field}
end
end
section
attribute [local irreducible] P0
theorem zc3(a b:Nat):decide ((a:Int)<(b:Int))=decide (a<b):=by
 by_cases h:a<b
 ·rw[zBz h,zBz (by omega)]
 ·rw[zBA h,zBA (by omega)]
theorem zv0{b:UInt8}(h:48<=b.toNat):IntKind.u8.wrap ((b.toNat:Int)-48)=((b.toNat-48:Nat):Int):=by have hb:b.toNat<256:=b.toNat_lt;rw[IntWalk.u8_in ((b.toNat:Int)-48) (by omega)];omega
theorem KL{a:Int}(n:Nat)(h:a=n)(hn:n<=1000000000):IntKind.i64.wrap a=(n:Int):=by subst h;exact w64 (by omega)
theorem zum(s:Str)(hl:s.length<=4)(k:Nat) : ∀ (i n:Nat),i+k=s.length->n<10^i ->
  zr (xB s.length (.str s)) (vec [.int .i64 (n:Int),.int .i64 (i:Int)])=match dig n (s.drop i)with | some m=>some (0,vec [.int .i64 (m:Int)]) | none=>some (1,vec [.int .i64 0,.bool false]):=by
 induction k with
 | zero=>
  intro i n hi hn;rw[zQ (by omega)];simp only[dig];apply zh;unfold xB;have c1 : ¬ (i:Int)<(s.length:Int):=by omega
  simp only[xP,yM,zl,c1,zBy]
 | succ k ih=>
  intro i n hi hn;have hlt:i<s.length:=by omega
  have c1:(i:Int)<(s.length:Int):=by omega
  have hx:s[i]?=some s[i]:=zL hlt;have hn2:n<=10000:=zBK (Nat.le_of_lt hn) (zBK (Nat.pow_le_pow_right (by decide) (show i<=4 by omega)) (by decide));rw[zO hlt];have hb:s[i].toNat<256:=s[i].toNat_lt;by_cases h1:s[i].toNat<48
  ·simp only[dig,h1,true_or,zBv];apply zh;unfold xB;have d:((s[i].toNat:Nat):Int)<48:=by omega
   simp only[yD,xP,zl,c1,zBx,zf,zBv,Xn s .i64 i _ hx,d,zX,zBw]
  have d : ¬ ((s[i].toNat:Nat):Int)<48:=by omega
  by_cases h2:57<s[i].toNat
  ·simp only[dig,h2,or_true,zBv];apply zh;unfold xB;have e:(57:Int)<((s[i].toNat:Nat):Int):=by omega
   simp only[yD,xP,zl,Zn,c1,zBx,zBy,zf,zBv,Xn s .i64 i _ hx,d,e]
  ·have e : ¬ (57:Int)<((s[i].toNat:Nat):Int):=by omega
   have hd:dig n (s[i]::s.drop (i+1))=dig (10*n+(s[i].toNat-48)) (s.drop (i+1)):=by simp only[dig,h1,h2,or_self,zBw]
   rw[hd,<- ih (i+1) (10*n+(s[i].toNat-48)) (by omega) (by rw[Nat.pow_succ];omega)];apply zp;unfold xB;have w1:IntKind.i64.wrap (10*(n:Int))=((10*n:Nat):Int):=KL _ (by omega) (by omega);have w2:IntKind.i64.wrap (((s[i].toNat-48:Nat):Int))=((s[i].toNat-48:Nat):Int):=KL _ rfl (by omega);have w3:IntKind.i64.wrap (((10*n:Nat):Int)+((s[i].toNat-48:Nat):Int))=((10*n+(s[i].toNat-48):Nat):Int):=KL _ (by omega) (by omega);simp only[wt,zv,X3,zl,Zn,c1,zBx,zBy,zn,zf,zBv,Xn s .i64 i _ hx,d,e,zF,zBw,zsx,ZQ,kq,yX,zv0 (b:=s[i]) (by omega),w1,w2,w3,yQ (i:=i) (by omega)]
theorem ztG(s:Str)(hl:s.length<=4)(k:Nat) : ∀ (i n:Nat),i+k=s.length->n<10^i ->
  zr (xZ (.str s)) (vec [.int .i64 (n:Int),.int .i64 (i:Int)])=match dig n (s.drop i)with | some m=>some (0,vec [.int .i64 (m:Int)]) | none=>some (1,vec [.int .i64 0,.bool false]):=by
 induction k with
 | zero=>
  intro i n hi hn;rw[zQ (by omega)];simp only[dig];apply zh;unfold xZ;have c1 : ¬ (i:Int)<(s.length:Int):=by omega
  simp only[xP,yM,wW,zl,c1,zBy]
 | succ k ih=>
  intro i n hi hn;have hlt:i<s.length:=by omega
  have c1:(i:Int)<(s.length:Int):=by omega
  have hx:s[i]?=some s[i]:=zL hlt;have hn2:n<=10000:=zBK (Nat.le_of_lt hn) (zBK (Nat.pow_le_pow_right (by decide) (show i<=4 by omega)) (by decide));rw[zO hlt];have hb:s[i].toNat<256:=s[i].toNat_lt;by_cases h1:s[i].toNat<48
  ·simp only[dig,h1,true_or,zBv];apply zh;unfold xZ;have d:((s[i].toNat:Nat):Int)<48:=by omega
   simp only[yD,xP,wW,zl,c1,zBx,zf,zBv,Xn s .i64 i _ hx,d,zX,zBw]
  have d : ¬ ((s[i].toNat:Nat):Int)<48:=by omega
  by_cases h2:57<s[i].toNat
  ·simp only[dig,h2,or_true,zBv];apply zh;unfold xZ;have e:(57:Int)<((s[i].toNat:Nat):Int):=by omega
   simp only[yD,xP,wW,zl,Zn,c1,zBx,zBy,zf,zBv,Xn s .i64 i _ hx,d,e]
  ·have e : ¬ (57:Int)<((s[i].toNat:Nat):Int):=by omega
   have hd:dig n (s[i]::s.drop (i+1))=dig (10*n+(s[i].toNat-48)) (s.drop (i+1)):=by simp only[dig,h1,h2,or_self,zBw]
   rw[hd,<- ih (i+1) (10*n+(s[i].toNat-48)) (by omega) (by rw[Nat.pow_succ];omega)];apply zp;unfold xZ;have w1:IntKind.i64.wrap (10*(n:Int))=((10*n:Nat):Int):=KL _ (by omega) (by omega);have w2:IntKind.i64.wrap (((s[i].toNat-48:Nat):Int))=((s[i].toNat-48:Nat):Int):=KL _ rfl (by omega);have w3:IntKind.i64.wrap (((10*n:Nat):Int)+((s[i].toNat-48:Nat):Int))=((10*n+(s[i].toNat-48):Nat):Int):=KL _ (by omega) (by omega);simp only[wt,wW,zv,X3,zl,Zn,c1,zBx,zBy,zn,zf,zBv,Xn s .i64 i _ hx,d,e,zF,zBw,zsx,ZQ,kq,yX,zv0 (b:=s[i]) (by omega),w1,w2,w3,yQ (i:=i) (by omega)]
def zax(o:Option Nat):V:=match o with
 | some n => .tup [.int .i64 (n:Int),.bool true]
 | none => .tup [.int .i64 0,.bool false]
theorem zgn(s:Str)(most:Int):P0 xv [.v (.str s),.v (.int .i64 most)] []=some (zax (qH s most),[]):=by
 rw[zep];unfold QZ;have e0:(s==([]:Str))=decide (s=[]):=zlZ s;cases s with
 | nil=>simp only[yD,vm,e0,zBx,zf,zX,zBw,zBv];rfl
 | cons b r=>
 have hne:decide ((b::r)=([]:Str))=false:=zBA (by simp);have hx:(b::r)[0]?=some b:=rfl;have hx0:ZE (.str (b::r)) (.int .i64 0)=some (.int .u8 (b.toNat:Int)):=Xn (b::r) .i64 0 b hx;have d4:decide (((((b::r).length:Nat):Int))>4)=decide (4<(b::r).length):=zc3 4 _;have d1:decide (((((b::r).length:Nat):Int))>1)=decide (1<(b::r).length):=zc3 1 _;by_cases h4:4<(b::r).length
 ·have hN:qH (b::r) most=none:=by unfold qH zgj;rw[zBu (.inr (.inl h4))];rfl
  rw[hN];simp only[yD,vm,e0,hne,zf,wW,d4,zBz h4,zX,zBw,zBv];rfl
 have e48:decide ((b.toNat:Int)=48)=decide (b=48):=by
  by_cases hb:b=48
  ·subst hb;rfl
  ·rw[zBA hb,zBA];intro h;exact hb (UInt8.toNat_inj.1 (by show b.toNat=48;omega))
 by_cases hz:b=48/\1<(b::r).length
 ·have hN:qH (b::r) most=none:=by unfold qH zgj;rw[zBu (.inr (.inr hz))];rfl
  rw[hN];simp only[yD,vm,e0,hne,zf,wW,d4,d1,zBA h4,zBv,hx0,zq,e48,zBz hz.1,zBz hz.2,zX,zBw];rfl
 have hN:zgj (b::r)=dig 0 (b::r):=by
  unfold zgj;rw[zBt];rintro(h | h | h)
  ·simp at h
  ·exact h4 h
  ·exact hz h
 have hl:=zum (b::r) (by omega) (b::r).length 0 0 (by omega) (by decide);rw[zU,<- hN]at hl;have hl:zr (xB (b::r).length (.str (b::r))) (vec [.int .i64 0,.int .i64 0])=_:=hl;have fin : ∀ (X:Bool),X=false->((asBool (.bool X)).bind fun b12=>if b12=true then some ((V.tup [(.int .i64 0),(.bool false)]),[])else
   (zaj (.str (b::r))).bind fun n13=>
   (zr (xB n13 (.str (b::r))) (vec [(.int .i64 0),(.int .i64 0)])).bind fun o30=>
   if o30.1=0 then
   (zc .gtr (o30.2 0) (.int .i64 most)).bind fun x31=>
   (asBool x31).bind fun b32=>
   if b32=true then
   some ((.tup [(.int .i64 0),(.bool false)]),[])
   else
   some ((.tup [(o30.2 0),(.bool true)]),[])
   else
   some ((.tup [(o30.2 0),(o30.2 1)]),[]))=some (zax (qH (b::r) most),([]:List V)):=by
  intro X hX;subst hX;simp only[yM,wW,hl];unfold qH;cases zgj (b::r)with
  | none=>simp only[yD,xP,zBM,zBw];rfl
  | some m=>
   by_cases hm:(m:Int)<=most
   ·have c : ¬ most<(m:Int):=by omega
    simp only[yM,zBv,zv,Zn,c,zBy,zD,hm];rfl
   ·have c:most<(m:Int):=by omega
    simp only[yD,zBv,zv,Zn,c,zBx,zf,zD,hm,zBw];rfl
 by_cases hb:b=48
 ·have h1 : ¬ 1<(b::r).length:=fun h=>hz ⟨hb,h⟩
  simp only[yD,vm,e0,hne,zf,wW,d4,d1,zBA h4,zBv,hx0,zq,e48,zBz hb,zBA h1];exact fin false rfl
 ·simp only[yM,vm,e0,hne,wW,d4,zBA h4,zBv,hx0,zq,e48,zBA hb];exact fin false rfl
theorem zxk(s:Str)(most:Int):P0 jl [.v (.str s),.v (.int .i64 most)] []=some (zax (qH s most),[]):=by
 rw[zh5];unfold zaP;cases s with
 | nil=>simp only[yD,wW,zf];rfl
 | cons b r=>
 have hx:(b::r)[0]?=some b:=rfl;have hx0:ZE (.str (b::r)) (.int .i64 0)=some (.int .u8 (b.toNat:Int)):=Xn (b::r) .i64 0 b hx;have d0:decide (((((b::r).length:Nat):Int))<1)=false:=zBA (by simp only[zBG];omega);have d4:decide (((((b::r).length:Nat):Int))>4)=decide (4<(b::r).length):=zc3 4 _;have d1:decide (((((b::r).length:Nat):Int))>1)=decide (1<(b::r).length):=zc3 1 _;by_cases h4:4<(b::r).length
 ·have hN:qH (b::r) most=none:=by unfold qH zgj;rw[zBu (.inr (.inl h4))];rfl
  rw[hN];simp only[yD,wW,d0,zBv,zf,d4,zBz h4,zX,zBw];rfl
 have e48:decide ((b.toNat:Int)=48)=decide (b=48):=by
  by_cases hb:b=48
  ·subst hb;rfl
  ·rw[zBA hb,zBA];intro h;exact hb (UInt8.toNat_inj.1 (by show b.toNat=48;omega))
 by_cases hz:b=48/\1<(b::r).length
 ·have hN:qH (b::r) most=none:=by unfold qH zgj;rw[zBu (.inr (.inr hz))];rfl
  rw[hN];simp only[yD,zf,wW,d0,d4,d1,zBA h4,zBv,hx0,zq,e48,zBz hz.1,zBz hz.2];rfl
 have hN:zgj (b::r)=dig 0 (b::r):=by
  unfold zgj;rw[zBt];rintro(h | h | h)
  ·simp at h
  ·exact h4 h
  ·exact hz h
 have hl:=ztG (b::r) (by omega) (b::r).length 0 0 (by omega) (by decide);rw[zU,<- hN]at hl;have hl:zr (xZ (.str (b::r))) (vec [.int .i64 0,.int .i64 0])=_:=hl;have fin : ∀ (X:Bool),X=false->((asBool (.bool X)).bind fun b12=>if b12=true then some ((V.tup [(.int .i64 0),(.bool false)]),[])else
   (zr (xZ (.str (b::r))) (vec [(.int .i64 0),(.int .i64 0)])).bind fun o30=>
   if o30.1=0 then
   (zc .gtr (o30.2 0) (.int .i64 most)).bind fun x31=>
   (asBool x31).bind fun b32=>
   if b32=true then
   some ((.tup [(.int .i64 0),(.bool false)]),[])
   else
   some ((.tup [(o30.2 0),(.bool true)]),[])
   else
   some ((.tup [(o30.2 0),(o30.2 1)]),[]))=some (zax (qH (b::r) most),([]:List V)):=by
  intro X hX;subst hX;simp only[yM,hl];unfold qH;cases zgj (b::r)with
  | none=>simp only[yD,xP,zBM,zBw];rfl
  | some m=>
   by_cases hm:(m:Int)<=most
   ·have c : ¬ most<(m:Int):=by omega
    simp only[yM,zBv,zv,Zn,c,zBy,zD,hm];rfl
   ·have c:most<(m:Int):=by omega
    simp only[yD,zBv,zv,Zn,c,zBx,zf,zD,hm,zBw];rfl
 by_cases hb:b=48
 ·have h1 : ¬ 1<(b::r).length:=fun h=>hz ⟨hb,h⟩
  simp only[yD,zf,wW,d0,d4,d1,zBA h4,zBv,hx0,zq,e48,zBz hb,zBA h1];exact fin false rfl
 ·simp only[yM,wW,d0,d4,zBA h4,zBv,hx0,zq,e48,zBA hb];exact fin false rfl
end
section
attribute [local irreducible] P0
open Go.Lib (decodeN)
def rv(s:Str)(i:Nat):Int:=if(ud s i).1=65533/\(ud s i).2=1 then -1 else((ud s i).1:Nat)
end
section
attribute [local irreducible] P0
def r32(l:List Int):List V:=l.map (.int .i32)
end
section
attribute [local irreducible] P0
inductive LightT:Tree->Prop
 | mk (t:Tree) (h1:t.n.m.length<=95) (h2:t.s.length<=2100) (h3:t.k.length<=40) (h4:t.v.length<=40) (h5 : ∀ x,x∈t.k->x.length<=2100) (hv : ∀ x,x∈t.v->LightT x):LightT t
end
section
attribute [local irreducible] P0
end
section
attribute [local irreducible] P0
end
section
attribute [local irreducible] P0
end
section
attribute [local irreducible] P0
theorem LightT.sub{t:Tree}(h:LightT t) : ∀ x,x∈t.v->LightT x:=by cases h;assumption
end
section
attribute [local irreducible] P0
inductive zxT:Tree->Prop
 | mk (t:Tree) (h1:U32 t.n.m) (h2:t.n.m.length<=1000) (h3:t.k.length<=1000000) (h4:t.v.length<=1000000) (hv : ∀ x,x∈t.v->zxT x):zxT t
theorem zph(l:List Nat)(hl:l.length<=1000000)(m:Nat) : ∀ i,i+m=l.length ->
  zr (qr (.sl (zw l)) (.sl (zw l))) (vec [.int .i64 (i:Int)])=some (0,vec []):=by
 induction m with
 | zero=>
  intro i hi;apply zh;unfold qr;have c1 : ¬ (i:Int)<(l.length:Int):=by omega
  simp only[yM,zv,zb,z8,zl,c1,zBy]
 | succ m ih=>
  intro i hi;have h1:i<l.length:=by omega
  have c1:(i:Int)<(l.length:Int):=by omega
  have hx:l[i]?=some l[i]:=zL h1;rw[<- ih (i+1) (by omega)];apply zp;unfold qr;simp only[yM,zv,zb,z8,zl,c1,zBx,zBv,wP,zg _ i l.length h1,ji,hx,zC,xM,jK,zH,yX,yQ (i:=i) (by omega)]
theorem ztx(l:List Nat)(hl:l.length<=1000000):P0 wI [.v (.sl (zw l)),.v (.sl (zw l))] []=some (.bool true,[]):=by rw[zbw];unfold WN;have h:=zph l hl l.length 0 (by omega);rw[show((0:Nat):Int)=0 from rfl]at h;simp only[yD,zb,z8,bne_self_eq_false,zF,zBw,h,zBv]
theorem zrE(l:List Str)(hl:l.length<=1000000)(m:Nat) : ∀ i,i+m=l.length ->
  zr (vF (.sl (strs l)) (.sl (strs l))) (vec [.int .i64 (i:Int)])=some (0,vec []):=by
 induction m with
 | zero=>
  intro i hi;apply zh;unfold vF;have c1 : ¬ (i:Int)<(l.length:Int):=by omega
  simp only[yM,zv,zb,zd,zl,c1,zBy]
 | succ m ih=>
  intro i hi;have h1:i<l.length:=by omega
  have c1:(i:Int)<(l.length:Int):=by omega
  have hx:l[i]?=some l[i]:=zL h1;rw[<- ih (i+1) (by omega)];apply zp;unfold vF;simp only[yM,zv,zb,zd,zl,c1,zBx,zBv,z7,zg _ i l.length h1,yx,hx,zC,yo,zg2,zBL,zH,yX,yQ (i:=i) (by omega)]
theorem zvB(l:List Str)(hl:l.length<=1000000):P0 xY [.v (.sl (strs l)),.v (.sl (strs l))] []=some (.bool true,[]):=by rw[Kk];unfold Y1;have h:=zrE l hl l.length 0 (by omega);rw[show((0:Nat):Int)=0 from rfl]at h;simp only[yD,zb,zd,bne_self_eq_false,zF,zBw,h,zBv]
theorem zxp(n:Nm)(hl:n.m.length<=1000000):P0 v6 [.v n.val,.v n.val] []=some (.bool true,[]):=by rw[zdH];unfold Q2;simp only[yD,kh,zbN,KE,K8,K3,zf,zBL,zq,ztx n.m hl]
theorem zqb(t:Tree)(hl:t.v.length<=1000000)(hs : ∀ x,x∈t.v->P0 yY [.v x.val,.v x.val] []=some (.bool true,[]))(m:Nat) : ∀ i,i+m=t.v.length ->
  zr (qO t.val t.val) (vec [.int .i64 (i:Int)])=some (0,vec []):=by
 induction m with
 | zero=>
  intro i hi;apply zh;unfold qO;have c1 : ¬ (i:Int)<(t.v.length:Int):=by omega
  simp only[yM,zv,xI,zb,zi,zl,c1,zBy]
 | succ m ih=>
  intro i hi;have h1:i<t.v.length:=by omega
  have c1:(i:Int)<(t.v.length:Int):=by omega
  have hx:t.v[i]?=some t.v[i]:=zL h1;rw[<- ih (i+1) (by omega)];apply zp;unfold qO;simp only[yM,zv,xI,zb,zi,zl,c1,zBx,zBv,yW,zg _ i t.v.length h1,wC,hx,zC,hs _ (zCg h1),yu,zH,yX,yQ (i:=i) (by omega)]
theorem znR : ∀ t,zxT t->P0 yY [.v t.val,.v t.val] []=some (.bool true,[]):=by
 intro t;induction t using Tree.ind with
 | h t ih=>
 intro h;cases h with
 | mk _ h1 h2 h3 h4 hv=>
 have hloop:=zqb t h4 (fun x hx=>ih x hx (hv x hx)) t.v.length 0 (by omega);rw[show((0:Nat):Int)=0 from rfl]at hloop;rw[zct];unfold VA;simp only[kh,yM,za,xE,Va,We,qG,xI,jK,zg2,zH,zBL,zlP,zxp t.n (by omega),yu,zvB t.k (by omega),zb,bne_self_eq_false,hloop]
end
section
attribute [local irreducible] P0
inductive OrdT:Tree->Prop
 | mk (t:Tree) (h:t.kind=7->t=obj (al t)) (hs:QF (al t)) (h1:U32 t.n.m) (h2:t.n.m.length<=1000) (h3:t.k.length<=t.v.length) (hv : ∀ x,x∈t.v->OrdT x):OrdT t
theorem OrdT.null:OrdT Ev.null := .mk _ (fun h=>by simp[Ev.null,Tree.kind]at h) (by rw[Y0 (by simp[Ev.null,Tree.kind])];trivial) (fun x hx=>by simp[Ev.null,Tree.n,Nm.zero]at hx) (by simp[Ev.null,Tree.n,Nm.zero]) (zR _) (fun x hx=>by simp[Ev.null,Tree.v]at hx)
theorem zcL{l:AL}(hs:QF l)(hv : ∀ q,q∈l->OrdT q.2):OrdT (obj l):=
 .mk _ (fun _=>by rw[zbv]) (by rw[zbv];exact hs) (fun x hx=>by simp[obj,Tree.n,Nm.zero]at hx) (by simp[obj,Tree.n,Nm.zero]) (by show(names l).length<=(zx l).length;rw[je,v7];exact zR _) (fun x hx=>by obtain⟨q,hq,rfl⟩:=List.mem_map.1 (show x∈zx l from hx);exact hv q hq)
theorem OrdT.al_ord{t:Tree}(h:OrdT t) : ∀ q,q∈al t->OrdT q.2:=by
 intro q hq;cases h with
 | mk _ h hs h1 h2 h3 hv=>
  by_cases hk:t.kind=7
  ·refine hv _ ?_;have:t.v=zx (al t):=by have:=congrArg Tree.v (h hk);exact this
   rw[this];exact List.mem_map.2 ⟨q,hq,rfl⟩
  ·rw[Y0 hk]at hq;simp at hq
theorem OrdT.al_srt{t:Tree}(h:OrdT t):QF (al t):=by cases h;assumption
theorem zx1{t:Tree}(h:OkG t)(hk:t.kind=7):t=obj (al t)/\names (al t)=t.k/\zqE t.k:=by
 obtain⟨e,hn,hl⟩:=(zdK h.own).2.2.2.2.2.2 hk;have ha:al t=t.k.zip t.v:=zBu hk;have h1:names (al t)=t.k:=by rw[ha,zlp,hl];simp[<- hl]
 have h2:zx (al t)=t.v:=by rw[ha,zk3,hl];simp
 have h3:obj (al t)=Tree.mk 7 false .zero [] (names (al t)) (zx (al t)):=rfl;exact⟨by rw[h3,h1,h2];exact e,h1,hn⟩
def wA(u:AL):Nat:=weightL (zx u)
theorem V7(k:Str)(v:Tree)(r:AL):wA ((k,v)::r)=yk v+wA r:=by show weightL (v::zx r)=_;rw[weightL];rfl
theorem zzs(n:Str)(u:AL):wA (Vl n u)<=wA u:=by
 induction u with
 | nil=>exact zR _
 | cons p r ih=>
  obtain⟨k,w⟩:=p;simp only[Vl];split
  ·rw[V7];omega
  ·rw[V7,V7];omega
def wO:Option Tree->Nat
 | some x=>yk x
 | none=>0
theorem zvF{n:Str}{v:Tree}{u:AL}(hs:QF u):wA (vV n v u)+wO (lk n u)=wA u+yk v:=by
 induction u with
 | nil=>simp only[vV,lk,wO,V7];omega
 | cons p r ih=>
  obtain⟨k,w⟩:=p;obtain⟨h1,h2⟩:=VN.1 hs;by_cases hk:k=n
  ·simp only[vV,lk,zBu hk,wO,V7];omega
  ·by_cases hlt:lt n k=true
   ·have hno:lk n r=none:=J5.2 (fun hm=>by have:=lt_trans hlt (h1 n hm);rw[lt_irrefl]at this;contradiction);simp only[vV,lk,zBt hk,zBu hlt,hno,wO,V7];omega
   ·have:=ih h2;simp only[vV,lk,zBt hk,zBt hlt,V7];omega
theorem Ym(l:AL):yk (obj l)=1+wA l:=by
 rw[wL];have:w1 (obj l)=1:=by unfold w1;simp[obj,Tree.kind]
 rw[this];rfl
end
section
attribute [local irreducible] P0
end
section
attribute [local irreducible] P0
theorem OrdT.sub{t:Tree}(h:OrdT t) : ∀ x,x∈t.v->OrdT x:=by cases h;assumption
theorem ziK{t x:Tree}(h:x∈t.v):yk x<yk t:=by have h1:=zbJ h;have h2:=wL t;have h3:=za4 t;omega
theorem zqT(t:Tree):t.v.length<yk t:=by have h1:=Kl t.v;have h2:=wL t;have h3:=za4 t;omega
theorem OrdT.klen{t:Tree}(h:OrdT t):t.k.length<=t.v.length:=by cases h;assumption
theorem Yk{t x:Tree}{s:Str}(h:child t s=some x):x∈t.v:=by
 unfold child at h;split at h
 ·rw[zA]at h;obtain⟨i,_,h⟩:=h;exact List.mem_of_getElem? h
 ·exact zBn (zvq h)
theorem zoj(s:Str)(l:AL):zp7 s l=Z0 (lk s l):=rfl
theorem QJ{t:Tree}{s:Str}{i:Nat}(h:qH s ((t.v.length:Int)-1)=some i):i<t.v.length:=by have:=zrU h;omega
theorem zcK{n:Nat}(h:n<=1000000):IntKind.i64.wrap ((n:Int)-1)=(n:Int)-1:=w64 (by omega)
theorem zob(t:Tree)(s:Str)(hw:t.v.length<=1000000):P0 vw [.v t.val,.v (.str s)] []=some (Z0 (child t s),[]):=by
 rw[zfS];unfold JE;have ha:=zgR t;by_cases hk:t.kind=6
 ·have hc:child t s=(qH s ((t.v.length:Int)-1)).bind fun i=>t.v[i]?:=zBu hk
  rw[hc];have hi:=zgn s ((t.v.length:Int)-1);simp only[yM,za,z5,xE,jK,hk,zBx,zH,xI,zb,zi,zcK hw,hi];cases hx:qH s ((t.v.length:Int)-1)with
  | none=>simp only[yD,zax,zm,zM,zN,yu,zI,zf,zBv];rfl
  | some i=>have hlt:=QJ hx;have hg:t.v[i]?=some t.v[i]:=zL hlt;simp only[yM,zax,zm,zM,zN,yu,zH,xI,yW,zi,zg _ i t.v.length hlt,wC,hg,zC,za,z5,zD];rfl
 ·have hc:child t s=lk s (al t):=zBt hk;rw[hc];have hm:=ztd t s (by omega);rw[zoj]at hm;simp only[yD,za,z5,xE,jK,hk,zBy,zI,zf,zBv,hm];cases lk s (al t)with
  | none=>simp only[yD,Z0,zm,zM,zN,za,z5]
  | some x=>simp only[yD,Z0,zm,zM,zN,za,z5]
theorem ztX(t:Tree)(s:Str)(hw:t.v.length<=1000000)(hkl:t.k.length<=1000000):P0 jg [.v t.val,.v (.str s)] []=some (Z0 (child t s),[]):=by
 rw[zha];unfold zaY;have ha:=zgR t;have hm:=zhT t s hkl (by omega);rw[zoj]at hm;have z1:(1:Nat)=0↔False:=by decide
 by_cases hk:t.kind=6
 ·have hc:child t s=(qH s ((t.v.length:Int)-1)).bind fun i=>t.v[i]?:=zBu hk
  rw[hc];have hi:=zxk s ((t.v.length:Int)-1);have hal:al t=[]:=Y0 (by omega);rw[hal]at hm;cases hx:qH s ((t.v.length:Int)-1)with
  | none=>rw[hx]at hi;simp only[kh,yM,za,xE,zq,hk,xI,zb,zi,zcK hw,hi,zax,zm,zM,zN,hm,lk,Z0];rfl
  | some i=>rw[hx]at hi;have hlt:=QJ hx;have hg:t.v[i]?=some t.v[i]:=zL hlt;simp only[yD,xP,kh,za,xE,zq,hk,zf,xI,zb,zi,zcK hw,hi,zax,zm,zM,zN,yW,zg _ i t.v.length hlt,wC,hg,zC,z1,zBw,zD];rfl
 ·have hc:child t s=lk s (al t):=zBt hk;rw[hc];simp only[yM,za,z5,xE,zq,hk,zBy,zBv,hm];cases lk s (al t)with
  | none=>simp only[yD,Z0,zm,zM,zN,za,z5]
  | some x=>simp only[yD,Z0,zm,zM,zN,za,z5]
structure Sz(t:Tree):Prop where
 ord:OrdT t
 w:yk t<=900000
theorem Sz.sub{t x:Tree}(h:Sz t)(hx:x∈t.v):Sz x:=⟨h.ord.sub x hx,by have:=ziK hx;have:=h.w;omega⟩
theorem Sz.v{t:Tree}(h:Sz t):t.v.length<=1000000:=by have:=zqT t;have:=h.w;omega
theorem Sz.k{t:Tree}(h:Sz t):t.k.length<=1000000:=zBK h.ord.klen h.v
theorem Sz.child{t x:Tree}{s:Str}(h:Sz t)(hx:child t s=some x):Sz x:=h.sub (Yk hx)
theorem zdu:V.agg [.int .i64 0,.bool false,.bool false,.sl [],.int .i64 0,.str [],.sl [],.sl []]=Tree.zero.val:=by rw[Tree.val_eq];rfl
abbrev zs:List V:=[.int .i64 0,.bool false,.bool false,.sl [],.int .i64 0,.str [],.sl [],.sl []]
theorem ztv(l:List Str)(hl:l.length<=1000000)(k:Nat) : ∀ (i:Nat) (x:Tree),Sz x->i+k=l.length ->
  ∃ y:V,zr (qV l.length (.sl (strs l))) (vec (.int .i64 (i:Int)::x.val::zs))=match xy x (l.drop i)with | some z=>some (0,vec [z.val,.agg zs]) | none=>some (1,vec (.bool false::y::zs)):=by
 induction k with
 | zero=>
  intro i x hx hi;rw[zQ (by omega)];refine⟨x.val,zh ?_⟩;unfold qV;have c1 : ¬ (i:Int)<(l.length:Int):=by omega
  simp only[xP,yM,zl,c1,zBy]
 | succ k ih=>
  intro i x hx hi;have hlt:i<l.length:=by omega
  have c1:(i:Int)<(l.length:Int):=by omega
  have hg:l[i]?=some l[i]:=zL hlt;rw[zO hlt];have hst:=zob x l[i] hx.v;cases hc:child x l[i]with
  | none=>rw[hc]at hst;refine⟨x.val,?_⟩;simp only[xy,hc,zBX];apply zh;unfold qV;simp only[yD,xP,kh,zl,c1,zf,z7,zd,zg _ i l.length hlt,yx,hg,zC,yo,hst,Z0,zm,zM,zN,za,yu,zI]
  | some y=>rw[hc]at hst;obtain⟨z,hz⟩:=ih (i+1) y (hx.child hc) (by omega);refine⟨z,?_⟩;simp only[xy,hc,zD];rw[<- hz];apply zp;unfold qV;simp only[xP,kh,yM,zl,c1,z7,zd,zg _ i l.length hlt,yx,hg,zC,yo,hst,Z0,zm,zM,zN,za,yu,zH,yX,yQ (i:=i) (by omega)]
theorem zxw(t:Tree)(p:List Str)(h:Sz t)(hp:p.length<=1000000):P0 jh [.v t.val,.v (.sl (strs p))] []=some (Z0 (xy t p),[]):=by
 rw[zif];unfold zaT;obtain⟨y,hy⟩:=ztv p hp p.length 0 t h (by omega);rw[zU,show((0:Nat):Int)=0 from rfl]at hy;have z1:(1:Nat)=0↔False:=by decide
 cases hg:xy t p with
 | none=>rw[hg]at hy;simp only[yD,xP,za,z5,zb,zd,hy,z1,zBw,zdu,Z0]
 | some x=>rw[hg]at hy;simp only[yD,xP,za,z5,zb,zd,hy,zBv,Z0]
theorem ztZ(l:List Str)(hl:l.length<=1000000)(k:Nat) : ∀ (i:Nat) (x:Tree),Sz x->i+k=l.length ->
  ∃ y:V,zr (kr (.sl (strs l))) (vec (.int .i64 (i:Int)::x.val::zs))=match xy x (l.drop i)with | some z=>some (0,vec [z.val,.agg zs]) | none=>some (1,vec (.bool false::y::zs)):=by
 induction k with
 | zero=>
  intro i x hx hi;rw[zQ (by omega)];refine⟨x.val,zh ?_⟩;unfold kr;have c1 : ¬ (i:Int)<(l.length:Int):=by omega
  simp only[xP,yM,zb,zd,zl,c1,zBy]
 | succ k ih=>
  intro i x hx hi;have hlt:i<l.length:=by omega
  have c1:(i:Int)<(l.length:Int):=by omega
  have hg:l[i]?=some l[i]:=zL hlt;rw[zO hlt];have hst:=ztX x l[i] hx.v hx.k;cases hc:child x l[i]with
  | none=>rw[hc]at hst;refine⟨x.val,?_⟩;simp only[xy,hc,zBX];apply zh;unfold kr;simp only[yD,xP,kh,zb,zl,c1,zf,z7,zd,zg _ i l.length hlt,yx,hg,zC,yo,hst,Z0,zm,zM,zN,za,yu,zI]
  | some y=>rw[hc]at hst;obtain⟨z,hz⟩:=ih (i+1) y (hx.child hc) (by omega);refine⟨z,?_⟩;simp only[xy,hc,zD];rw[<- hz];apply zp;unfold kr;simp only[xP,kh,yM,zb,zl,c1,z7,zd,zg _ i l.length hlt,yx,hg,zC,yo,hst,Z0,zm,zM,zN,za,yu,zH,yX,yQ (i:=i) (by omega)]
theorem zx0(t:Tree)(p:List Str)(h:Sz t)(hp:p.length<=1000000):P0 jO [.v t.val,.v (.sl (strs p))] []=some (Z0 (xy t p),[]):=by
 rw[zmU];unfold zeZ;obtain⟨y,hy⟩:=ztZ p hp p.length 0 t h (by omega);rw[zU,show((0:Nat):Int)=0 from rfl]at hy;have z1:(1:Nat)=0↔False:=by decide
 cases hg:xy t p with
 | none=>rw[hg]at hy;simp only[yD,xP,za,z5,hy,z1,zBw,zdu,Z0]
 | some x=>rw[hg]at hy;simp only[yD,xP,za,z5,hy,zBv,Z0]
theorem zxl(p:List Str) : ∀ (t v:Tree),Sz t->p.length<=1000000->P0 qo [.v t.val,.v (.sl (strs p)),.v v.val] []=some (Z0 (Y6 t p v),[]):=by
 induction p with
 | nil=>intro t v h _;rw[KC];unfold W7;have e:(((0:Nat):Int)==0)=true:=rfl;simp only[yD,za,z5,zb,zd,zBH,e,zBv];rfl
 | cons s r ih=>
  intro t v h hp;have hp:r.length+1<=1000000:=hp;rw[KC];unfold W7;have e0:(((((s::r).length:Nat):Int))==0)=false:=by rw[zwH];simp
  have h0:0<(s::r).length:=by simp
  have hst:=zob t s h.v;have hb:=XQ .i64 1 (s::r).length ⟨by decide,by simp only[zBG];omega⟩;have et:((strs (s::r)).drop (1:Int).toNat).take ((s::r).length-(1:Int).toNat)=strs r:=by rw[K7,Ye];show strs ((r).take ((s::r).length-1))=strs r;rw[zV (by simp)]
  cases hc:child t s with
  | none=>rw[hc]at hst;simp only[Y6,hc,zBX];simp only[yM,za,z5,zb,zd,e0,z7,zfO _ _ h0,yx,zM,zC,yo,hst,Z0,zm,zN,zv,yu,zI,zBv,zdu]
  | some x=>
   rw[hc]at hst;have hx:=h.child hc;have hi:=ih x v hx (by omega);simp only[Y6,hc,zD];cases hq:Y6 x r v with
   | none=>rw[hq]at hi;simp only[yM,za,z5,zb,zd,e0,z7,zfO _ _ h0,yx,zM,zC,yo,hst,Z0,zm,zN,zBv,hb,et,hi,zv,yu,zI,zdu,Option.map_none]
   | some y=>
    rw[hq]at hi;by_cases hk:t.kind=7
    ·have hset:=zw2 t s y h.ord.al_srt (zBK (zgR t) h.v);simp only[xP,kh,yM,za,zb,zd,e0,z7,zfO _ _ h0,yx,zM,zC,yo,hst,Z0,zm,zN,hb,et,hi,yu,zH,xE,zq,hk,hset,zhU]
    ·have hk6:t.kind=6:=by
      refine Classical.byContradiction fun h6 => ?_
      unfold child at hc;rw[zBt h6,Y0 hk]at hc;simp[lk]at hc
     have hix : ∃ i,qH s ((t.v.length:Int)-1)=some i:=by unfold child at hc;rw[zBu hk6,zA]at hc;obtain⟨i,hi,_⟩:=hc;exact⟨i,hi⟩
     obtain⟨i,hix⟩:=hix;have hlt:=QJ hix;have hpi:=zgn s ((t.v.length:Int)-1);rw[hix]at hpi;have hm:=zk2 120 t.v.length (by have:=h.v;omega) (by have:=h.v;omega);have hsl : ∀ z:V,(((wG (List.replicate t.v.length z) 0 ((trs t.v).take (Nat.min t.v.length t.v.length))).set (0+i) y.val).drop 0).take t.v.length=trs (t.v.set i y):=by
      intro z;have h1:wG (List.replicate t.v.length z) 0 ((trs t.v).take (Nat.min t.v.length t.v.length))=trs t.v:=by
       rw[zkm]
       ·rw[zV];rw[zi];simp
       ·rw[zBI,zi,zBV];simp
      rw[h1,zBE,zU,zl1,zV];rw[zi,List.length_set];exact zR _
     have hpc:zhU t s y=ztt t (t.v.set i y):=by unfold zhU;rw[zBt hk,hix];rfl
     have hval:(ztt t (t.v.set i y)).val = .agg [.int .i64 t.kind,.bool t.b,.bool t.n.neg,.sl (zw t.n.m),.int .i64 t.n.e,.str t.s,.sl (strs t.k),.sl (trs (t.v.set i y))]:=by rw[Tree.val_eq];rfl
     simp only[xP,yM,za,z5,zb,zd,e0,z7,zfO _ _ h0,yx,zM,zC,yo,hst,Z0,zm,zN,zBv,hb,et,hi,yu,zH,xE,zq,hk,zBy,xI,zi,zcK h.v,hpi,zax,hm,YL,zg _ i t.v.length hlt,Va,Jo,zgU,zjT,We,qG,hsl,hpc,hval]
theorem zrn(a b:List Str)(ha:a.length<=1000000):P0 wl [.v (.sl (strs a)),.v (.sl (strs b))] []=some (.bool (decide (a.length<=b.length)&&decide (a=b.take a.length)),[]):=by
 rw[zdk];unfold VT;have d:decide (((((a.length:Nat):Int)):Int)<=((b.length:Nat):Int))=decide (a.length<=b.length):=by
  by_cases h:a.length<=b.length
  ·rw[zBz h,zBz (by omega)]
  ·rw[zBA h,zBA (by omega)]
 by_cases h:a.length<=b.length
 ·have hb:=zbE .i64 (a.length:Int) b.length ⟨by omega,by omega⟩;rw[zCa]at hb;have he:=seq_ok a (b.take a.length) ha;simp only[yD,zb,zd,d,zBz h,zBv,z7,hb,zU,Nat.sub_zero,Ye,he,Bool.true_and]
 ·simp only[yD,zb,zd,d,zBA h,zF,zBw,Bool.false_and]
end
section
attribute [local irreducible] P0
def arr(l:List Tree):Tree := .mk 6 false .zero [] [] l
theorem zmV{l:List Tree}(h : ∀ x,x∈l->OrdT x):OrdT (arr l):=
 .mk _ (fun h=>by simp[arr,Tree.kind]at h) (by rw[Y0 (by simp[arr,Tree.kind])];trivial) (fun x hx=>by simp[arr,Tree.n,Nm.zero]at hx) (by simp[arr,Tree.n,Nm.zero]) (Nat.zero_le _) h
theorem ziz(l:List Tree):yk (arr l)=1+weightL l:=by
 rw[wL];have:w1 (arr l)=1:=by unfold w1;simp[arr,Tree.kind]
 rw[this];rfl
theorem Jt(a b:List Tree):weightL (a++b)=weightL a+weightL b:=by
 induction a with
 | nil=>simp[weightL]
 | cons x r ih=>simp only[List.cons_append,weightL,ih];omega
theorem znt{l:List Tree}{i:Nat}{x y:Tree}(h:l[i]?=some x):weightL (l.set i y)+yk x=weightL l+yk y:=by
 induction l generalizing i with
 | nil=>simp at h
 | cons z r ih=>
  cases i with
  | zero=>simp only[zM,zBB]at h;subst h;simp only[List.set_cons_zero,weightL];omega
  | succ i=>simp only[zN]at h;have:=ih h;simp only[List.set_cons_succ,weightL];omega
theorem W2(l:List Tree)(i:Nat):weightL (l.take i)+weightL (l.drop i)=weightL l:=by rw[<- Jt,List.take_append_drop]
theorem zbG{t x:Tree}{s:Str}(h:child t s=some x):t.kind=6\/t.kind=7:=by
 refine Classical.byContradiction fun hn => ?_
 unfold child at h;rw[zBt (fun e=>hn (.inl e)),Y0 (fun e=>hn (.inr e))]at h;simp[lk]at h
theorem zdN{t x:Tree}{s:Str}(hk:t.kind=6)(h:child t s=some x) : ∃ i,qH s ((t.v.length:Int)-1)=some i/\t.v[i]?=some x/\i<t.v.length:=by unfold child at h;rw[zBu hk,zA]at h;obtain⟨i,h1,h2⟩:=h;exact⟨i,h1,h2,QJ h1⟩
theorem zoG{t x:Tree}{s:Str}(hk:t.kind=7)(h:child t s=some x):lk s (al t)=some x:=by unfold child at h;rw[zBt (by omega)]at h;exact h
theorem OrdT.obj{t:Tree}(h:OrdT t)(hk:t.kind=7):t=Ev.obj (al t):=by cases h with | mk _ h _ _ _ _ _=>exact h hk
theorem zwf{t x y:Tree}{s:Str}(hc:child t s=some x)(h:OrdT t)(hy:OrdT y):OrdT (zhU t s y)/\yk (zhU t s y)+yk x=yk t+yk y:=by
 by_cases hk:t.kind=7
 ·have hp:zhU t s y=obj (vV s y (al t)):=zBu hk;rw[hp];refine⟨zcL (zm8 h.al_srt) (fun q hq => ?_),?_⟩
  ·rcases zmp hq with rfl | hq
   ·exact hy
   ·exact h.al_ord q hq
  ·have e:=h.obj hk;have w:=zvF (n:=s) (v:=y) h.al_srt;rw[zoG hk hc]at w;have hw:yk t=1+wA (al t):=by rw[<- Ym,<- e]
   rw[Ym,hw];simp only[wO]at w;omega
 ·have hk6:t.kind=6:=(zbG hc).resolve_right hk;obtain⟨i,h1,h2,h3⟩:=zdN hk6 hc;have hp:zhU t s y=ztt t (t.v.set i y):=by unfold zhU;rw[zBt hk,h1];rfl
  rw[hp];constructor
  ·cases h with
   | mk _ g hs g1 g2 g3 hv=>
    refine .mk _ (fun e=>absurd e hk) (by rw[Y0 (show ¬ (ztt t (t.v.set i y)).kind=7 from hk)];trivial) g1 g2 (by show t.k.length<=(t.v.set i y).length;rw[List.length_set];exact g3) (fun z hz => ?_);rcases List.mem_or_eq_of_mem_set hz with hz | rfl
    ·exact hv z hz
    ·exact hy
  ·have:=znt (y:=y) h2;have e1:w1 (ztt t (t.v.set i y))=w1 t:=rfl;rw[wL,wL t,e1];show w1 t+weightL (t.v.set i y)+_=_;omega
theorem zi4(p:List Str) : ∀ {t y:Tree},OrdT t->OrdT y -> ∀ {old:Tree},xy t p=some old -> ∃ u,Y6 t p y=some u/\OrdT u/\yk u+yk old=yk t+yk y:=by
 induction p with
 | nil=>intro t y ht hy old h;injection h with h;subst h;exact⟨y,rfl,hy,by omega⟩
 | cons s r ih=>intro t y ht hy old h;simp only[xy,zA]at h;obtain⟨x,hc,h⟩:=h;obtain⟨u,h1,h2,h3⟩:=ih (ht.sub _ (Yk hc)) hy h;obtain⟨h4,h5⟩:=zwf hc ht h2;refine⟨zhU t s u,?_,h4,by omega⟩;simp only[Y6,hc,zD,h1,zC]
theorem zjg(p:List Str) : ∀ {t x:Tree},xy t p=some x->OrdT t->OrdT x/\yk x<=yk t:=by
 induction p with
 | nil=>intro t x h ht;injection h with h;subst h;exact⟨ht,zR _⟩
 | cons s r ih=>intro t x h ht;simp only[xy,zA]at h;obtain⟨y,hc,h⟩:=h;obtain⟨h1,h2⟩:=ih h (ht.sub _ (Yk hc));have:=ziK (Yk hc);exact⟨h1,by omega⟩
theorem Sz.get{t x:Tree}{p:List Str}(h:Sz t)(hx:xy t p=some x):Sz x:=by obtain⟨h1,h2⟩:=zjg p hx h.ord;exact⟨h1,by have:=h.w;omega⟩
def wk(p:List Str):Str:=p.getLastD []
theorem zxj{p:List Str}(h:p≠[]):p.dropLast++[wk p]=p:=by unfold wk;rw[List.getLastD_eq_getLast?,List.getLast?_eq_some_getLast h];exact List.dropLast_concat_getLast h
def JS(s:Str)(n:Nat):Option Nat:=if s=[45]then some n else qH s n
def QC(t:Tree)(p:List Str)(v:Tree):Option Tree:=
 if p=[]then some v else(xy t p.dropLast).bind fun x=>
  if x.kind=7 then Y6 t p.dropLast (obj (vV (wk p) v (al x)))
  else if x.kind=6 then(JS (wk p) x.v.length).bind fun i=>Y6 t p.dropLast (arr (x.v.take i++v::x.v.drop i))
  else none
def zlX(x:Tree)(s:Str):Tree:=if x.kind=7 then obj (Vl s (al x))else arr (x.v.take ((qH s ((x.v.length:Int)-1)).getD 0)++x.v.drop ((qH s ((x.v.length:Int)-1)).getD 0+1))
def zdZ(t:Tree)(p:List Str):Option Tree:=
 if p=[]then none else(xy t p).bind fun _=>(xy t p.dropLast).bind fun x=>Y6 t p.dropLast (zlX x (wk p))
def zgq(a b:List Str):Bool:=decide (a.length<=b.length)&&decide (a=b.take a.length)
def znd(t:Tree)(a b:List Str):Option Tree:=(xy t a).bind fun v=>if a=b then some t else if a=[]\/zgq a b=true then none else(zdZ t a).bind fun x=>QC x b v
structure OpR where
 op:Int
 path:List Str
 from':List Str
 value:Tree
def OpR.val(o:OpR):V := .agg [.int .i64 o.op,.sl (strs o.path),.sl (strs o.from'),.int .i64 o.value.kind,.bool o.value.b,.bool o.value.n.neg,.sl (zw o.value.n.m),.int .i64 o.value.n.e,.str o.value.s,.sl (strs o.value.k),.sl (trs o.value.v)]
noncomputable def vl(t:Tree)(o:OpR):Option Tree:=
 if o.op=1 then QC t o.path o.value
 else if o.op=2 then zdZ t o.path
 else if o.op=3 then Y6 t o.path o.value
 else if o.op=4 then znd t o.from' o.path
 else if o.op=5 then(xy t o.from').bind fun v=>QC t o.path v
 else if o.op=6 then(xy t o.path).bind fun x=>(open Classical in if x=o.value then some t else none)
 else none
theorem zny{t y:Tree}{p:List Str}(hp:p≠[])(h:xy t p=some y) : ∃ x,xy t p.dropLast=some x/\child x (wk p)=some y:=by rw[<- zxj hp,zpU,zA]at h;obtain⟨x,h1,h2⟩:=h;refine⟨x,h1,?_⟩;simp only[xy,zA]at h2;obtain⟨z,h2,h3⟩:=h2;injection h3 with h3;subst h3;exact h2
theorem zuO{x y:Tree}{s:Str}(hc:child x s=some y)(h:OrdT x):OrdT (zlX x s)/\yk (zlX x s)<=yk x:=by
 by_cases hk:x.kind=7
 ·have hp:zlX x s=obj (Vl s (al x)):=zBu hk;rw[hp];refine⟨zcL (zyd h.al_srt) (fun q hq=>h.al_ord q (zx4 hq)),?_⟩;have e:=h.obj hk;have hw:yk x=1+wA (al x):=by rw[<- Ym,<- e]
  rw[Ym,hw];have:=zzs s (al x);omega
 ·have hk6:x.kind=6:=(zbG hc).resolve_right hk;obtain⟨i,h1,h2,h3⟩:=zdN hk6 hc;have hp:zlX x s=arr (x.v.take i++x.v.drop (i+1)):=by unfold zlX;rw[zBt hk,h1];rfl
  rw[hp];refine⟨zmV (fun z hz => ?_),?_⟩
  ·rcases List.mem_append.1 hz with hz | hz
   ·exact h.sub z (List.mem_of_mem_take hz)
   ·exact h.sub z (List.mem_of_mem_drop hz)
  ·rw[ziz,Jt,wL x];have e1:=W2 x.v i;have e2:=W2 (x.v.drop i) 1;rw[List.drop_drop]at e2;have:=za4 x;omega
theorem zwF{t u:Tree}{p:List Str}(ht:OrdT t)(h:zdZ t p=some u):OrdT u/\yk u<=yk t:=by
 unfold zdZ at h;split at h
 ·contradiction
 ·next hp=>
  rw[zA]at h;obtain⟨y,hy,h⟩:=h;obtain⟨x,h1,h2⟩:=zny hp hy;rw[h1,zD]at h;obtain⟨h3,h4⟩:=zuO h2 (zjg _ h1 ht).1;obtain⟨u',h5,h6,h7⟩:=zi4 _ ht h3 h1;rw[h5]at h;injection h with h;subst h;exact⟨h6,by omega⟩
end
section
attribute [local irreducible] P0
def qJ:V := .tup [.bool false,.iface zfP (.agg [])]
def wi(o:Option Tree):V:=match o with
 | some x => .tup [.bool true,x.val]
 | none=>qJ
theorem w6(b:Bool):P0 yb [.v (.bool b)] []=some (if b=true then .tup [.bool true,.tup []]else qJ,[]):=by
 rw[znI];unfold zhN;cases b with
 | true=>simp only[yM,yu,zH,zBv]
 | false=>simp only[yM,yu,zI,zBv,zaF];rfl
theorem K2(t:Tree)(p:List Str)(h:Sz t)(hp:p.length<=1000000):P0 qy [.v t.val,.v (.sl (strs p))] []=some (wi (xy t p),[]):=by
 rw[zqP];unfold zk0;have hg:=zxw t p h hp;cases hx:xy t p with
 | none=>rw[hx]at hg;simp only[yM,za,z5,hg,Z0,zm,zM,zN,w6,qJ,wi]
 | some x=>rw[hx]at hg;simp only[yD,za,z5,hg,Z0,zm,zM,zN,w6,zBv,zf,wi]
theorem zb7(t:Tree)(p:List Str)(v:Tree)(h:Sz t)(hp:p.length<=1000000):P0 kX [.v t.val,.v (.sl (strs p)),.v v.val] []=some (wi (Y6 t p v),[]):=by
 rw[zq2];unfold zkR;have hg:=zxl p t v h hp;cases hx:Y6 t p v with
 | none=>rw[hx]at hg;simp only[yM,za,z5,hg,Z0,zm,zM,zN,w6,qJ,wi]
 | some x=>rw[hx]at hg;simp only[yD,za,z5,hg,Z0,zm,zM,zN,w6,zBv,zf,wi]
theorem zpG(p:List Str)(h:p≠[])(hp:p.length<=1000000):P0 jN [.v (.sl (strs p))] []=some (.tup [.sl (strs p.dropLast),.str (wk p)],[]):=by
 rw[zlC];unfold zfn;have hl:0<p.length:=List.length_pos_iff.2 h;have w:IntKind.i64.wrap (((p.length:Nat):Int)-1)=((p.length-1:Nat):Int):=(w64 (a:=(p.length:Int)-1) (by omega)).trans (by omega);have hb:=zbE .i64 ((p.length-1:Nat):Int) p.length ⟨by omega,by omega⟩;rw[zCa]at hb;have hlast:p[p.length-1]?=some (wk p):=by
  unfold wk;rw[List.getLastD_eq_getLast?,List.getLast?_eq_getElem?];cases hx:p[p.length-1]? with
  | none=>rw[List.getElem?_eq_none_iff]at hx;omega
  | some x=>rfl
 simp only[yD,zb,zd,z7,w,hb,zg _ (p.length-1) p.length (by omega),yx,hlast,zC,yo,zU,Nat.sub_zero,Ye,List.dropLast_eq_take]
theorem zwn(a b c:List V):yi 1 [V.sl a,V.sl b,V.sl c]=true:=rfl
theorem VC(a b c:List V):yN 1 (.sl [V.sl a,V.sl b,V.sl c])=some [.sl a,.sl b,.sl c]:=by unfold yN;simp only[zwn]
theorem zqy(a b c:List Tree)(ha:a.length<=1000000)(hb:b.length<=1000000)(hc:c.length<=1000000):P0 y9 [.v (.sl [.sl (trs a),.sl (trs b),.sl (trs c)])] []=some (.sl (trs (a++b++c)),[]):=by
 rw[YZ];unfold kN;have w1:IntKind.i64.wrap (0+(a.length:Int))=(a.length:Int):=w64 (a:=0+(a.length:Int)) (by omega) |>.trans (by omega);have w2:IntKind.i64.wrap ((a.length:Int)+(b.length:Int))=((a.length+b.length:Nat):Int):=w64 (a:=(a.length:Int)+(b.length:Int)) (by omega) |>.trans (by omega);have w2':IntKind.i64.wrap (((a.length+b.length:Nat):Int)+(c.length:Int))=((a.length+b.length+c.length:Nat):Int):=w64 (a:=((a.length+b.length:Nat):Int)+(c.length:Int)) (by omega) |>.trans (by omega);have w3:IntKind.i64.wrap (0+1)=1:=by decide
 have w4:IntKind.i64.wrap (1+1)=2:=by decide
 have w5:IntKind.i64.wrap (2+1)=3:=by decide
 have c0 : ¬ (a.length:Int)<0:=by omega
 have c1 : ¬ ((a.length+b.length:Nat):Int)<0:=by omega
 have c2 : ¬ ((a.length+b.length+c.length:Nat):Int)<0:=by omega
 have d0:(0:Int)<((3:Nat):Int):=by decide
 have d1:(1:Int)<((3:Nat):Int):=by decide
 have d2:(2:Int)<((3:Nat):Int):=by decide
 have d3 : ¬ (3:Int)<((3:Nat):Int):=by decide
 have i0:=zfO .i64 3 (by decide);have i1:y3 (.int .i64 1) 3=some 1:=zg .i64 1 3 (by decide);have i2:y3 (.int .i64 2) 3=some 2:=zg .i64 2 3 (by decide);have l1:zr (yA 3 (.sl [.sl (trs a),.sl (trs b),.sl (trs c)])) (vec [.int .i64 0,.int .i64 0])=some (0,vec [.int .i64 ((a.length+b.length+c.length:Nat):Int)]):=by
  rw[zp (a':=vec [.int .i64 (a.length:Int),.int .i64 1])]
  ·rw[zp (a':=vec [.int .i64 ((a.length+b.length:Nat):Int),.int .i64 2])]
   ·rw[zp (a':=vec [.int .i64 ((a.length+b.length+c.length:Nat):Int),.int .i64 3])]
    ·apply zh;unfold yA;simp only[xP,yM,zl,d3,zBy]
    ·unfold yA;simp only[xP,yM,zl,d2,zBx,zBv,VC,zBG,zBH,zBE,Nat.reduceAdd,i2,zN,zM,vE,zb,zi,yX,w2',c2,zBy,w5]
   ·unfold yA;simp only[xP,yM,zl,d1,zBx,zBv,VC,zBG,zBH,zBE,Nat.reduceAdd,i1,zN,zM,vE,zb,zi,yX,w2,c1,zBy,w4]
  ·unfold yA;simp only[xP,yM,zl,d0,zBx,zBv,VC,zBG,zBH,zBE,Nat.reduceAdd,i0,zM,vE,zb,zi,yX,w1,c0,zBy,w3]
 have l2:zr (yz 3 (.sl [.sl (trs a),.sl (trs b),.sl (trs c)])) (vec [.sl [],.int .i64 0])=some (0,vec [.sl (trs (a++b++c))]):=by
  rw[zp (a':=vec [.sl (trs a),.int .i64 1])]
  ·rw[zp (a':=vec [.sl (trs (a++b)),.int .i64 2])]
   ·rw[zp (a':=vec [.sl (trs (a++b++c)),.int .i64 3])]
    ·apply zh;unfold yz;simp only[xP,yM,zl,d3,zBy,zt]
    ·unfold yz;simp only[yD,xP,kh,zl,d2,zf,VC,zBG,zBH,zBE,Nat.reduceAdd,i2,zN,zM,vE,YL,zt,zi,zZ,xX 120 (a.length+b.length) c.length (by omega) (by omega),yX,w5,zgo]
   ·unfold yz;simp only[yD,xP,kh,zl,d1,zf,VC,zBG,zBH,zBE,Nat.reduceAdd,i1,zN,zM,vE,YL,zt,zi,xX 120 a.length b.length (by omega) (by omega),yX,w4,zgo]
  ·unfold yz;simp only[yD,xP,kh,zl,d0,zf,VC,zBG,zBH,zBE,Nat.reduceAdd,i0,zM,vE,YL,zt,zi,xX 120 0 a.length (by omega) (by omega),yX,w3,List.nil_append]
 simp only[yD,zb,zBG,zBH,zBE,Nat.reduceAdd,l1,zBv,zv,zsi _ (by omega:a.length+b.length+c.length<=100000000),zme,l2,zt]
theorem zsa(l:List Tree):(arr l).val = .agg [.int .i64 6,.bool false,.bool false,.sl [],.int .i64 0,.str [],.sl [],.sl (trs l)]:=by rw[Tree.val_eq];rfl
theorem zAz(s:Str):(s==([45]:Str))=decide (s=[45]):=by
 by_cases h:s=[45]
 ·rw[zBz h,h];rfl
 ·rw[zBA h,beq_eq_false_iff_ne];exact h
theorem zvY{s:Str}{n i:Nat}(h:qH s (n:Int)=some i):i<=n:=by have:=zrU h;omega
theorem zty{s:Str}{n i:Nat}(h:JS s n=some i):i<=n:=by
 unfold JS at h;split at h
 ·injection h with h;omega
 ·exact zvY h
theorem znf(t:Tree)(p:List Str)(v:Tree)(h:Sz t)(hp:p.length<=1000000):P0 Xy [.v t.val,.v (.sl (strs p)),.v v.val] []=some (wi (QC t p v),[]):=by
 rw[zqX];unfold zly;unfold QC;by_cases hn:p=[]
 ·subst hn;have e:(((0:Nat):Int)==0)=true:=rfl;simp only[yD,za,z5,zb,zd,zBH,e,zBv,wi]
 rw[zBt hn];have e0:(((((p.length:Nat):Int))==0))=false:=by rw[zwH];exact zBA hn
 have hup:p.dropLast.length<=1000000:=by rw[List.length_dropLast];omega
 have hs:=zpG p hn hp;have hg:=K2 t p.dropLast h hup;cases hx:xy t p.dropLast with
 | none=>rw[hx]at hg;simp only[yM,za,z5,zb,zd,e0,hs,zm,zM,zN,hg,wi,qJ,zBX]
 | some x=>
  rw[hx]at hg;have hsz:=h.get hx;simp only[zD];by_cases hk:x.kind=7
  ·rw[zBu hk];have hset:=zw2 x (wk p) v hsz.ord.al_srt (zBK (zgR x) hsz.v);have hput:=zb7 t p.dropLast (obj (vV (wk p) v (al x))) h hup;cases hq:Y6 t p.dropLast (obj (vV (wk p) v (al x)))with
   | none=>rw[hq]at hput;simp only[kh,yM,za,zb,zd,e0,hs,zm,zM,zN,hg,wi,xE,zq,hk,hset,hput,qJ]
   | some y=>rw[hq]at hput;simp only[kh,yM,za,zb,zd,e0,hs,zm,zM,zN,hg,wi,xE,zq,hk,hset,hput]
  rw[zBt hk];by_cases hk6:x.kind=6
  ·rw[zBu hk6];have hi:=zgn (wk p) (x.v.length:Int);have hcut:(((zc .eql (.str (wk p)) (.str [45])).bind fun x25=>
     (asBool x25).bind fun b26=>
     if b26=true then
     (ze x.val 7).bind fun c27=>
     (yw c27).bind fun n28=>
     some (0,(vec [(.int .i64 ((n28:Nat):Int)),(.bool true)]))
     else
     some (0,(vec [.int .i64 ((((qH (wk p) x.v.length).getD 0:Nat)):Int),.bool (qH (wk p) x.v.length).isSome])):Option (Nat×(Nat->V))))=some (0,vec [.int .i64 ((((JS (wk p) x.v.length).getD 0:Nat)):Int),.bool (JS (wk p) x.v.length).isSome]):=by
    by_cases hd:wk p=[45]
    ·have:JS (wk p) x.v.length=some x.v.length:=zBu hd;rw[this];simp only[yD,vm,zAz,zBz hd,zf,zBv,xI,zb,zi,Option.getD_some,zBT]
    ·have:JS (wk p) x.v.length=qH (wk p) x.v.length:=zBt hd;rw[this];simp only[yM,vm,zAz,zBA hd]
   have hi2:zax (qH (wk p) (x.v.length:Int)) = .tup [.int .i64 ((((qH (wk p) x.v.length).getD 0:Nat)):Int),.bool (qH (wk p) x.v.length).isSome]:=by cases qH (wk p) (x.v.length:Int)<;>rfl
   rw[hi2]at hi;have k7 : ¬ ((6:Int)=7):=by decide
   cases hq:JS (wk p) x.v.length with
   | none=>rw[hq]at hcut;simp only[kh,yM,za,zb,zd,e0,hs,zm,zM,zN,hg,wi,xE,zq,hk6,k7,zBy,xI,zi,hi,zBX];simp only[yD,xI,zb,zi]at hcut;simp only[xP,yM,hcut,Option.isSome_none,w6,qJ,zm,zM,zN]
   | some i=>
    rw[hq]at hcut;have hle:=zty hq;have hb1:=zbE .i64 (i:Int) x.v.length ⟨by omega,by omega⟩;have hb2:=XQ .i64 (i:Int) x.v.length ⟨by omega,by omega⟩;rw[zCa]at hb1 hb2;have hxl:=hsz.v;have hcc:=zqy (x.v.take i) [v] (x.v.drop i) (by rw[zBI];omega) (by simp) (by rw[zBJ];omega);have e1:trs [v]=[v.val]:=rfl;rw[e1]at hcc;have hdt:(x.v.drop i).take (x.v.length-i)=x.v.drop i:=by rw[zV];rw[zBJ];exact zR _
    have happ:x.v.take i++[v]++x.v.drop i=x.v.take i++v::x.v.drop i:=by simp
    rw[happ]at hcc;have hput:=zb7 t p.dropLast (arr (x.v.take i++v::x.v.drop i)) h hup;rw[zsa]at hput;simp only[kh,yM,za,zb,zd,e0,hs,zm,zM,zN,hg,wi,xE,zq,hk6,k7,zBy,xI,zi,hi,zD];simp only[yD,xI,zb,zi]at hcut;simp only[yD,xP,hcut,zBT,Option.getD_some,w6,zBv,zm,zM,zN,zf,xI,za,yW,zi,hb1,hb2,zU,Nat.sub_zero,X6,VH,hdt,hcc,Qh,z5,vE,hput];cases Y6 t p.dropLast (arr (x.v.take i++v::x.v.drop i))with
    | none=>simp only[yM,wi,qJ,zm,zM,zN]
    | some y=>simp only[yD,wi,zm,zM,zN,zf,zBv,za,z5]
  ·rw[zBt hk6];simp only[yM,za,z5,zb,zd,e0,hs,zm,zM,zN,hg,wi,zBv,xE,zq,hk,hk6,zBy,zaF];rfl
end
section
attribute [local irreducible] P0
mutual
def zoC:Tree->Bool
 | .mk _ _ _ _ _ v=>decide (v.length<=300)&&fewL v
def fewL:List Tree->Bool
 | []=>true
 | x::r=>zoC x&&fewL r
end
theorem zzg(t:Tree):zoC t=(decide (t.v.length<=300)&&fewL t.v):=by cases t;rw[zoC];rfl
theorem zwC(l:List Tree):fewL l = !(l.any fun x => !zoC x):=by
 induction l with
 | nil=>rfl
 | cons x r ih=>rw[fewL,ih];cases hb:zoC x<;>simp[hb]
def zqK(t:Tree)(w:Int):Bool:=decide ((yk t:Int)<=w)&&decide ((xT t:Int)<=2000)&&decide ((depth t:Int)<=64)&&zoC t
theorem zmz : ∀ t:Tree,xT t<=yk t:=by
 intro t;induction t using Tree.ind with
 | h t ih=>
  rw[wV,wL];have hp:=za4 t;have : ∀ l:List Tree,(∀ x,x∈l->xT x<=yk x)->nodesL l<=weightL l:=by
   intro l;induction l with
   | nil=>intro _;simp[nodesL]
   | cons y r ihr=>intro h;have h1:=h y zBY;have h2:=ihr (fun x hx=>h x (zP _ hx));rw[weightL,nodesL];omega
  have:=this t.v ih;omega
end
end Go.Ev
