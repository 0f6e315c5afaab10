/- Values and plain facts that the specifications lean on. -/
import Derived.Test.YtnefgdahdccldaaDoorKEvE
import Derived.IntWalk
import Derived.Laws.BitsAllLaws
import Derived.Laws.BitsLemmas
set_option linter.all false
open Option renaming bind_eq_some_iff->zA,map_eq_some_iff->zB,bind_some->zD
open Bool renaming and_eq_true->zG
open List renaming getElem?_eq_getElem->zL,drop_eq_getElem_cons->zO,mem_cons_of_mem->zP,mem_cons->zS
open Nat renaming le_refl->zR,mul_le_mul_right->zW
open Int renaming natCast_nonneg->zY
namespace Go.Ev
section
abbrev Str:=List UInt8
structure Nm where
 neg:Bool
 m:List Nat
 e:Int
inductive Tree where
 | mk (kind:Int) (b:Bool) (n:Nm) (s:Str) (k:List Str) (v:List Tree)
def strs(l:List Str):List V:=l.map .str
def zw(l:List Nat):List V:=l.map fun(x:Nat)=>V.int .u32 (x:Int)
def ints(l:List Int):List V:=l.map (.int .i64)
def Nm.val(n:Nm):V := .agg [.bool n.neg,.sl (zw n.m),.int .i64 n.e]
mutual
def Tree.val:Tree->V
 | .mk kind b n s k v => .agg [.int .i64 kind,.bool b,.bool n.neg,.sl (zw n.m),.int .i64 n.e,.str s,.sl (strs k),.sl (vals v)]
def vals:List Tree->List V
 | []=>[]
 | t::r=>t.val::vals r
end
theorem zuS(l:List Tree):vals l=l.map Tree.val:=by induction l<;>simp_all [vals]
def trs(l:List Tree):List V:=l.map Tree.val
def Tree.kind:Tree->Int | .mk k _ _ _ _ _=>k
def Tree.b:Tree->Bool | .mk _ b _ _ _ _=>b
def Tree.n:Tree->Nm | .mk _ _ n _ _ _=>n
def Tree.s:Tree->Str | .mk _ _ _ s _ _=>s
def Tree.k:Tree->List Str | .mk _ _ _ _ k _=>k
def Tree.v:Tree->List Tree | .mk _ _ _ _ _ v=>v
theorem Tree.val_eq(t:Tree):t.val = .agg [.int .i64 t.kind,.bool t.b,.bool t.n.neg,.sl (zw t.n.m),.int .i64 t.n.e,.str t.s,.sl (strs t.k),.sl (trs t.v)]:=by cases t;simp[Tree.val,zuS,trs,kind,b,n,s,k,v]
def Nm.zero:Nm:=⟨false,[],0⟩
def Tree.zero:Tree := .mk 0 false .zero [] [] []
theorem zn{α β:Type}(a:α)(f:α->Option β):(some a).bind f=f a:=by rw[zD]
theorem z5{ρ:Type}(k:Option ρ):tst true k=k:=by unfold tst;split<;>simp_all
def tick:Prop:=True
@[simp] theorem wt:tick=True:=propext ⟨fun _=>trivial,fun _=>trivial⟩
@[congr] theorem bind_head{α β:Type}{x y:Option α}{f:α->Option β}{p:Prop}(_:tick=p)(h:x=y):x.bind f=y.bind f:=by rw[h]
@[congr] theorem tst_head{ρ:Type}{b c:Bool}{k:Option ρ}{p:Prop}(_:tick=p)(h:b=c):tst b k=tst c k:=by rw[h]
@[congr] theorem ite_head{α:Sort _}{c d:Prop}{s:Decidable c}[Decidable d]{a b:α}{p:Prop}(_:tick=p)(h:c=d):ite c a b=ite d a b:=by subst h;congr
def Yes{α:Type}(x:Option α)(r:α):Prop:=x=some r
@[simp] theorem Yes_some{α:Type}(a b:α):Yes (some a) b↔a=b:=by simp[Yes]
theorem yes{α:Type}{x:Option α}{r:α}(h:Yes x r):x=some r:=h
theorem zf(b:Bool):asBool (.bool b)=some b:=rfl
theorem zyh(s:Str):zfa (.str s)=some s:=rfl
theorem Xo(k:IntKind)(n:Int):okN 1 (.int k n)=true:=rfl
theorem zpg(b:Bool):okN 1 (.bool b)=true:=rfl
theorem qi(s:Str):okN 1 (.str s)=true:=rfl
theorem Qh(l:List V):okN 1 (.sl l)=true:=rfl
theorem zbN(n:Nm):okN 3 n.val=true:=rfl
theorem zxA(a b c:V):okN 3 (.agg [a,b,c])=(a.one&&(b.one&&(c.one&&true))):=rfl
theorem zzZ(a b c d e f g h:V):okN 8 (.agg [a,b,c,d,e,f,g,h])=(a.one&&(b.one&&(c.one&&(d.one&&(e.one&&(f.one&&(g.one&&(h.one&&true)))))))):=rfl
theorem zxD(k:IntKind)(n:Int):(V.int k n).one=true:=rfl
theorem zvU(b:Bool):(V.bool b).one=true:=rfl
theorem zyj(s:Str):(V.str s).one=true:=rfl
theorem zzN(l:List V):(V.sl l).one=true:=rfl
theorem za(t:Tree):okN 8 t.val=true:=by rw[t.val_eq];rfl
theorem zhR(l:List Tree):yi 8 (trs l)=true:=by
 induction l with
 | nil=>rfl
 | cons t r ih=>show yi 8 (t.val::trs r)=true;simp[yi,za,ih]
theorem KO(l:List Str):yi 1 (strs l)=true:=by
 induction l with
 | nil=>rfl
 | cons t r ih=>show yi 1 (.str t::strs r)=true;simp[yi,qi,ih]
theorem zhF(l:List Nat):yi 1 (zw l)=true:=by
 induction l with
 | nil=>rfl
 | cons t r ih=>show yi 1 (.int .u32 t::zw r)=true;simp[yi,Xo,ih]
theorem zkH(l:List Int):yi 1 (ints l)=true:=by
 induction l with
 | nil=>rfl
 | cons t r ih=>show yi 1 (.int .i64 t::ints r)=true;simp[yi,Xo,ih]
theorem yW(l:List Tree):yN 8 (.sl (trs l))=some (trs l):=by unfold yN;simp only[zhR]
theorem z7(l:List Str):yN 1 (.sl (strs l))=some (strs l):=by unfold yN;simp only[KO]
theorem wP(l:List Nat):yN 1 (.sl (zw l))=some (zw l):=by unfold yN;simp only[zhF]
theorem qC(l:List Int):yN 1 (.sl (ints l))=some (ints l):=by unfold yN;simp only[zkH]
theorem zwT(n:Nat):yN n (.sl [])=some []:=rfl
theorem YL(l:List Tree):zds 8 (.sl (trs l))=some (trs l):=yW l
theorem VQ(l:List Str):zds 1 (.sl (strs l))=some (strs l):=z7 l
theorem zbm(l:List Nat):zds 1 (.sl (zw l))=some (zw l):=wP l
theorem zux(l:List Int):zds 1 (.sl (ints l))=some (ints l):=qC l
theorem KE(n:Nm):ze n.val 0=some (.bool n.neg):=rfl
theorem K8(n:Nm):ze n.val 1=some (.sl (zw n.m)):=rfl
theorem K3(n:Nm):ze n.val 2=some (.int .i64 n.e):=rfl
theorem xE(t:Tree):ze t.val 0=some (.int .i64 t.kind):=by rw[t.val_eq];rfl
theorem Va(t:Tree):ze t.val 1=some (.bool t.b):=by rw[t.val_eq];rfl
theorem Jo(t:Tree):ze t.val 2=some (.bool t.n.neg):=by rw[t.val_eq];rfl
theorem zgU(t:Tree):ze t.val 3=some (.sl (zw t.n.m)):=by rw[t.val_eq];rfl
theorem zjT(t:Tree):ze t.val 4=some (.int .i64 t.n.e):=by rw[t.val_eq];rfl
theorem We(t:Tree):ze t.val 5=some (.str t.s):=by rw[t.val_eq];rfl
theorem qG(t:Tree):ze t.val 6=some (.sl (strs t.k)):=by rw[t.val_eq];rfl
theorem xI(t:Tree):ze t.val 7=some (.sl (trs t.v)):=by rw[t.val_eq];rfl
theorem Zt(l:List V)(i:Nat):ze (.agg l) i=l[i]?:=rfl
theorem yo(s:Str):ze (.str s) 0=some (.str s):=rfl
theorem xM(k:IntKind)(n:Int):ze (.int k n) 0=some (.int k n):=rfl
theorem zoq(b:Bool):ze (.bool b) 0=some (.bool b):=rfl
theorem vE(l:List V):ze (.sl l) 0=some (.sl l):=rfl
theorem zb(l:List V):yw (.sl l)=some l.length:=rfl
theorem zt(l:List V):V.elems (.sl l)=l:=rfl
theorem zd(l:List Str):(strs l).length=l.length:=by simp[strs]
theorem z8(l:List Nat):(zw l).length=l.length:=by simp[zw]
theorem wE(l:List Int):(ints l).length=l.length:=by simp[ints]
theorem zi(l:List Tree):(trs l).length=l.length:=by simp[trs]
theorem yx(l:List Str)(i:Nat):(strs l)[i]?=l[i]?.map .str:=by simp[strs]
theorem ji(l:List Nat)(i:Nat):(zw l)[i]?=l[i]?.map (fun(x:Nat)=>V.int .u32 (x:Int)):=by simp[zw]
theorem kj(l:List Int)(i:Nat):(ints l)[i]?=l[i]?.map (.int .i64):=by simp[ints]
theorem wC(l:List Tree)(i:Nat):(trs l)[i]?=l[i]?.map Tree.val:=by simp[trs]
theorem ztF(l:List Str)(i:Nat)(h:i<(strs l).length):(strs l)[i] = .str (l[i]'(by simpa[strs]using h)):=by simp[strs]
theorem zq0(l:List Nat)(i:Nat)(h:i<(zw l).length):(zw l)[i] = .int .u32 ((l[i]'(by simpa[zw]using h):Nat):Int):=by simp[zw]
theorem zsT(l:List Int)(i:Nat)(h:i<(ints l).length):(ints l)[i] = .int .i64 (l[i]'(by simpa[ints]using h)):=by simp[ints]
theorem zuL(l:List Tree)(i:Nat)(h:i<(trs l).length):(trs l)[i]=(l[i]'(by simpa[trs]using h)).val:=by simp[trs]
theorem K7(l:List Str)(i:Nat):(strs l).drop i=strs (l.drop i):=by simp[strs,List.map_drop]
theorem zg6(l:List Nat)(i:Nat):(zw l).drop i=zw (l.drop i):=by simp[zw,List.map_drop]
theorem zk8(l:List Int)(i:Nat):(ints l).drop i=ints (l.drop i):=by simp[ints,List.map_drop]
theorem VH(l:List Tree)(i:Nat):(trs l).drop i=trs (l.drop i):=by simp[trs,List.map_drop]
theorem Ye(l:List Str)(i:Nat):(strs l).take i=strs (l.take i):=by simp[strs,List.map_take]
theorem Z4(l:List Nat)(i:Nat):(zw l).take i=zw (l.take i):=by simp[zw,List.map_take]
theorem zt2(l:List Int)(i:Nat):(ints l).take i=ints (l.take i):=by simp[ints,List.map_take]
theorem X6(l:List Tree)(i:Nat):(trs l).take i=trs (l.take i):=by simp[trs,List.map_take]
theorem Ju(l r:List Str):strs l++strs r=strs (l++r):=by simp[strs]
theorem ztc(l r:List Nat):zw l++zw r=zw (l++r):=by simp[zw]
theorem zgo(l r:List Tree):trs l++trs r=trs (l++r):=by simp[trs]
theorem zuY(l:List Str)(i:Nat)(x:Str):(strs l).set i (.str x)=strs (l.set i x):=by simp[strs,List.map_set]
theorem zuI(l:List Nat)(i:Nat)(x:Nat):(zw l).set i (.int .u32 (x:Int))=zw (l.set i x):=by simp[zw,List.map_set]
theorem zl1(l:List Tree)(i:Nat)(x:Tree):(trs l).set i x.val=trs (l.set i x):=by simp[trs,List.map_set]
section
variable (k:IntKind) (a b:Int)
theorem zq:zc .eql (.int k a) (.int k b)=some (.bool (decide (a=b))):=by simp[zc,Jm,Bool.beq_eq_decide_eq]
theorem jK:zc .neq (.int k a) (.int k b)=some (.bool (!decide (a=b))):=by simp only[zc,Jm,Y7,zBx,Bool.or_true,zBu,bne];congr 2
theorem zl:zc .lss (.int k a) (.int k b)=some (.bool (decide (a<b))):=by simp[zc,Jm]
theorem Vt:zc .leq (.int k a) (.int k b)=some (.bool (decide (a<=b))):=by simp[zc,Jm]
theorem Zn:zc .gtr (.int k a) (.int k b)=some (.bool (decide (b<a))):=by simp[zc,Jm]
theorem qY:zc .geq (.int k a) (.int k b)=some (.bool (decide (b<=a))):=by simp[zc,Jm]
theorem yX:zc .add (.int k a) (.int k b)=some (.int k (k.wrap (a+b))):=by simp[zc,Jm]
theorem ZQ:zc .sub (.int k a) (.int k b)=some (.int k (k.wrap (a-b))):=by simp[zc,Jm]
theorem zsx:zc .mul (.int k a) (.int k b)=some (.int k (k.wrap (a*b))):=by simp[zc,Jm]
theorem zjb(h:b≠0):zc .quo (.int k a) (.int k b)=some (.int k (k.wrap (a.tdiv b))):=by simp[zc,Jm,h]
theorem JQ(h:b≠0):zc .rem (.int k a) (.int k b)=some (.int k (a.tmod b)):=by simp[zc,Jm,h]
theorem zwM(k':IntKind)(h:0<=b):zc .shl (.int k a) (.int k' b)=some (.int k (k.wrap (a*2^Nat.min b.toNat k.bits))):=by
 have : ¬ b<0:=by omega
 simp[zc,Jm,Y7,this]
theorem zy4(k':IntKind)(h:0<=b):zc .shr (.int k a) (.int k' b)=some (.int k (a.fdiv (2^Nat.min b.toNat k.bits))):=by
 have : ¬ b<0:=by omega
 simp[zc,Jm,Y7,this]
theorem kq(k':IntKind):jA k (.int k' a)=some (.int k (k.wrap a)):=rfl
theorem zA9:unV .neg (.int k a)=some (.int k (k.wrap (0-a))):=rfl
end
theorem w64{a:Int}(h : -9223372036854775808<=a/\a<=9223372036854775807):IntKind.i64.wrap a=a:=IntWalk.i64_in a h
theorem zyq{a:Int}(h:0<=a/\a<=4294967295):IntKind.u32.wrap a=a:=IntWalk.u32_in a h
theorem zmj{a:Int}(h:0<=a/\a<=18446744073709551615):IntKind.u64.wrap a=a:=IntWalk.u64_in a h
theorem vm(a b:Str):zc .eql (.str a) (.str b)=some (.bool (a==b)):=rfl
theorem zg2(a b:Str):zc .neq (.str a) (.str b)=some (.bool (!(a==b))):=rfl
theorem zA6(a b:Str):zc .lss (.str a) (.str b)=some (.bool (Op.bytesLess a b)):=rfl
theorem zA8(a b:Str):zc .leq (.str a) (.str b)=some (.bool (Op.bytesLess a b||a==b)):=rfl
theorem zsu(a b:Str):zc .gtr (.str a) (.str b)=some (.bool !(Op.bytesLess a b||a==b)):=rfl
theorem zwu(a b:Str):zc .geq (.str a) (.str b)=some (.bool !(Op.bytesLess a b)):=rfl
theorem yu(b:Bool):unV .not (.bool b)=some (.bool !b):=rfl
theorem zyG(k:IntKind)(i:Int)(n:Nat)(h:0<=i/\i<n):y3 (.int k i) n=some i.toNat:=zBu h
theorem zfO(k:IntKind)(n:Nat)(h:0<n):y3 (.int k 0) n=some 0:=zBu ⟨Int.le_refl 0,by exact_mod_cast h⟩
theorem zg(k:IntKind)(i n:Nat)(h:i<n):y3 (.int k (i:Int)) n=some i:=by rw[zyG _ _ _ ⟨zY i,by exact_mod_cast h⟩];simp
theorem zm(xs:List V)(i:Nat):zj (.tup xs) i=xs[i]?:=rfl
theorem zbE(k:IntKind)(i:Int)(n:Nat)(h:0<=i/\i<=n):Wk none (some (.int k i)) n=some (0,i.toNat):=by
 obtain⟨h1,h2⟩:=h;obtain⟨j,rfl⟩:=Int.eq_ofNat_of_zero_le h1;have:j<=n:=by exact_mod_cast h2
 simp[Wk,zdU,this]
theorem XQ(k:IntKind)(i:Int)(n:Nat)(h:0<=i/\i<=n):Wk (some (.int k i)) none n=some (i.toNat,n):=by
 obtain⟨h1,h2⟩:=h;obtain⟨j,rfl⟩:=Int.eq_ofNat_of_zero_le h1;have:j<=n:=by exact_mod_cast h2
 simp[Wk,zdU,this]
theorem zk2(bytes n:Nat)(h:n*bytes<=140737488355328)(h2:n<=140737488355328):zjV bytes (.int .i64 n) (.int .i64 n)=some (n,n):=by
 have h1:(n:Int)*bytes<=((140737488355328:Nat):Int):=by rw[<- Int.natCast_mul];exact Int.ofNat_le.2 h
 simp only[zjV];rw[zBu ⟨zY n,Int.le_refl _,h1,by omega⟩];rfl
theorem xX(bytes n m:Nat)(h:(n+m)*bytes<=140737488355328)(h2:n+m<=140737488355328):wZ bytes n m=true:=by unfold wZ;rw[zBz h,zBz h2];rfl
theorem zv(x:V)(l:List V):vec (x::l) 0=x:=rfl
theorem X3(x:V)(l:List V)(i:Nat):vec (x::l) (i+1)=vec l i:=rfl
theorem zp{α β:Type}{f:α->Option (α ⊕ β)}{a a':α}(h:f a=some (.inl a')):zr f a=zr f a':=by rw[zoV,h]
theorem zh{α β:Type}{f:α->Option (α ⊕ β)}{a:α}{b:β}(h:f a=some (.inr b)):zr f a=some b:=by rw[zoV,h]
theorem zBo(k:IntKind)(n:Nat):WR (.int k (n:Int))=n:=by simp[WR]
attribute [simp] zn z5 zf zyh Xo zpg qi Qh zbN zxA zzZ zxD zvU zyj zzN za zhR KO zhF zkH
attribute [simp] yW z7 wP qC zwT YL VQ zbm zux KE K8 K3 xE Va Jo zgU zjT We qG xI Zt yo xM zoq vE
attribute [simp] zb zt zd z8 wE zi yx ji kj wC ztF zq0 zsT zuL K7 zg6 zk8 VH Ye Z4 zt2 X6 Ju ztc zgo zuY zuI zl1
attribute [simp] zq jK zl Vt Zn qY yX ZQ zsx kq zA9 vm zg2 zA6 zA8 zsu zwu yu zm zv X3 zBo
end
section
def B32:Nat:=4294967296
def U32(l:List Nat):Prop := ∀ x∈l,x<B32
def top(l:List Nat):Nat->Nat
 | 0=>0
 | n+1=>match l[n]? with | some 0=>top l n | _=>n+1
def norm(l:List Nat):List Nat:=l.take (top l l.length)
theorem zg8(l:List Nat)(n:Nat):top l n<=n:=by
 induction n with
 | zero=>simp[top]
 | succ n ih=>unfold top;split<;>omega
def small(d:Nat):List Nat->List Nat×Nat
 | []=>([],0)
 | x::r=>(((small d r).2*B32+x)/d::(small d r).1,((small d r).2*B32+x)%d)
theorem Xw(d:Nat)(l:List Nat):(small d l).1.length=l.length:=by induction l<;>simp_all [small]
theorem JM(d:Nat)(hd:0<d)(l:List Nat):(small d l).2<d:=by cases l<;>simp[small,hd,zBZ]
def xQ:List Nat->Nat
 | []=>0
 | x::r=>x+B32*xQ r
theorem zei(d:Nat)(hd:0<d)(l:List Nat):xQ (small d l).1=xQ l/d/\(small d l).2=xQ l%d:=by
 induction l with
 | nil=>simp[small,xQ]
 | cons x r ih=>
  obtain⟨h1,h2⟩:=ih;have e:x+B32*xQ r=(xQ r%d*B32+x)+d*(B32*(xQ r/d)):=by
   have:=Nat.div_add_mod (xQ r) d
   calc x+B32*xQ r=x+B32*(d*(xQ r/d)+xQ r%d):=by rw[this]
    _=_:=by rw[Nat.mul_add];ac_rfl
  refine⟨?_,?_⟩
  ·simp only[small,xQ,h1,h2];rw[e,Nat.add_mul_div_left _ _ hd]
  ·simp only[small,xQ,h2];rw[e,Nat.add_mul_mod_self_left]
theorem zlz(d:Nat)(hd:0<d)(l:List Nat)(hu:U32 l):U32 (small d l).1:=by
 induction l with
 | nil=>intro x hx;simp[small]at hx
 | cons x r ih=>
  intro y hy;simp only[small,zS]at hy;rcases hy with rfl | hy
  ·have h1:=JM d hd r;have h2:=hu x (by simp);rw[Nat.div_lt_iff_lt_mul hd];have:(small d r).2*B32+B32<=d*B32:=by rw[<- Nat.succ_mul];exact zW _ h1
   rw[Nat.mul_comm B32 d];omega
  ·exact ih (fun z hz=>hu z (by simp[hz])) y hy
def Nrm(l:List Nat):Prop:=l[l.length-1]?≠some 0
theorem zv4(l:List Nat)(n:Nat)(hn:n<=l.length):top l n=0\/l[top l n-1]?≠some 0:=by
 induction n with
 | zero=>simp[top]
 | succ n ih=>
  unfold top;split
  ·exact ih (by omega)
  ·next h=>exact .inr (by simpa using h)
theorem znN(l:List Nat):(norm l).length=top l l.length:=by have:=zg8 l l.length;simp[norm];omega
theorem zdc(l:List Nat):Nrm (norm l):=by
 have hle:=zg8 l l.length;unfold Nrm;rw[znN];rcases zv4 l l.length (zR _)with h | h
 ·have:norm l=[]:=by rw[norm,h];rfl
  rw[this];simp
 ·by_cases h0:top l l.length=0
  ·have:norm l=[]:=by rw[norm,h0];rfl
   rw[this];simp
  ·rw[norm,zBR];rw[zBu (by omega)];exact h
theorem znn(l:List Nat):(norm l).length<=l.length:=by rw[znN];exact zg8 l l.length
theorem zhJ{l:List Nat}(h:U32 l):U32 (norm l):=fun x hx=>h x (List.mem_of_mem_take hx)
theorem zw1(l:List Nat)(n i:Nat)(h1:top l n<=i)(h2:i<n):l[i]?=some 0:=by
 induction n with
 | zero=>omega
 | succ n ih=>
  unfold top at h1;split at h1
  ·next h=>
   rcases zBD i n with h3 | h3
   ·exact ih h1 h3
   ·have:i=n:=by omega
    rw[this];exact h
  ·omega
theorem zsL(l:List Nat)(t:Nat)(h : ∀ i,t<=i->i<l.length->l[i]?=some 0):xQ (l.take t)=xQ l:=by
 induction l generalizing t with
 | nil=>simp
 | cons x r ih=>
  cases t with
  | zero=>have h0:=h 0 (by omega) (by simp);have hr:=ih 0 (fun i hi hl=>by have:=h (i+1) (by omega) (by simp;omega);simpa using this);simp at h0 hr ⊢;simp[xQ,h0,<- hr]
  | succ t=>have hr:=ih t (fun i hi hl=>by have:=h (i+1) (by omega) (by simp;omega);simpa using this);simp[xQ,hr]
theorem zdT(l:List Nat):xQ (norm l)=xQ l:=zsL l _ (fun i h1 h2=>zw1 l _ i h1 h2)
theorem ztJ(l:List Nat)(h:xQ l=0) : ∀ x∈l,x=0:=by
 induction l with
 | nil=>simp
 | cons x r ih=>
  simp only[xQ,B32]at h;intro y hy;rcases List.mem_cons.1 hy with rfl | hy
  ·omega
  ·exact ih (by omega) y hy
theorem zlV{l:List Nat}(h:Nrm l)(h0:xQ l=0):l=[]:=by
 by_cases hl:l=[]
 ·exact hl
 ·exfalso;have hlen:l.length-1<l.length:=by cases l<;>simp_all
  apply h;rw[zL hlen];rw[ztJ l h0 _ (zCg hlen)]
theorem zr8(l:List Nat)(h:U32 l):xQ l<10^(10*l.length):=by
 induction l with
 | nil=>simp[xQ]
 | cons x r ih=>
  have h1:=ih (fun y hy=>h y (by simp[hy]));have h2:=h x (by simp);have hB:B32<=10^10:=by decide
  simp only[xQ,zBG,Nat.mul_add,Nat.mul_one,Nat.pow_add]
  calc x+B32*xQ r<B32+B32*xQ r:=by omega
   _=B32*(xQ r+1):=by rw[Nat.mul_add];omega
   _<=10^10*10^(10*r.length):=Nat.mul_le_mul hB h1
   _=_:=Nat.mul_comm _ _
theorem zsz(n:Nat)(q:List V)(x y:V):(List.replicate (n+1) x++q).set n y=List.replicate n x++y::q:=by rw[List.replicate_succ',zBN,List.set_append_right _ _ (by simp)];simp
end
section
def dec8:Str->Option (List Nat)
 | []=>some []
 | 195::169::r=>(dec8 r).map (233 :: ·)
 | b::r=>if b.toNat<128 then(dec8 r).map (b.toNat :: ·)else none
def Nm.ok(n:Nm):Prop:=(n.m=[]/\n.neg=false/\n.e=0)\/(n.m≠[]/\U32 n.m/\n.m.length<=90/\Nrm n.m /\ -1200<=n.e/\n.e<=1200/\(small 10 n.m).2≠0)
abbrev lt(a b:Str):Bool:=Op.bytesLess a b
theorem lt_irrefl(a:Str):lt a a=false:=by
 induction a with
 | nil=>rfl
 | cons x r ih=>simp[lt,Op.bytesLess]at *;exact ih
theorem lt_trans : ∀ {a b c:Str},lt a b=true->lt b c=true->lt a c=true
 | _,[],_,h,_=>by simp[lt,Op.bytesLess]at h
 | _,_::_,[],_,h=>by simp[lt,Op.bytesLess]at h
 | [],_::_,_::_,_,_=>by simp[lt,Op.bytesLess]
 | x::a,y::b,z::c,h,k=>by
  simp only[lt,Op.bytesLess,zCc,zG,zCb,beq_iff_eq]at h k ⊢;rcases h with h | ⟨rfl,h⟩
  ·rcases k with k | ⟨rfl,k⟩
   ·exact .inl (UInt8.lt_trans h k)
   ·exact .inl h
  ·rcases k with k | ⟨rfl,k⟩
   ·exact .inl k
   ·exact .inr ⟨rfl,lt_trans h k⟩
theorem zdC : ∀ {a b:Str},a≠b->lt a b=false->lt b a=true
 | [],[],h,_=>(h rfl).elim
 | [],_::_,_,h=>by simp[lt,Op.bytesLess]at h
 | _::_,[],_,_=>by simp[lt,Op.bytesLess]
 | x::a,y::b,h,k=>by
  simp only[lt,Op.bytesLess,Bool.or_eq_false_iff,Bool.and_eq_false_iff,decide_eq_false_iff_not,beq_eq_false_iff_ne,zCc,zG,zCb,beq_iff_eq]at k ⊢;by_cases hxy:x=y
  ·subst hxy;right;refine⟨rfl,zdC (fun e=>h (by rw[e])) ?_⟩;exact k.2.resolve_left (fun e=>e rfl)
  ·left;rcases UInt8.lt_or_eq_of_le (UInt8.not_lt.1 k.1)with h1 | h1
   ·exact h1
   ·exact(hxy h1.symm).elim
theorem zdl{a b:Str}(h:lt a b=true):lt b a=false:=by
 cases hb:lt b a with
 | false=>rfl
 | true=>have:=lt_trans h hb;rw[lt_irrefl]at this;contradiction
def pos(s:Str):List Str->Option Nat
 | []=>none
 | x::r=>if x=s then some 0 else(pos s r).map (· + 1)
theorem zp5{s:Str}{l:List Str}{i:Nat}(h:pos s l=some i):i<l.length:=by
 induction l generalizing i with
 | nil=>simp[pos]at h
 | cons x r ih=>
  simp only[pos]at h;split at h
  ·injection h with h;subst h;simp
  ·rw[zB]at h;obtain⟨j,hj,rfl⟩:=h;have:=ih hj;simp;omega
abbrev AL:=List (Str×Tree)
def lk(n:Str):AL->Option Tree
 | []=>none
 | (k,v)::r=>if k=n then some v else lk n r
def names(l:AL):List Str:=l.map Prod.fst
def zx(l:AL):List Tree:=l.map Prod.snd
def vV(n:Str)(v:Tree):AL->AL
 | []=>[(n,v)]
 | (k,w)::r=>if k=n then(n,v)::r else if lt n k then(n,v)::(k,w)::r else(k,w)::vV n v r
def Vl(n:Str):AL->AL
 | []=>[]
 | (k,w)::r=>if k=n then r else(k,w)::Vl n r
def Srt:List Str->Prop
 | []=>True
 | x::r=>(∀ y∈r,lt x y=true)/\Srt r
def QF(l:AL):Prop:=Srt (names l)
theorem VN{k:Str}{v:Tree}{r:AL}:QF ((k,v)::r)↔(∀ y∈names r,lt k y=true)/\QF r:=Iff.rfl
theorem J5{n:Str}{l:AL}:lk n l=none↔n ∉ names l:=by
 induction l with
 | nil=>simp[lk,names]
 | cons p r ih=>
  obtain⟨k,v⟩:=p;simp only[lk,names,List.map_cons,zS,not_or];split
  ·next h=>subst h;simp
  ·next h=>rw[ih];exact⟨fun h2=>⟨fun e=>h e.symm,h2⟩,fun h2=>h2.2⟩
theorem zvq{n:Str}{l:AL}{v:Tree}(h:lk n l=some v):(n,v)∈l:=by
 induction l with
 | nil=>simp[lk]at h
 | cons p r ih=>
  obtain⟨k,w⟩:=p;simp only[lk]at h;split at h
  ·next e=>subst e;injection h with h;subst h;simp
  ·exact zP _ (ih h)
theorem zaD(n:Str)(v:Tree)(l:AL) : ∀ y∈names (vV n v l),y=n\/y∈names l:=by
 induction l with
 | nil=>intro y hy;simp[vV,names]at hy;exact .inl hy
 | cons p r ih=>
  obtain⟨k,w⟩:=p;intro y hy;simp only[vV]at hy;split at hy
  ·simp only[names,List.map_cons,zS]at hy ⊢;rcases hy with h | h
   ·exact .inl h
   ·exact .inr (.inr h)
  ·split at hy
   ·simp only[names,List.map_cons,zS]at hy ⊢;rcases hy with h | h | h
    ·exact .inl h
    ·exact .inr (.inl h)
    ·exact .inr (.inr h)
   ·simp only[names,List.map_cons,zS]at hy ⊢;rcases hy with h | h
    ·exact .inr (.inl h)
    ·exact(ih y h).imp id .inr
theorem zm8{n:Str}{v:Tree}{l:AL}(h:QF l):QF (vV n v l):=by
 induction l with
 | nil=>exact⟨fun y hy=>by simp at hy,trivial⟩
 | cons p r ih=>
  obtain⟨k,w⟩:=p;obtain⟨h1,h2⟩:=VN.1 h;simp only[vV];split
  ·next e=>subst e;exact⟨h1,h2⟩
  ·next hne=>
   split
   ·next hlt=>
    refine⟨fun y hy => ?_,h1,h2⟩;have hy:y∈k::names r:=hy;rcases List.mem_cons.1 hy with e | hy
    ·rw[e];exact hlt
    ·exact lt_trans hlt (h1 y hy)
   ·next hlt=>
    refine⟨fun y hy => ?_,ih h2⟩;rcases zaD n v r y hy with rfl | hy
    ·exact zdC (fun e=>hne e.symm) (by simpa using hlt)
    ·exact h1 y hy
theorem zjR(n:Str)(l:AL) : ∀ y∈names (Vl n l),y∈names l:=by
 induction l with
 | nil=>intro y hy;exact hy
 | cons p r ih=>
  obtain⟨k,w⟩:=p;intro y hy;simp only[Vl]at hy;split at hy
  ·exact zP _ hy
  ·rcases List.mem_cons.1 hy with rfl | hy
   ·exact zBY
   ·exact zP _ (ih y hy)
theorem zyd{n:Str}{l:AL}(h:QF l):QF (Vl n l):=by
 induction l with
 | nil=>exact h
 | cons p r ih=>
  obtain⟨k,w⟩:=p;obtain⟨h1,h2⟩:=VN.1 h;simp only[Vl];split
  ·exact h2
  ·exact⟨fun y hy=>h1 y (zjR n r y hy),ih h2⟩
theorem zsy(n:Str)(v:Tree)(l:AL):(vV n v l).length<=l.length+1:=by
 induction l with
 | nil=>simp[vV]
 | cons p r ih=>
  obtain⟨k,w⟩:=p;simp only[vV];split
  ·simp
  ·split
   ·simp
   ·simp;omega
theorem zmp{n:Str}{v:Tree}{l:AL}{q:Str×Tree}(h:q∈vV n v l):q=(n,v)\/q∈l:=by
 induction l with
 | nil=>simp[vV]at h;exact .inl h
 | cons p r ih=>
  obtain⟨k,w⟩:=p;simp only[vV]at h;split at h
  ·rcases List.mem_cons.1 h with h | h
   ·exact .inl h
   ·exact .inr (zP _ h)
  ·split at h
   ·rcases List.mem_cons.1 h with h | h
    ·exact .inl h
    ·exact .inr h
   ·rcases List.mem_cons.1 h with h | h
    ·exact .inr (by rw[h];exact zBY)
    ·exact(ih h).imp id (zP _)
theorem zx4{n:Str}{l:AL}{q:Str×Tree}(h:q∈Vl n l):q∈l:=by
 induction l with
 | nil=>exact h
 | cons p r ih=>
  obtain⟨k,w⟩:=p;simp only[Vl]at h;split at h
  ·exact zP _ h
  ·rcases List.mem_cons.1 h with h | h
   ·rw[h];exact zBY
   ·exact zP _ (ih h)
def obj(l:AL):Tree := .mk 7 false .zero [] (names l) (zx l)
def null:Tree := .mk 1 false .zero [] [] []
theorem je(l:AL):(names l).length=l.length:=by simp[names]
theorem v7(l:AL):(zx l).length=l.length:=by simp[zx]
def al(t:Tree):AL:=if t.kind=7 then t.k.zip t.v else[]
theorem zzu(l:AL):(names l).zip (zx l)=l:=by
 induction l with
 | nil=>rfl
 | cons p r ih=>show(p.1,p.2)::(names r).zip (zx r)=_;rw[ih]
theorem zbv(l:AL):al (obj l)=l:=by show(if(7:Int)=7 then(names l).zip (zx l)else[])=l;rw[zBu rfl];exact zzu l
theorem Y0{t:Tree}(h:t.kind≠7):al t=[]:=zBt h
end
section
inductive OkT:Tree->Prop
 | null:OkT null
 | bool (b:Bool):OkT (.mk 2 b .zero [] [] [])
 | num (n:Nm) (h:n.ok):OkT (.mk 3 false n [] [] [])
 | text (s:Str) (h:(dec8 s).isSome=true) (hl:s.length<=2000):OkT (.mk 4 false .zero s [] [])
 | bytes (s:Str) (hl:s.length<=2000):OkT (.mk 5 false .zero s [] [])
 | arr (v:List Tree) (hl:v.length<=300) (hv : ∀ x,x∈v->OkT x):OkT (.mk 6 false .zero [] [] v)
 | obj (l:AL) (hs:QF l) (hl:l.length<=300) (hn : ∀ x,x∈names l->(dec8 x).isSome=true/\x.length<=2000) (hv : ∀ q,q∈l->OkT q.2):OkT (obj l)
mutual
def mrg:Tree->Tree->Tree
 | t,.mk kind b n s k v=>if kind=7 then obj (mrgA (al t) k v)else .mk kind b n s k v
def mrgA:AL->List Str->List Tree->AL
 | u,ks,[]=>u
 | u,[],_::_=>u
 | u,k::ks,v::vs=>mrgA (if v.kind=1 then Vl k u else vV k (mrg ((lk k u).getD null) v) u) ks vs
end
inductive SrtT:Tree->Prop
 | mk (t:Tree) (h:QF (al t)) (hv : ∀ q,q∈al t->SrtT q.2):SrtT t
theorem SrtT.no{t:Tree}(h:t.kind≠7):SrtT t := .mk t (by rw[Y0 h];trivial) (fun q hq=>by rw[Y0 h]at hq;simp at hq)
theorem SrtT.null:SrtT null := .no (by simp[Tree.kind,Ev.null])
theorem OkT.srt{t:Tree}(h:OkT t):SrtT t:=by
 induction h with
 | obj l hs hl hn hv ih=>exact .mk _ (by rw[zbv];exact hs) (fun q hq=>by rw[zbv]at hq;exact ih q hq)
 | _=>exact .no (by simp[Tree.kind,Ev.null])
theorem SrtT.lk{t:Tree}(h:SrtT t)(m:Str):SrtT ((lk m (al t)).getD Ev.null):=by
 cases h with
 | mk _ h hv=>
  cases hx:Ev.lk m (al t)with
  | none=>exact .null
  | some x=>exact hv _ (zvq hx)
mutual
def cln:Tree->Bool
 | .mk kind _ _ _ _ v=>if kind=7 then clnL v else true
def clnL:List Tree->Bool
 | []=>true
 | x::r=>if x.kind=1 then false else if cln x then clnL r else false
end
inductive Bnd(c:Nat):Nat->Tree->Prop
 | mk (d:Nat) (t:Tree) (hl:t.v.length<=c) (hv : ∀ x,x∈t.v->Bnd c d x):Bnd c (d+1) t
theorem Bnd.mono{c c' d:Nat}(h:c<=c'){t:Tree}(ht:Bnd c d t):Bnd c' d t:=by
 induction ht with
 | mk d t hl hv ih=>exact .mk d t (zBK hl h) ih
theorem Bnd.null(c d:Nat):Bnd c (d+1) null := .mk d _ (Nat.zero_le _) (fun x hx=>by simp[Ev.null,Tree.v]at hx)
theorem zwl(l:AL):(obj l).v=zx l:=rfl
theorem zBn{t:Tree}{q:Str×Tree}(h:q∈al t):q.2∈t.v:=by
 unfold al at h;split at h
 ·obtain⟨k,v⟩:=q;exact(List.of_mem_zip h).2
 ·simp at h
theorem zgR(t:Tree):(al t).length<=t.v.length:=by
 unfold al;split
 ·rw[List.length_zip];exact Nat.min_le_right _ _
 ·simp
mutual
def xT:Tree->Nat
 | .mk _ _ _ _ _ v=>1+nodesL v
def nodesL:List Tree->Nat
 | []=>0
 | x::r=>xT x+nodesL r
end
theorem wV(t:Tree):xT t=1+nodesL t.v:=by cases t;rw[xT];rfl
def nb(c:Nat):Nat->Nat
 | 0=>0
 | d+1=>1+c*nb c d
theorem zex{c d:Nat}{t:Tree}(h:Bnd c d t):xT t<=nb c d:=by
 induction h with
 | mk d t hl hv ih=>
  rw[wV];have : ∀ l:List Tree,(∀ x,x∈l->xT x<=nb c d)->nodesL l<=l.length*nb c d:=by
   intro l;induction l with
   | nil=>intro _;simp[nodesL]
   | cons x r ih2=>intro hh;have h1:=hh x zBY;have h2:=ih2 (fun y hy=>hh y (zP _ hy));simp only[nodesL,zBG,zBW,Nat.one_mul];omega
  have h1:=this t.v ih;have h2:t.v.length*nb c d<=c*nb c d:=zW _ hl;simp only[nb];omega
end
section
theorem zvs{P:Program}{n:Nat}{t:TypeId}{k:IntKind}{xs:List V}(hu:P.underlying t=some (.int k))(h:Ty P n t xs) : ∃ z,(Lit.int k z).wf=true/\mkV P t xs = .int k z:=by
 cases n with
 | zero=>exact h.elim
 | succ n=>unfold Ty at h;rw[hu]at h;obtain⟨z,hz,rfl⟩:=h;refine⟨z,hz,?_⟩;unfold mkV Z8;rw[hu];rfl
end
section
def zo2:Nat->Nat->List Nat
 | 0,_=>[]
 | f+1,n=>if n=0 then[]else n%B32::zo2 f (n/B32)
def toL(n:Nat):List Nat:=zo2 n n
theorem zup(f:Nat) : ∀ g n,n<=f->n<=g->zo2 f n=zo2 g n:=by
 induction f with
 | zero=>
   intro g n h1 h2;have:n=0:=by omega
   subst this;cases g<;>simp[zo2]
 | succ f ih=>
  intro g n h1 h2;cases g with
  | zero=>
    have:n=0:=by omega
    subst this;simp[zo2]
  | succ g=>
   simp only[zo2];by_cases h:n=0
   ·simp[h]
   ·rw[zBt h,zBt h];have:n/B32<n:=Nat.div_lt_self (by omega) (by decide);rw[ih g (n/B32) (by omega) (by omega)]
theorem zjc:toL 0=[]:=rfl
theorem zg9(n:Nat)(h:n≠0):toL n=n%B32::toL (n/B32):=by
 unfold toL;cases n with
 | zero=>exact(h rfl).elim
 | succ n=>rw[zo2,zBt h];have:(n+1)/B32<n+1:=Nat.div_lt_self (by omega) (by decide);rw[zup n ((n+1)/B32) _ (by omega) (zR _)]
theorem znk(n:Nat):U32 (toL n):=by
 induction n using Nat.strongRecOn with
 | _ n ih=>
  by_cases h:n=0
  ·subst h;intro x hx;simp[zjc]at hx
  ·rw[zg9 n h];intro x hx;rcases List.mem_cons.1 hx with rfl | hx
   ·exact zBZ _ (by decide)
   ·exact ih (n/B32) (Nat.div_lt_self (by omega) (by decide)) x hx
theorem Kw(n:Nat):xQ (toL n)=n:=by
 induction n using Nat.strongRecOn with
 | _ n ih=>
  by_cases h:n=0
  ·subst h;rfl
  ·rw[zg9 n h,xQ,ih _ (Nat.div_lt_self (by omega) (by decide))];exact Nat.mod_add_div n B32
theorem zyA{n:Nat}:toL n=[]↔n=0:=by
 constructor
 ·intro h;have:=Kw n;rw[h]at this;exact this.symm
 ·rintro rfl;rfl
theorem zvX{x:Nat}{r:List Nat}(h:Nrm (x::r)):Nrm r:=by
 cases r with
 | nil=>simp[Nrm]
 | cons y s=>simpa[Nrm]using h
theorem zxs(l:List Nat)(h:Nrm l)(hu:U32 l):l=toL (xQ l):=by
 induction l with
 | nil=>rfl
 | cons x r ih=>
  have hx:x<B32:=hu x (by simp);have hr:=ih (zvX h) (fun y hy=>hu y (by simp[hy]));have h0:xQ (x::r)≠0:=by intro h0;have:=zlV h h0;simp at this
  have hd:(x+B32*xQ r)/B32=xQ r:=by rw[Nat.add_mul_div_left _ _ (by decide),Nat.div_eq_of_lt hx,zBE]
  have hm:(x+B32*xQ r)%B32=x:=by rw[Nat.add_mul_mod_self_left,Nat.mod_eq_of_lt hx]
  rw[zg9 _ h0];simp only[xQ];rw[hd,hm,<- hr]
theorem zoi{l:List Nat}(hu:U32 l):norm l=toL (xQ l):=by rw[zxs (norm l) (zdc l) (zhJ hu),zdT]
theorem zxy(n:Nat):Nrm (toL n):=by have h:=zoi (znk n);rw[Kw]at h;rw[<- h];exact zdc _
theorem zpX(a b:List Nat):xQ (a++b)=xQ a+B32^a.length*xQ b:=by
 induction a with
 | nil=>simp[xQ]
 | cons x r ih=>simp only[List.cons_append,xQ,ih,zBG,Nat.pow_succ,Nat.mul_add];rw[Nat.mul_comm (B32^r.length) B32,Nat.mul_assoc];omega
theorem zoO(l:List Nat)(h:U32 l):xQ l<B32^l.length:=by
 induction l with
 | nil=>simp[xQ]
 | cons x r ih=>
  have h1:=ih (fun y hy=>h y (by simp[hy]));have h2:=h x (by simp);simp only[xQ,zBG,Nat.pow_succ]
  calc x+B32*xQ r<B32*(xQ r+1):=by rw[Nat.mul_add];omega
   _<=B32*B32^r.length:=Nat.mul_le_mul_left _ h1
   _=_:=Nat.mul_comm _ _
theorem zr9{n k:Nat}(h:n<B32^k):(toL n).length<=k:=by
 rcases zBD k (toL n).length with h1 | h1
 ·exfalso;have hl:(toL n).length-1<(toL n).length:=by omega
  have hne:(toL n)[(toL n).length-1]≠0:=by intro h0;apply zxy n;rw[zL hl,h0]
  have:xQ ((toL n).take ((toL n).length-1)++(toL n).drop ((toL n).length-1))=n:=by rw[List.take_append_drop];exact Kw n
  rw[zpX,zO hl]at this;simp only[xQ,zBI]at this;have h2:B32^k<=B32^((toL n).length-1):=Nat.pow_le_pow_right (by decide) (by omega);have h3:B32^((toL n).length-1)*1<=B32^((toL n).length-1)*(toL n)[(toL n).length-1]:=Nat.mul_le_mul_left _ (by omega);rw[Nat.min_eq_left (by omega),Nat.mul_add]at this;omega
 ·exact h1
def lat(l:List Nat)(i:Nat):Nat:=l[i]?.getD 0
end
section
theorem zkm{α:Type}(xs ys:List α)(h:xs.length=ys.length):wG xs 0 ys=ys:=by unfold wG;simp[h]
end
section
def Kb:Nat->Nat->Nat×Nat
 | 0,n=>(n,0)
 | f+1,n=>if n≠0/\n%10=0 then((Kb f (n/10)).1,(Kb f (n/10)).2+1)else(n,0)
theorem zrm(f:Nat) : ∀ g n,n<10^f->n<10^g->Kb f n=Kb g n:=by
 induction f with
 | zero=>
  intro g n h1 h2;have:n=0:=by simpa using h1
  subst this;cases g<;>simp[Kb]
 | succ f ih=>
  intro g n h1 h2;cases g with
  | zero=>
   have:n=0:=by simpa using h2
   subst this;simp[Kb]
  | succ g=>
   simp only[Kb];by_cases h:n≠0/\n%10=0
   ·rw[zBu h,zBu h];rw[ih g (n/10) (by rw[Nat.div_lt_iff_lt_mul (by decide)];rw[Nat.pow_succ]at h1;exact h1) (by rw[Nat.div_lt_iff_lt_mul (by decide)];rw[Nat.pow_succ]at h2;exact h2)]
   ·rw[zBt h,zBt h]
def Qa(n:Nat):Nat×Nat:=Kb n n
theorem VW(n:Nat):n<10^n:=Nat.lt_pow_self (by decide)
theorem zmx(n f:Nat)(h:n<10^f):Qa n=Kb f n:=zrm n f n (VW n) h
theorem zli{n:Nat}(h:n≠0)(h2:n%10=0):Qa n=((Qa (n/10)).1,(Qa (n/10)).2+1):=by have h3:n/10<10^n:=Nat.lt_of_le_of_lt (Nat.div_le_self _ _) (VW n);rw[zmx n (n+1) (Nat.lt_trans (VW n) (Nat.pow_lt_pow_succ (by decide))),Kb,zBu ⟨h,h2⟩,zmx (n/10) n h3]
theorem zkq{n:Nat}(h:n=0\/n%10≠0):Qa n=(n,0):=by
 rw[zmx n (n+1) (Nat.lt_trans (VW n) (Nat.pow_lt_pow_succ (by decide))),Kb,zBt];rintro⟨h1,h2⟩;rcases h with h | h
 ·exact h1 h
 ·exact h h2
theorem zkN:Qa 0=(0,0):=rfl
def mk(neg:Bool)(n:Nat)(e:Int):Nm×Bool:=
 if n=0 then(.zero,true)
 else if 90<(toL (Qa n).1).length\/e+(Qa n).2 < -1200\/1200<e+(Qa n).2 then(.zero,false)
 else(⟨neg,toL (Qa n).1,e+(Qa n).2⟩,true)
end
section
def dig:Nat->Str->Option Nat
 | n,[]=>some n
 | n,b::r=>if b.toNat<48\/57<b.toNat then none else dig (10*n+(b.toNat-48)) r
def zgj(s:Str):Option Nat:=if s=[]\/4<s.length\/(s.headD 0=48/\1<s.length)then none else dig 0 s
def qH(s:Str)(most:Int):Option Nat:=(zgj s).bind fun n=>if(n:Int)<=most then some n else none
theorem zrU{s:Str}{most:Int}{n:Nat}(h:qH s most=some n):(n:Int)<=most:=by
 unfold qH at h;rw[zA]at h;obtain⟨m,_,h⟩:=h;split at h
 ·injection h with h;subst h;assumption
 ·contradiction
theorem zub{s:Str}{a b:Int}{n:Nat}(h:qH s a=some n)(hb:(n:Int)<=b):qH s b=some n:=by
 unfold qH at h ⊢;rw[zA]at h ⊢;obtain⟨m,h1,h⟩:=h;split at h
 ·injection h with h;subst h;exact⟨_,h1,zBu hb⟩
 ·contradiction
def child(t:Tree)(s:Str):Option Tree:=if t.kind=6 then(qH s ((t.v.length:Int)-1)).bind fun i=>t.v[i]? else lk s (al t)
def xy:Tree->List Str->Option Tree
 | t,[]=>some t
 | t,s::r=>(child t s).bind fun x=>xy x r
def ztt(t:Tree)(v:List Tree):Tree := .mk t.kind t.b t.n t.s t.k v
def zhU(t:Tree)(s:Str)(y:Tree):Tree:=if t.kind=7 then obj (vV s y (al t))else ztt t (t.v.set ((qH s ((t.v.length:Int)-1)).getD 0) y)
def Y6:Tree->List Str->Tree->Option Tree
 | _,[],v=>some v
 | t,s::r,v=>(child t s).bind fun x=>(Y6 x r v).map fun y=>zhU t s y
theorem zpU(t:Tree)(p q:List Str):xy t (p++q)=(xy t p).bind fun x=>xy x q:=by
 induction p generalizing t with
 | nil=>rfl
 | cons s r ih=>
  show(child t s).bind (fun x=>xy x (r++q))=((child t s).bind fun x=>xy x r).bind fun x=>xy x q
  cases child t s with
  | none=>rfl
  | some x=>exact ih x
theorem ztp{t:Tree}{p:List Str}{v:Tree}:(Y6 t p v).isSome=(xy t p).isSome:=by
 induction p generalizing t with
 | nil=>rfl
 | cons s r ih=>
  show(Option.bind (child t s) fun x=>(Y6 x r v).map fun y=>zhU t s y).isSome=((child t s).bind fun x=>xy x r).isSome;cases child t s with
  | none=>rfl
  | some x=>simp only[zD,Option.isSome_map];exact ih
def Z0(o:Option Tree):V:=match o with
 | some x => .tup [x.val,.bool true]
 | none => .tup [Tree.zero.val,.bool false]
end
end Go.Ev
