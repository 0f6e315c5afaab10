/- Values and plain facts that the specifications lean on. -/
import Derived.Test.YtnefgdahdccldaaDoorKEvE
import Derived.IntWalk
import Derived.Laws.BitsAllLaws
import Derived.Laws.BitsLemmas
set_option linter.all false
open Option renaming bind_eq_some_iff→zA,map_eq_some_iff→zB,bind_some→zD
open Bool renaming and_eq_true→zG
open List renaming getElem?_eq_getElem→zL,drop_eq_getElem_cons→zO,mem_cons_of_mem→zP,mem_cons→zS
open Nat renaming le_refl→zR,mul_le_mul_right→zW
open Int renaming natCast_nonneg→zY
section
namespace Go.Ev
abbrev Str:=List UInt8
structure Nm where
 neg:Bool
 m:List Nat
 e:Int
inductive Tree where
 | mk (kind:Int) (b:Bool) (n:Nm) (s:Str) (k:List Str) (v:List Tree)
def strs(l:List Str):List V:=l.map .str
def yx(l:List Nat):List V:=l.map fun(x:Nat)=>V.int .u32 (x:Int)
def ints(l:List Int):List V:=l.map (.int .i64)
def Nm.val(n:Nm):V := .agg [.bool n.neg,.sl (yx n.m),.int .i64 n.e]
mutual
def Tree.val:Tree→V
 | .mk kind b n s k v => .agg [.int .i64 kind,.bool b,.bool n.neg,.sl (yx n.m),.int .i64 n.e,.str s,.sl (strs k),.sl (vals v)]
def vals:List Tree→List V
 | []=>[]
 | t::r=>t.val::vals r
end
theorem zoc(l:List Tree):vals l=l.map Tree.val:=by induction l<;>simp_all [vals]
def trs(l:List Tree):List V:=l.map Tree.val
def Tree.kind:Tree→Int | .mk k _ _ _ _ _=>k
def Tree.b:Tree→Bool | .mk _ b _ _ _ _=>b
def Tree.n:Tree→Nm | .mk _ _ n _ _ _=>n
def Tree.s:Tree→Str | .mk _ _ _ s _ _=>s
def Tree.k:Tree→List Str | .mk _ _ _ _ k _=>k
def Tree.v:Tree→List Tree | .mk _ _ _ _ _ v=>v
theorem Tree.val_eq(t:Tree):t.val = .agg [.int .i64 t.kind,.bool t.b,.bool t.n.neg,.sl (yx t.n.m),.int .i64 t.n.e,.str t.s,.sl (strs t.k),.sl (trs t.v)]:=by
 cases t;simp[Tree.val,zoc,trs,kind,b,n,s,k,v]
def Nm.zero:Nm:=⟨false,[],0⟩
def Tree.zero:Tree := .mk 0 false .zero [] [] []
/- no 'rfl' here: simp is to lay down each step, so that the kernel need not run what follows -/
theorem za{α β:Type}(a:α)(f:α→Option β):(some a).bind f=f a:=by rw[zD]
theorem zi{ρ:Type}(k:Option ρ):tst true k=k:=by unfold tst;split<;>simp_all
/- simp looks at the head alone: what follows waits until its turn (tick: a premise that simp always turns, so that the law is always taken) -/
def tick:Prop:=True
@[simp] theorem zb:tick=True:=propext ⟨fun _=>trivial,fun _=>trivial⟩
@[congr] theorem bind_head{α β:Type}{x y:Option α}{f:α→Option β}{p:Prop}(_:tick=p)(h:x=y):x.bind f=y.bind f:=by rw[h]
@[congr] theorem tst_head{ρ:Type}{b c:Bool}{k:Option ρ}{p:Prop}(_:tick=p)(h:b=c):tst b k=tst c k:=by rw[h]
@[congr] theorem ite_head{α:Sort _}{c d:Prop}{s:Decidable c}[Decidable d]{a b:α}{p:Prop}(_:tick=p)(h:c=d):ite c a b=ite d a b:=by subst h;congr
def Yes{α:Type}(x:Option α)(r:α):Prop:=x=some r
@[simp] theorem Yes_some{α:Type}(a b:α):Yes (some a) b↔a=b:=by simp[Yes]
theorem yes{α:Type}{x:Option α}{r:α}(h:Yes x r):x=some r:=h
theorem zc(b:Bool):asBool (.bool b)=some b:=rfl
theorem zo0(s:Str):zar (.str s)=some s:=rfl
theorem Z6(k:IntKind)(n:Int):okN 1 (.int k n)=true:=rfl
theorem zoa(b:Bool):okN 1 (.bool b)=true:=rfl
theorem Jk(s:Str):okN 1 (.str s)=true:=rfl
theorem zfd(l:List V):okN 1 (.sl l)=true:=rfl
theorem zoE(n:Nm):okN 3 n.val=true:=rfl
theorem zoV(a b c:V):okN 3 (.agg [a,b,c])=(a.one && (b.one && (c.one && true))):=rfl
theorem zqx(a b c d e f g h:V):okN 8 (.agg [a,b,c,d,e,f,g,h])=(a.one && (b.one && (c.one && (d.one && (e.one && (f.one && (g.one && (h.one && true)))))))):=rfl
theorem zpU(k:IntKind)(n:Int):(V.int k n).one=true:=rfl
theorem znv(b:Bool):(V.bool b).one=true:=rfl
theorem zpk(s:Str):(V.str s).one=true:=rfl
theorem zq8(l:List V):(V.sl l).one=true:=rfl
theorem zd(t:Tree):okN 8 t.val=true:=by rw[t.val_eq];rfl
theorem zbV(l:List Tree):yu 8 (trs l)=true:=by
 induction l with
 | nil=>rfl
 | cons t r ih=>show yu 8 (t.val::trs r)=true;simp[yu,zd,ih]
theorem JZ(l:List Str):yu 1 (strs l)=true:=by
 induction l with
 | nil=>rfl
 | cons t r ih=>show yu 1 (.str t::strs r)=true;simp[yu,Jk,ih]
theorem zct(l:List Nat):yu 1 (yx l)=true:=by
 induction l with
 | nil=>rfl
 | cons t r ih=>show yu 1 (.int .u32 t::yx r)=true;simp[yu,Z6,ih]
theorem zel(l:List Int):yu 1 (ints l)=true:=by
 induction l with
 | nil=>rfl
 | cons t r ih=>show yu 1 (.int .i64 t::ints r)=true;simp[yu,Z6,ih]
theorem wr(l:List Tree):xy 8 (.sl (trs l))=some (trs l):=by unfold xy;simp only[zbV]
theorem yP(l:List Str):xy 1 (.sl (strs l))=some (strs l):=by unfold xy;simp only[JZ]
theorem j2(l:List Nat):xy 1 (.sl (yx l))=some (yx l):=by unfold xy;simp only[zct]
theorem Y0(l:List Int):xy 1 (.sl (ints l))=some (ints l):=by unfold xy;simp only[zel]
theorem zmZ(n:Nat):xy n (.sl [])=some []:=rfl
theorem YL(l:List Tree):zbR 8 (.sl (trs l))=some (trs l):=wr l
theorem zeZ(l:List Str):zbR 1 (.sl (strs l))=some (strs l):=yP l
theorem zbc(l:List Nat):zbR 1 (.sl (yx l))=some (yx l):=j2 l
theorem zkN(l:List Int):zbR 1 (.sl (ints l))=some (ints l):=Y0 l
theorem zj6(n:Nm):zh n.val 0=some (.bool n.neg):=rfl
theorem zjW(n:Nm):zh n.val 1=some (.sl (yx n.m)):=rfl
theorem zkt(n:Nm):zh n.val 2=some (.int .i64 n.e):=rfl
theorem jl(t:Tree):zh t.val 0=some (.int .i64 t.kind):=by rw[t.val_eq];rfl
theorem zb5(t:Tree):zh t.val 1=some (.bool t.b):=by rw[t.val_eq];rfl
theorem zdN(t:Tree):zh t.val 2=some (.bool t.n.neg):=by rw[t.val_eq];rfl
theorem zob(t:Tree):zh t.val 3=some (.sl (yx t.n.m)):=by rw[t.val_eq];rfl
theorem zqX(t:Tree):zh t.val 4=some (.int .i64 t.n.e):=by rw[t.val_eq];rfl
theorem Qd(t:Tree):zh t.val 5=some (.str t.s):=by rw[t.val_eq];rfl
theorem J8(t:Tree):zh t.val 6=some (.sl (strs t.k)):=by rw[t.val_eq];rfl
theorem vI(t:Tree):zh t.val 7=some (.sl (trs t.v)):=by rw[t.val_eq];rfl
theorem kh(l:List V)(i:Nat):zh (.agg l) i=l[i]?:=rfl
theorem xH(s:Str):zh (.str s) 0=some (.str s):=rfl
theorem qu(k:IntKind)(n:Int):zh (.int k n) 0=some (.int k n):=rfl
theorem zof(b:Bool):zh (.bool b) 0=some (.bool b):=rfl
theorem Yv(l:List V):zh (.sl l) 0=some (.sl l):=rfl
theorem zf(l:List V):yR (.sl l)=some l.length:=rfl
theorem wz(l:List V):V.elems (.sl l)=l:=rfl
theorem zl(l:List Str):(strs l).length=l.length:=by simp[strs]
theorem y0(l:List Nat):(yx l).length=l.length:=by simp[yx]
theorem Y3(l:List Int):(ints l).length=l.length:=by simp[ints]
theorem zo(l:List Tree):(trs l).length=l.length:=by simp[trs]
theorem xC(l:List Str)(i:Nat):(strs l)[i]?=l[i]?.map .str:=by simp[strs]
theorem YS(l:List Nat)(i:Nat):(yx l)[i]?=l[i]?.map (fun(x:Nat)=>V.int .u32 (x:Int)):=by simp[yx]
theorem QU(l:List Int)(i:Nat):(ints l)[i]?=l[i]?.map (.int .i64):=by simp[ints]
theorem qP(l:List Tree)(i:Nat):(trs l)[i]?=l[i]?.map Tree.val:=by simp[trs]
theorem zlk(l:List Str)(i:Nat)(h:i<(strs l).length):(strs l)[i] = .str (l[i]'(by simpa[strs]using h)):=by simp[strs]
theorem zjn(l:List Nat)(i:Nat)(h:i<(yx l).length):(yx l)[i] = .int .u32 ((l[i]'(by simpa[yx]using h):Nat):Int):=by simp[yx]
theorem zlz(l:List Int)(i:Nat)(h:i<(ints l).length):(ints l)[i] = .int .i64 (l[i]'(by simpa[ints]using h)):=by simp[ints]
theorem zm1(l:List Tree)(i:Nat)(h:i<(trs l).length):(trs l)[i]=(l[i]'(by simpa[trs]using h)).val:=by simp[trs]
theorem J7(l:List Str)(i:Nat):(strs l).drop i=strs (l.drop i):=by simp[strs,List.map_drop]
theorem zjp(l:List Nat)(i:Nat):(yx l).drop i=yx (l.drop i):=by simp[yx,List.map_drop]
theorem zmk(l:List Int)(i:Nat):(ints l).drop i=ints (l.drop i):=by simp[ints,List.map_drop]
theorem zcl(l:List Tree)(i:Nat):(trs l).drop i=trs (l.drop i):=by simp[trs,List.map_drop]
theorem Y1(l:List Str)(i:Nat):(strs l).take i=strs (l.take i):=by simp[strs,List.map_take]
theorem XZ(l:List Nat)(i:Nat):(yx l).take i=yx (l.take i):=by simp[yx,List.map_take]
theorem zmj(l:List Int)(i:Nat):(ints l).take i=ints (l.take i):=by simp[ints,List.map_take]
theorem QI(l:List Tree)(i:Nat):(trs l).take i=trs (l.take i):=by simp[trs,List.map_take]
theorem znD(l r:List Str):strs l++strs r=strs (l++r):=by simp[strs]
theorem zle(l r:List Nat):yx l++yx r=yx (l++r):=by simp[yx]
theorem zf8(l r:List Tree):trs l++trs r=trs (l++r):=by simp[trs]
theorem zoB(l:List Str)(i:Nat)(x:Str):(strs l).set i (.str x)=strs (l.set i x):=by simp[strs,List.map_set]
theorem zlr(l:List Nat)(i:Nat)(x:Nat):(yx l).set i (.int .u32 (x:Int))=yx (l.set i x):=by simp[yx,List.map_set]
theorem zfC(l:List Tree)(i:Nat)(x:Tree):(trs l).set i x.val=trs (l.set i x):=by simp[trs,List.map_set]
section
variable (k:IntKind) (a b:Int)
theorem xd:ze .eql (.int k a) (.int k b)=some (.bool (decide (a=b))):=by simp[ze,WX,Bool.beq_eq_decide_eq]
theorem KP:ze .neq (.int k a) (.int k b)=some (.bool (!decide (a=b))):=by
 simp only[ze,WX,Z8,decide_true,Bool.or_true,if_pos,bne];congr 2
theorem zy:ze .lss (.int k a) (.int k b)=some (.bool (decide (a<b))):=by simp[ze,WX]
theorem X8:ze .leq (.int k a) (.int k b)=some (.bool (decide (a≤b))):=by simp[ze,WX]
theorem kK:ze .gtr (.int k a) (.int k b)=some (.bool (decide (b<a))):=by simp[ze,WX]
theorem qi:ze .geq (.int k a) (.int k b)=some (.bool (decide (b≤a))):=by simp[ze,WX]
theorem wB:ze .add (.int k a) (.int k b)=some (.int k (k.wrap (a+b))):=by simp[ze,WX]
theorem W6:ze .sub (.int k a) (.int k b)=some (.int k (k.wrap (a - b))):=by simp[ze,WX]
theorem zp1:ze .mul (.int k a) (.int k b)=some (.int k (k.wrap (a * b))):=by simp[ze,WX]
theorem zrt(h:b≠0):ze .quo (.int k a) (.int k b)=some (.int k (k.wrap (a.tdiv b))):=by simp[ze,WX,h]
theorem zjV(h:b≠0):ze .rem (.int k a) (.int k b)=some (.int k (a.tmod b)):=by simp[ze,WX,h]
theorem zp2(k':IntKind)(h:0≤b):ze .shl (.int k a) (.int k' b)=some (.int k (k.wrap (a * 2 ^ Nat.min b.toNat k.bits))):=by
 have : ¬ b<0:=by omega
 simp[ze,WX,Z8,this]
theorem kn(k':IntKind):ZP k (.int k' a)=some (.int k (k.wrap a)):=rfl
theorem zrw:unV .neg (.int k a)=some (.int k (k.wrap (0 - a))):=rfl
end
theorem w64{a:Int}(h : -9223372036854775808≤a∧a≤9223372036854775807):IntKind.i64.wrap a=a:=IntWalk.i64_in a h
theorem zrN{a:Int}(h:0≤a∧a≤4294967295):IntKind.u32.wrap a=a:=IntWalk.u32_in a h
theorem zoI{a:Int}(h:0≤a∧a≤18446744073709551615):IntKind.u64.wrap a=a:=IntWalk.u64_in a h
theorem jJ(a b:Str):ze .eql (.str a) (.str b)=some (.bool (a == b)):=rfl
theorem zhZ(a b:Str):ze .neq (.str a) (.str b)=some (.bool (!(a == b))):=rfl
theorem zrV(a b:Str):ze .lss (.str a) (.str b)=some (.bool (Op.bytesLess a b)):=rfl
theorem zru(a b:Str):ze .leq (.str a) (.str b)=some (.bool (Op.bytesLess a b || a == b)):=rfl
theorem zp9(a b:Str):ze .gtr (.str a) (.str b)=some (.bool !(Op.bytesLess a b || a == b)):=rfl
theorem zoh(a b:Str):ze .geq (.str a) (.str b)=some (.bool !(Op.bytesLess a b)):=rfl
theorem xj(b:Bool):unV .not (.bool b)=some (.bool !b):=rfl
theorem zqb(k:IntKind)(i:Int)(n:Nat)(h:0≤i∧i<n):xN (.int k i) n=some i.toNat:=if_pos h
theorem zhQ(k:IntKind)(n:Nat)(h:0<n):xN (.int k 0) n=some 0:=if_pos ⟨Int.le_refl 0,by exact_mod_cast h⟩
theorem zn(k:IntKind)(i n:Nat)(h:i<n):xN (.int k (i:Int)) n=some i:=by
 rw[zqb _ _ _ ⟨zY i,by exact_mod_cast h⟩];simp
theorem yd(xs:List V)(i:Nat):zp (.tup xs) i=xs[i]?:=rfl
theorem zn3(k:IntKind)(i:Int)(n:Nat)(h:0≤i∧i≤n):zay none (some (.int k i)) n=some (0,i.toNat):=by
 obtain⟨h1,h2⟩:=h
 obtain⟨j,rfl⟩:=Int.eq_ofNat_of_zero_le h1
 have:j≤n:=by exact_mod_cast h2
 simp[zay,Kx,this]
theorem zbd(k:IntKind)(i:Int)(n:Nat)(h:0≤i∧i≤n):zay (some (.int k i)) none n=some (i.toNat,n):=by
 obtain⟨h1,h2⟩:=h
 obtain⟨j,rfl⟩:=Int.eq_ofNat_of_zero_le h1
 have:j≤n:=by exact_mod_cast h2
 simp[zay,Kx,this]
theorem ze3(bytes n:Nat)(h:n * bytes≤140737488355328)(h2:n≤140737488355328):zc5 bytes (.int .i64 n) (.int .i64 n)=some (n,n):=by
 have h1:(n:Int) * bytes≤((140737488355328:Nat):Int):=by rw[← Int.natCast_mul];exact Int.ofNat_le.2 h
 simp only[zc5]
 rw[if_pos ⟨zY n,Int.le_refl _,h1,by omega⟩];rfl
theorem zfq(bytes n m:Nat)(h:(n+m) * bytes≤140737488355328)(h2:n+m≤140737488355328):VO bytes n m=true:=by unfold VO;rw[decide_eq_true h,decide_eq_true h2];rfl
theorem zj(x:V)(l:List V):vec (x::l) 0=x:=rfl
theorem yz(x:V)(l:List V)(i:Nat):vec (x::l) (i+1)=vec l i:=rfl
theorem yb{α β:Type}{f:α→Option (α ⊕ β)}{a a':α}(h:f a=some (.inl a')):yi f a=yi f a':=by rw[zgq,h]
theorem zq{α β:Type}{f:α→Option (α ⊕ β)}{a:α}{b:β}(h:f a=some (.inr b)):yi f a=some b:=by rw[zgq,h]
theorem zsr(k:IntKind)(n:Nat):YC (.int k (n:Int))=n:=by simp[YC]
attribute [simp] za zi zc zo0 Z6 zoa Jk zfd zoE zoV zqx zpU znv zpk zq8 zd zbV JZ zct zel
attribute [simp] wr yP j2 Y0 zmZ YL zeZ zbc zkN zj6 zjW zkt jl zb5 zdN zob zqX Qd J8 vI kh xH qu zof Yv
attribute [simp] zf wz zl y0 Y3 zo xC YS QU qP zlk zjn zlz zm1 J7 zjp zmk zcl Y1 XZ zmj QI znD zle zf8 zoB zlr zfC
attribute [simp] xd KP zy X8 kK qi wB W6 zp1 kn zrw jJ zhZ zrV zru zp9 zoh xj yd zj yz zsr
end Go.Ev
end
section
namespace Go.Ev
def B32:Nat:=4294967296
def U32(l:List Nat):Prop := ∀ x∈l,x<B32
def top(l:List Nat):Nat→Nat
 | 0=>0
 | n+1=>match l[n]? with | some 0=>top l n | _=>n+1
def norm(l:List Nat):List Nat:=l.take (top l l.length)
theorem ziC(l:List Nat)(n:Nat):top l n≤n:=by
 induction n with
 | zero=>simp[top]
 | succ n ih=>unfold top;split<;>omega
/-- by a small one, from the top: quotient and what is left -/
def small(d:Nat):List Nat→List Nat×Nat
 | []=>([],0)
 | x::r=>(((small d r).2 * B32+x) / d::(small d r).1,((small d r).2 * B32+x) % d)
theorem zee(d:Nat)(l:List Nat):(small d l).1.length=l.length:=by induction l<;>simp_all [small]
theorem zbU(d:Nat)(hd:0<d)(l:List Nat):(small d l).2<d:=by cases l<;>simp[small,hd,Nat.mod_lt]
def xi:List Nat→Nat
 | []=>0
 | x::r=>x+B32 * xi r
theorem zdX(d:Nat)(hd:0<d)(l:List Nat):xi (small d l).1=xi l / d∧(small d l).2=xi l % d:=by
 induction l with
 | nil=>simp[small,xi]
 | cons x r ih=>
  obtain⟨h1,h2⟩:=ih
  have e:x+B32 * xi r=(xi r % d * B32+x)+d * (B32 * (xi r / d)):=by
   have:=Nat.div_add_mod (xi r) d
   calc x+B32 * xi r=x+B32 * (d * (xi r / d)+xi r % d):=by rw[this]
    _=_:=by rw[Nat.mul_add];ac_rfl
  refine⟨?_,?_⟩
  ·simp only[small,xi,h1,h2]
   rw[e,Nat.add_mul_div_left _ _ hd]
  ·simp only[small,xi,h2]
   rw[e,Nat.add_mul_mod_self_left]
theorem zkL(d:Nat)(hd:0<d)(l:List Nat)(hu:U32 l):U32 (small d l).1:=by
 induction l with
 | nil=>intro x hx;simp[small]at hx
 | cons x r ih=>
  intro y hy
  simp only[small,zS]at hy
  rcases hy with rfl | hy
  ·have h1:=zbU d hd r
   have h2:=hu x (by simp)
   rw[Nat.div_lt_iff_lt_mul hd]
   have:(small d r).2 * B32+B32≤d * B32:=by rw[← Nat.succ_mul];exact zW _ h1
   rw[Nat.mul_comm B32 d];omega
  ·exact ih (fun z hz=>hu z (by simp[hz])) y hy
def Nrm(l:List Nat):Prop:=l[l.length - 1]?≠some 0
theorem zoC(l:List Nat)(n:Nat)(hn:n≤l.length):top l n=0∨l[top l n - 1]?≠some 0:=by
 induction n with
 | zero=>simp[top]
 | succ n ih=>
  unfold top
  split
  ·exact ih (by omega)
  ·next h=>exact .inr (by simpa using h)
theorem zni(l:List Nat):(norm l).length=top l l.length:=by
 have:=ziC l l.length;simp[norm];omega
theorem zhH(l:List Nat):Nrm (norm l):=by
 have hle:=ziC l l.length
 unfold Nrm
 rw[zni]
 rcases zoC l l.length (zR _)with h | h
 ·have:norm l=[]:=by rw[norm,h];rfl
  rw[this];simp
 ·by_cases h0:top l l.length=0
  ·have:norm l=[]:=by rw[norm,h0];rfl
   rw[this];simp
  ·rw[norm,List.getElem?_take]
   rw[if_pos (by omega)];exact h
theorem zoi{l:List Nat}(h:U32 l):U32 (norm l):=fun x hx=>h x (List.mem_of_mem_take hx)
theorem zmt(l:List Nat)(n i:Nat)(h1:top l n≤i)(h2:i<n):l[i]?=some 0:=by
 induction n with
 | zero=>omega
 | succ n ih=>
  unfold top at h1
  split at h1
  ·next h=>
   rcases Nat.lt_or_ge i n with h3 | h3
   ·exact ih h1 h3
   ·have:i=n:=by omega
    rw[this];exact h
  ·omega
theorem zl0(l:List Nat)(t:Nat)(h : ∀ i,t≤i→i<l.length→l[i]?=some 0):xi (l.take t)=xi l:=by
 induction l generalizing t with
 | nil=>simp
 | cons x r ih=>
  cases t with
  | zero=>
   have h0:=h 0 (by omega) (by simp)
   have hr:=ih 0 (fun i hi hl=>by have:=h (i+1) (by omega) (by simp;omega);simpa using this)
   simp at h0 hr ⊢
   simp[xi,h0,← hr]
  | succ t=>
   have hr:=ih t (fun i hi hl=>by have:=h (i+1) (by omega) (by simp;omega);simpa using this)
   simp[xi,hr]
theorem zlQ(l:List Nat):xi (norm l)=xi l:=zl0 l _ (fun i h1 h2=>zmt l _ i h1 h2)
theorem zkV(l:List Nat)(h:xi l=0) : ∀ x∈l,x=0:=by
 induction l with
 | nil=>simp
 | cons x r ih=>
  simp only[xi,B32]at h
  intro y hy
  rcases List.mem_cons.1 hy with rfl | hy
  ·omega
  ·exact ih (by omega) y hy
theorem zj9{l:List Nat}(h:Nrm l)(h0:xi l=0):l=[]:=by
 by_cases hl:l=[]
 ·exact hl
 ·exfalso
  have hlen:l.length - 1<l.length:=by cases l<;>simp_all
  apply h
  rw[zL hlen]
  rw[zkV l h0 _ (List.getElem_mem hlen)]
theorem zpD(l:List Nat)(h:U32 l):xi l<10 ^ (10 * l.length):=by
 induction l with
 | nil=>simp[xi]
 | cons x r ih=>
  have h1:=ih (fun y hy=>h y (by simp[hy]))
  have h2:=h x (by simp)
  have hB:B32≤10 ^ 10:=by decide
  simp only[xi,List.length_cons,Nat.mul_add,Nat.mul_one,Nat.pow_add]
  calc x+B32 * xi r<B32+B32 * xi r:=by omega
   _=B32 * (xi r+1):=by rw[Nat.mul_add];omega
   _≤10 ^ 10 * 10 ^ (10 * r.length):=Nat.mul_le_mul hB h1
   _=_:=Nat.mul_comm _ _
theorem zpJ(n:Nat)(q:List V)(x y:V):(List.replicate (n+1) x++q).set n y=List.replicate n x++y::q:=by
 rw[List.replicate_succ',List.append_assoc,List.set_append_right _ _ (by simp)];simp
end Go.Ev
end
section
namespace Go.Ev
/-- texts that are valid: some of them -/
def dec8:Str→Option (List Nat)
 | []=>some []
 | 195::169::r=>(dec8 r).map (233 :: ·)
 | b::r=>if b.toNat<128 then(dec8 r).map (b.toNat :: ·)else none
def Nm.ok(n:Nm):Prop:=(n.m=[]∧n.neg=false∧n.e=0)∨(n.m≠[]∧U32 n.m∧n.m.length≤90∧Nrm n.m ∧ -1200≤n.e∧n.e≤1200∧(small 10 n.m).2≠0)
abbrev lt(a b:Str):Bool:=Op.bytesLess a b
theorem lt_irrefl(a:Str):lt a a=false:=by
 induction a with
 | nil=>rfl
 | cons x r ih=>simp[lt,Op.bytesLess]at *;exact ih
theorem lt_trans : ∀ {a b c:Str},lt a b=true→lt b c=true→lt a c=true
 | _,[],_,h,_=>by simp[lt,Op.bytesLess]at h
 | _,_::_,[],_,h=>by simp[lt,Op.bytesLess]at h
 | [],_::_,_::_,_,_=>by simp[lt,Op.bytesLess]
 | x::a,y::b,z::c,h,k=>by
  simp only[lt,Op.bytesLess,Bool.or_eq_true,zG,decide_eq_true_eq,beq_iff_eq]at h k ⊢
  rcases h with h | ⟨rfl,h⟩
  ·rcases k with k | ⟨rfl,k⟩
   ·exact .inl (UInt8.lt_trans h k)
   ·exact .inl h
  ·rcases k with k | ⟨rfl,k⟩
   ·exact .inl k
   ·exact .inr ⟨rfl,lt_trans h k⟩
theorem zbv : ∀ {a b:Str},a≠b→lt a b=false→lt b a=true
 | [],[],h,_=>(h rfl).elim
 | [],_::_,_,h=>by simp[lt,Op.bytesLess]at h
 | _::_,[],_,_=>by simp[lt,Op.bytesLess]
 | x::a,y::b,h,k=>by
  simp only[lt,Op.bytesLess,Bool.or_eq_false_iff,Bool.and_eq_false_iff,decide_eq_false_iff_not,beq_eq_false_iff_ne,Bool.or_eq_true,zG,decide_eq_true_eq,beq_iff_eq]at k ⊢
  by_cases hxy:x=y
  ·subst hxy
   right
   refine⟨rfl,zbv (fun e=>h (by rw[e])) ?_⟩
   exact k.2.resolve_left (fun e=>e rfl)
  ·left
   rcases UInt8.lt_or_eq_of_le (UInt8.not_lt.1 k.1)with h1 | h1
   ·exact h1
   ·exact(hxy h1.symm).elim
theorem zim{a b:Str}(h:lt a b=true):lt b a=false:=by
 cases hb:lt b a with
 | false=>rfl
 | true=>have:=lt_trans h hb;rw[lt_irrefl]at this;contradiction
/-- the first place of a name -/
def pos(s:Str):List Str→Option Nat
 | []=>none
 | x::r=>if x=s then some 0 else(pos s r).map (· + 1)
theorem znM{s:Str}{l:List Str}{i:Nat}(h:pos s l=some i):i<l.length:=by
 induction l generalizing i with
 | nil=>simp[pos]at h
 | cons x r ih=>
  simp only[pos]at h
  split at h
  ·injection h with h;subst h;simp
  ·rw[zB]at h
   obtain⟨j,hj,rfl⟩:=h
   have:=ih hj;simp;omega
abbrev AL:=List (Str×Tree)
def lk(n:Str):AL→Option Tree
 | []=>none
 | (k,v)::r=>if k=n then some v else lk n r
def names(l:AL):List Str:=l.map Prod.fst
def yw(l:AL):List Tree:=l.map Prod.snd
/-- with a name, in its place -/
def qJ(n:Str)(v:Tree):AL→AL
 | []=>[(n,v)]
 | (k,w)::r=>if k=n then(n,v)::r else if lt n k then(n,v)::(k,w)::r else(k,w)::qJ n v r
def zqr(n:Str):AL→AL
 | []=>[]
 | (k,w)::r=>if k=n then r else(k,w)::zqr n r
/-- names in order, none twice -/
def Srt:List Str→Prop
 | []=>True
 | x::r=>(∀ y∈r,lt x y=true)∧Srt r
def Kq(l:AL):Prop:=Srt (names l)
theorem zcC{k:Str}{v:Tree}{r:AL}:Kq ((k,v)::r)↔(∀ y∈names r,lt k y=true)∧Kq r:=Iff.rfl
theorem zhd{n:Str}{l:AL}:lk n l=none↔n ∉ names l:=by
 induction l with
 | nil=>simp[lk,names]
 | cons p r ih=>
  obtain⟨k,v⟩:=p
  simp only[lk,names,List.map_cons,zS,not_or]
  split
  ·next h=>subst h;simp
  ·next h=>rw[ih];exact⟨fun h2=>⟨fun e=>h e.symm,h2⟩,fun h2=>h2.2⟩
theorem zot{n:Str}{l:AL}{v:Tree}(h:lk n l=some v):(n,v)∈l:=by
 induction l with
 | nil=>simp[lk]at h
 | cons p r ih=>
  obtain⟨k,w⟩:=p
  simp only[lk]at h
  split at h
  ·next e=>subst e;injection h with h;subst h;simp
  ·exact zP _ (ih h)
theorem zdO(n:Str)(v:Tree)(l:AL) : ∀ y∈names (qJ n v l),y=n∨y∈names l:=by
 induction l with
 | nil=>intro y hy;simp[qJ,names]at hy;exact .inl hy
 | cons p r ih=>
  obtain⟨k,w⟩:=p
  intro y hy
  simp only[qJ]at hy
  split at hy
  ·simp only[names,List.map_cons,zS]at hy ⊢
   rcases hy with h | h
   ·exact .inl h
   ·exact .inr (.inr h)
  ·split at hy
   ·simp only[names,List.map_cons,zS]at hy ⊢
    rcases hy with h | h | h
    ·exact .inl h
    ·exact .inr (.inl h)
    ·exact .inr (.inr h)
   ·simp only[names,List.map_cons,zS]at hy ⊢
    rcases hy with h | h
    ·exact .inr (.inl h)
    ·exact(ih y h).imp id .inr
theorem zkr{n:Str}{v:Tree}{l:AL}(h:Kq l):Kq (qJ n v l):=by
 induction l with
 | nil=>exact⟨fun y hy=>by simp at hy,trivial⟩
 | cons p r ih=>
  obtain⟨k,w⟩:=p
  obtain⟨h1,h2⟩:=zcC.1 h
  simp only[qJ]
  split
  ·next e=>subst e;exact⟨h1,h2⟩
  ·next hne=>
   split
   ·next hlt=>
    refine⟨fun y hy => ?_,h1,h2⟩
    have hy:y∈k::names r:=hy
    rcases List.mem_cons.1 hy with e | hy
    ·rw[e];exact hlt
    ·exact lt_trans hlt (h1 y hy)
   ·next hlt=>
    refine⟨fun y hy => ?_,ih h2⟩
    rcases zdO n v r y hy with rfl | hy
    ·exact zbv (fun e=>hne e.symm) (by simpa using hlt)
    ·exact h1 y hy
theorem zj1{n:Str}{v:Tree}{l:AL}{q:Str×Tree}(h:q∈qJ n v l):q=(n,v)∨q∈l:=by
 induction l with
 | nil=>simp[qJ]at h;exact .inl h
 | cons p r ih=>
  obtain⟨k,w⟩:=p
  simp only[qJ]at h
  split at h
  ·rcases List.mem_cons.1 h with h | h
   ·exact .inl h
   ·exact .inr (zP _ h)
  ·split at h
   ·rcases List.mem_cons.1 h with h | h
    ·exact .inl h
    ·exact .inr h
   ·rcases List.mem_cons.1 h with h | h
    ·exact .inr (by rw[h];exact List.mem_cons_self)
    ·exact(ih h).imp id (zP _)
/-- an object -/
def obj(l:AL):Tree := .mk 7 false .zero [] (names l) (yw l)
def null:Tree := .mk 1 false .zero [] [] []
theorem jU(l:AL):(names l).length=l.length:=by simp[names]
theorem jY(l:AL):(yw l).length=l.length:=by simp[yw]
/-- its members -/
def al(t:Tree):AL:=if t.kind=7 then t.k.zip t.v else[]
theorem zqI(l:AL):(names l).zip (yw l)=l:=by
 induction l with
 | nil=>rfl
 | cons p r ih=>
  show(p.1,p.2)::(names r).zip (yw r)=_
  rw[ih]
theorem zfG(l:AL):al (obj l)=l:=by
 show(if(7:Int)=7 then(names l).zip (yw l)else[])=l
 rw[if_pos rfl];exact zqI l
theorem Wa{t:Tree}(h:t.kind≠7):al t=[]:=if_neg h
end Go.Ev
end
section
namespace Go.Ev
inductive OkT:Tree→Prop
 | null:OkT null
 | bool (b:Bool):OkT (.mk 2 b .zero [] [] [])
 | num (n:Nm) (h:n.ok):OkT (.mk 3 false n [] [] [])
 | text (s:Str) (h:(dec8 s).isSome=true) (hl:s.length≤2000):OkT (.mk 4 false .zero s [] [])
 | bytes (s:Str) (hl:s.length≤2000):OkT (.mk 5 false .zero s [] [])
 | arr (v:List Tree) (hl:v.length≤300) (hv : ∀ x,x∈v→OkT x):OkT (.mk 6 false .zero [] [] v)
 | obj (l:AL) (hs:Kq l) (hl:l.length≤300) (hn : ∀ x,x∈names l→(dec8 x).isSome=true∧x.length≤2000) (hv : ∀ q,q∈l→OkT q.2):OkT (obj l)
mutual
def mrg:Tree→Tree→Tree
 | t,.mk kind b n s k v=>if kind=7 then obj (mrgA (al t) k v)else .mk kind b n s k v
def mrgA:AL→List Str→List Tree→AL
 | u,ks,[]=>u
 | u,[],_::_=>u
 | u,k::ks,v::vs=>mrgA (if v.kind=1 then zqr k u else qJ k (mrg ((lk k u).getD null) v) u) ks vs
end
/-- in order everywhere -/
inductive SrtT:Tree→Prop
 | mk (t:Tree) (h:Kq (al t)) (hv : ∀ q,q∈al t→SrtT q.2):SrtT t
theorem SrtT.no{t:Tree}(h:t.kind≠7):SrtT t := .mk t (by rw[Wa h];trivial) (fun q hq=>by rw[Wa h]at hq;simp at hq)
theorem SrtT.null:SrtT null := .no (by simp[Tree.kind,Ev.null])
theorem OkT.srt{t:Tree}(h:OkT t):SrtT t:=by
 induction h with
 | obj l hs hl hn hv ih=>exact .mk _ (by rw[zfG];exact hs) (fun q hq=>by rw[zfG]at hq;exact ih q hq)
 | _=>exact .no (by simp[Tree.kind,Ev.null])
theorem SrtT.lk{t:Tree}(h:SrtT t)(m:Str):SrtT ((lk m (al t)).getD Ev.null):=by
 cases h with
 | mk _ h hv=>
  cases hx:Ev.lk m (al t)with
  | none=>exact .null
  | some x=>exact hv _ (zot hx)
mutual
def cln:Tree→Bool
 | .mk kind _ _ _ _ v=>if kind=7 then clnL v else true
def clnL:List Tree→Bool
 | []=>true
 | x::r=>if x.kind=1 then false else if cln x then clnL r else false
end
/-- at most so many in each, so deep -/
inductive Bnd(c:Nat):Nat→Tree→Prop
 | mk (d:Nat) (t:Tree) (hl:t.v.length≤c) (hv : ∀ x,x∈t.v→Bnd c d x):Bnd c (d+1) t
theorem Bnd.mono{c c' d:Nat}(h:c≤c'){t:Tree}(ht:Bnd c d t):Bnd c' d t:=by
 induction ht with
 | mk d t hl hv ih=>exact .mk d t (Nat.le_trans hl h) ih
theorem Bnd.null(c d:Nat):Bnd c (d+1) null := .mk d _ (Nat.zero_le _) (fun x hx=>by simp[Ev.null,Tree.v]at hx)
theorem zsq{t:Tree}{q:Str×Tree}(h:q∈al t):q.2∈t.v:=by
 unfold al at h
 split at h
 ·obtain⟨k,v⟩:=q;exact(List.of_mem_zip h).2
 ·simp at h
theorem ziY(t:Tree):(al t).length≤t.v.length:=by
 unfold al
 split
 ·rw[List.length_zip];exact Nat.min_le_right _ _
 ·simp
mutual
def xZ:Tree→Nat
 | .mk _ _ _ _ _ v=>1+nodesL v
def nodesL:List Tree→Nat
 | []=>0
 | x::r=>xZ x+nodesL r
end
theorem wu(t:Tree):xZ t=1+nodesL t.v:=by cases t;rw[xZ];rfl
end Go.Ev
end
section
namespace Go.Ev
theorem zm3{P:Program}{n:Nat}{t:TypeId}{k:IntKind}{xs:List V}(hu:P.underlying t=some (.int k))(h:Ty P n t xs) : ∃ z,(Lit.int k z).wf=true∧mkV P t xs = .int k z:=by
 cases n with
 | zero=>exact h.elim
 | succ n=>
  unfold Ty at h
  rw[hu]at h
  obtain⟨z,hz,rfl⟩:=h
  refine⟨z,hz,?_⟩
  unfold mkV kD
  rw[hu];rfl
end Go.Ev
end
section
namespace Go.Ev
def zgt:Nat→Nat→List Nat
 | 0,_=>[]
 | f+1,n=>if n=0 then[]else n % B32::zgt f (n / B32)
def toL(n:Nat):List Nat:=zgt n n
theorem zmo(f:Nat) : ∀ g n,n≤f→n≤g→zgt f n=zgt g n:=by
 induction f with
 | zero=>
   intro g n h1 h2;have:n=0:=by omega
   subst this;cases g<;>simp[zgt]
 | succ f ih=>
  intro g n h1 h2
  cases g with
  | zero=>
    have:n=0:=by omega
    subst this;simp[zgt]
  | succ g=>
   simp only[zgt]
   by_cases h:n=0
   ·simp[h]
   ·rw[if_neg h,if_neg h]
    have:n / B32<n:=Nat.div_lt_self (by omega) (by decide)
    rw[ih g (n / B32) (by omega) (by omega)]
theorem zbg:toL 0=[]:=rfl
theorem zb2(n:Nat)(h:n≠0):toL n=n % B32::toL (n / B32):=by
 unfold toL
 cases n with
 | zero=>exact(h rfl).elim
 | succ n=>
  rw[zgt,if_neg h]
  have:(n+1) / B32<n+1:=Nat.div_lt_self (by omega) (by decide)
  rw[zmo n ((n+1) / B32) _ (by omega) (zR _)]
theorem zfo(n:Nat):U32 (toL n):=by
 induction n using Nat.strongRecOn with
 | _ n ih=>
  by_cases h:n=0
  ·subst h;intro x hx;simp[zbg]at hx
  ·rw[zb2 n h]
   intro x hx
   rcases List.mem_cons.1 hx with rfl | hx
   ·exact Nat.mod_lt _ (by decide)
   ·exact ih (n / B32) (Nat.div_lt_self (by omega) (by decide)) x hx
theorem WQ(n:Nat):xi (toL n)=n:=by
 induction n using Nat.strongRecOn with
 | _ n ih=>
  by_cases h:n=0
  ·subst h;rfl
  ·rw[zb2 n h,xi,ih _ (Nat.div_lt_self (by omega) (by decide))]
   exact Nat.mod_add_div n B32
theorem zpF{n:Nat}:toL n=[]↔n=0:=by
 constructor
 ·intro h;have:=WQ n;rw[h]at this;exact this.symm
 ·rintro rfl;rfl
theorem znA{x:Nat}{r:List Nat}(h:Nrm (x::r)):Nrm r:=by
 cases r with
 | nil=>simp[Nrm]
 | cons y s=>simpa[Nrm]using h
/-- normal lists are the naturals' own -/
theorem zpz(l:List Nat)(h:Nrm l)(hu:U32 l):l=toL (xi l):=by
 induction l with
 | nil=>rfl
 | cons x r ih=>
  have hx:x<B32:=hu x (by simp)
  have hr:=ih (znA h) (fun y hy=>hu y (by simp[hy]))
  have h0:xi (x::r)≠0:=by
   intro h0
   have:=zj9 h h0
   simp at this
  have hd:(x+B32 * xi r) / B32=xi r:=by rw[Nat.add_mul_div_left _ _ (by decide),Nat.div_eq_of_lt hx,Nat.zero_add]
  have hm:(x+B32 * xi r) % B32=x:=by rw[Nat.add_mul_mod_self_left,Nat.mod_eq_of_lt hx]
  rw[zb2 _ h0]
  simp only[xi]
  rw[hd,hm,← hr]
theorem zgV{l:List Nat}(hu:U32 l):norm l=toL (xi l):=by
 rw[zpz (norm l) (zhH l) (zoi hu),zlQ]
theorem zpC(n:Nat):Nrm (toL n):=by
 have h:=zgV (zfo n)
 rw[WQ]at h
 rw[← h];exact zhH _
theorem zgm(a b:List Nat):xi (a++b)=xi a+B32 ^ a.length * xi b:=by
 induction a with
 | nil=>simp[xi]
 | cons x r ih=>simp only[List.cons_append,xi,ih,List.length_cons,Nat.pow_succ,Nat.mul_add];rw[Nat.mul_comm (B32 ^ r.length) B32,Nat.mul_assoc];omega
theorem zh6(l:List Nat)(h:U32 l):xi l<B32 ^ l.length:=by
 induction l with
 | nil=>simp[xi]
 | cons x r ih=>
  have h1:=ih (fun y hy=>h y (by simp[hy]))
  have h2:=h x (by simp)
  simp only[xi,List.length_cons,Nat.pow_succ]
  calc x+B32 * xi r<B32 * (xi r+1):=by rw[Nat.mul_add];omega
   _≤B32 * B32 ^ r.length:=Nat.mul_le_mul_left _ h1
   _=_:=Nat.mul_comm _ _
theorem zjL{n k:Nat}(h:n<B32 ^ k):(toL n).length≤k:=by
 rcases Nat.lt_or_ge k (toL n).length with h1 | h1
 ·exfalso
  have hl:(toL n).length - 1<(toL n).length:=by omega
  have hne:(toL n)[(toL n).length - 1]≠0:=by
   intro h0;apply zpC n;rw[zL hl,h0]
  have:xi ((toL n).take ((toL n).length - 1)++(toL n).drop ((toL n).length - 1))=n:=by rw[List.take_append_drop];exact WQ n
  rw[zgm,zO hl]at this
  simp only[xi,List.length_take]at this
  have h2:B32 ^ k≤B32 ^ ((toL n).length - 1):=Nat.pow_le_pow_right (by decide) (by omega)
  have h3:B32 ^ ((toL n).length - 1) * 1≤B32 ^ ((toL n).length - 1) * (toL n)[(toL n).length - 1]:=Nat.mul_le_mul_left _ (by omega)
  rw[Nat.min_eq_left (by omega),Nat.mul_add]at this
  omega
 ·exact h1
/-- the limb at a place, nought above -/
def lat(l:List Nat)(i:Nat):Nat:=l[i]?.getD 0
end Go.Ev
end
section
namespace Go.Ev
theorem zdR{α:Type}(xs ys:List α)(h:xs.length=ys.length):xM xs 0 ys=ys:=by
 unfold xM;simp[h]
end Go.Ev
end
section
namespace Go.Ev
/-- without the tens that divide it, and how many they were (so many looks) -/
def W8:Nat→Nat→Nat×Nat
 | 0,n=>(n,0)
 | f+1,n=>if n≠0∧n % 10=0 then((W8 f (n / 10)).1,(W8 f (n / 10)).2+1)else(n,0)
theorem zjq(f:Nat) : ∀ g n,n<10 ^ f→n<10 ^ g→W8 f n=W8 g n:=by
 induction f with
 | zero=>
  intro g n h1 h2
  have:n=0:=by simpa using h1
  subst this
  cases g<;>simp[W8]
 | succ f ih=>
  intro g n h1 h2
  cases g with
  | zero=>
   have:n=0:=by simpa using h2
   subst this;simp[W8]
  | succ g=>
   simp only[W8]
   by_cases h:n≠0∧n % 10=0
   ·rw[if_pos h,if_pos h]
    rw[ih g (n / 10) (by rw[Nat.div_lt_iff_lt_mul (by decide)];rw[Nat.pow_succ]at h1;exact h1) (by rw[Nat.div_lt_iff_lt_mul (by decide)];rw[Nat.pow_succ]at h2;exact h2)]
   ·rw[if_neg h,if_neg h]
def XT(n:Nat):Nat×Nat:=W8 n n
theorem XU(n:Nat):n<10 ^ n:=Nat.lt_pow_self (by decide)
theorem zfK(n f:Nat)(h:n<10 ^ f):XT n=W8 f n:=zjq n f n (XU n) h
theorem zeC{n:Nat}(h:n≠0)(h2:n % 10=0):XT n=((XT (n / 10)).1,(XT (n / 10)).2+1):=by
 have h3:n / 10<10 ^ n:=Nat.lt_of_le_of_lt (Nat.div_le_self _ _) (XU n)
 rw[zfK n (n+1) (Nat.lt_trans (XU n) (Nat.pow_lt_pow_succ (by decide))),W8,if_pos ⟨h,h2⟩,zfK (n / 10) n h3]
theorem zeU{n:Nat}(h:n=0∨n % 10≠0):XT n=(n,0):=by
 rw[zfK n (n+1) (Nat.lt_trans (XU n) (Nat.pow_lt_pow_succ (by decide))),W8,if_neg]
 rintro⟨h1,h2⟩
 rcases h with h | h
 ·exact h1 h
 ·exact h h2
theorem zd2:XT 0=(0,0):=rfl
/-- the number of a sign, a natural, tens -/
def mk(neg:Bool)(n:Nat)(e:Int):Nm×Bool:=
 if n=0 then(.zero,true)
 else if 90<(toL (XT n).1).length∨e+(XT n).2 < -1200∨1200<e+(XT n).2 then(.zero,false)
 else(⟨neg,toL (XT n).1,e+(XT n).2⟩,true)
end Go.Ev
end
section
namespace Go.Ev
/-- a token's digits behind a number -/
def dig:Nat→Str→Option Nat
 | n,[]=>some n
 | n,b::r=>if b.toNat<48∨57<b.toNat then none else dig (10 * n+(b.toNat - 48)) r
def zkY(s:Str):Option Nat:=if s=[]∨4<s.length∨(s.headD 0=48∧1<s.length)then none else dig 0 s
/-- a token as a number that is not above the greatest -/
def jR(s:Str)(most:Int):Option Nat:=(zkY s).bind fun n=>if(n:Int)≤most then some n else none
theorem zky{s:Str}{most:Int}{n:Nat}(h:jR s most=some n):(n:Int)≤most:=by
 unfold jR at h
 rw[zA]at h
 obtain⟨m,_,h⟩:=h
 split at h
 ·injection h with h;subst h;assumption
 ·contradiction
/-- the value one token on -/
def child(t:Tree)(s:Str):Option Tree:=if t.kind=6 then(jR s ((t.v.length:Int) - 1)).bind fun i=>t.v[i]? else lk s (al t)
def kX:Tree→List Str→Option Tree
 | t,[]=>some t
 | t,s::r=>(child t s).bind fun x=>kX x r
def zlC(t:Tree)(v:List Tree):Tree := .mk t.kind t.b t.n t.s t.k v
/-- with another value one token on -/
def zdD(t:Tree)(s:Str)(y:Tree):Tree:=if t.kind=7 then obj (qJ s y (al t))else zlC t (t.v.set ((jR s ((t.v.length:Int) - 1)).getD 0) y)
def Qk:Tree→List Str→Tree→Option Tree
 | _,[],v=>some v
 | t,s::r,v=>(child t s).bind fun x=>(Qk x r v).map fun y=>zdD t s y
/-- a value, or none -/
def Wd(o:Option Tree):V:=match o with
 | some x => .tup [x.val,.bool true]
 | none => .tup [Tree.zero.val,.bool false]
end Go.Ev
end
