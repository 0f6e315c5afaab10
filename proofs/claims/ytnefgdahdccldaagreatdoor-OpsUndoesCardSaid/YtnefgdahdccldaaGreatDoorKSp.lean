/- Values and plain facts that the specifications lean on. -/
import Derived.Test.YtnefgdahdccldaaGreatDoorKEvE
import Derived.IntWalk
import Derived.Laws.BitsAllLaws
import Derived.Laws.BitsLemmas
set_option linter.all false
open Option renaming bind_eq_some_iff->zA,map_eq_some_iff->zB,bind_some->zD
open Bool renaming and_eq_true->zG
open List renaming getElem?_eq_getElem->zL,drop_eq_getElem_cons->zO,mem_cons_of_mem->zP,mem_cons->zS
open Nat renaming le_refl->zR,mul_le_mul_right->zW
open Int renaming natCast_nonneg->zY
namespace Go.Ev
section
abbrev Str:=List UInt8
structure Nm where
 neg:Bool
 m:List Nat
 e:Int
inductive Tree where
 | mk (kind:Int) (b:Bool) (n:Nm) (s:Str) (k:List Str) (v:List Tree)
def strs(l:List Str):List V:=l.map .str
def zu(l:List Nat):List V:=l.map fun(x:Nat)=>V.int .u32 (x:Int)
def ints(l:List Int):List V:=l.map (.int .i64)
def Nm.val(n:Nm):V := .agg [.bool n.neg,.sl (zu n.m),.int .i64 n.e]
mutual
def Tree.val:Tree->V
 | .mk kind b n s k v => .agg [.int .i64 kind,.bool b,.bool n.neg,.sl (zu n.m),.int .i64 n.e,.str s,.sl (strs k),.sl (vals v)]
def vals:List Tree->List V
 | []=>[]
 | t::r=>t.val::vals r
end
theorem zv4(l:List Tree):vals l=l.map Tree.val:=by induction l<;>simp_all [vals]
def trs(l:List Tree):List V:=l.map Tree.val
def Tree.kind:Tree->Int | .mk k _ _ _ _ _=>k
def Tree.b:Tree->Bool | .mk _ b _ _ _ _=>b
def Tree.n:Tree->Nm | .mk _ _ n _ _ _=>n
def Tree.s:Tree->Str | .mk _ _ _ s _ _=>s
def Tree.k:Tree->List Str | .mk _ _ _ _ k _=>k
def Tree.v:Tree->List Tree | .mk _ _ _ _ _ v=>v
theorem Tree.val_eq(t:Tree):t.val = .agg [.int .i64 t.kind,.bool t.b,.bool t.n.neg,.sl (zu t.n.m),.int .i64 t.n.e,.str t.s,.sl (strs t.k),.sl (trs t.v)]:=by cases t;simp[Tree.val,zv4,trs,kind,b,n,s,k,v]
def Nm.zero:Nm:=⟨false,[],0⟩
def Tree.zero:Tree := .mk 0 false .zero [] [] []
theorem zm{α β:Type}(a:α)(f:α->Option β):(some a).bind f=f a:=by rw[zD]
theorem zp{ρ:Type}(k:Option ρ):tst true k=k:=by unfold tst;split<;>simp_all
def tick:Prop:=True
@[simp] theorem wB:tick=True:=propext ⟨fun _=>trivial,fun _=>trivial⟩
@[congr] theorem bind_head{α β:Type}{x y:Option α}{f:α->Option β}{p:Prop}(_:tick=p)(h:x=y):x.bind f=y.bind f:=by rw[h]
@[congr] theorem tst_head{ρ:Type}{b c:Bool}{k:Option ρ}{p:Prop}(_:tick=p)(h:b=c):tst b k=tst c k:=by rw[h]
@[congr] theorem ite_head{α:Sort _}{c d:Prop}{s:Decidable c}[Decidable d]{a b:α}{p:Prop}(_:tick=p)(h:c=d):ite c a b=ite d a b:=by subst h;congr
def Yes{α:Type}(x:Option α)(r:α):Prop:=x=some r
@[simp] theorem Yes_some{α:Type}(a b:α):Yes (some a) b↔a=b:=by simp[Yes]
theorem yes{α:Type}{x:Option α}{r:α}(h:Yes x r):x=some r:=h
theorem ze(b:Bool):asBool (.bool b)=some b:=rfl
theorem zzm(s:Str):zfD (.str s)=some s:=rfl
theorem XG(k:IntKind)(n:Int):okN 1 (.int k n)=true:=rfl
theorem zqm(b:Bool):okN 1 (.bool b)=true:=rfl
theorem qj(s:Str):okN 1 (.str s)=true:=rfl
theorem Yb(l:List V):okN 1 (.sl l)=true:=rfl
theorem VO(n:Nm):okN 3 n.val=true:=rfl
theorem zyM(a b c:V):okN 3 (.agg [a,b,c])=(a.one&&(b.one&&(c.one&&true))):=rfl
theorem zAT(a b c d e f g h:V):okN 8 (.agg [a,b,c,d,e,f,g,h])=(a.one&&(b.one&&(c.one&&(d.one&&(e.one&&(f.one&&(g.one&&(h.one&&true)))))))):=rfl
theorem zyP(k:IntKind)(n:Int):(V.int k n).one=true:=rfl
theorem zw4(b:Bool):(V.bool b).one=true:=rfl
theorem zzo(s:Str):(V.str s).one=true:=rfl
theorem zAI(l:List V):(V.sl l).one=true:=rfl
theorem zj(t:Tree):okN 8 t.val=true:=by rw[t.val_eq];rfl
theorem ziC(l:List Tree):yn 8 (trs l)=true:=by
 induction l with
 | nil=>rfl
 | cons t r ih=>show yn 8 (t.val::trs r)=true;simp[yn,zj,ih]
theorem zag(l:List Str):yn 1 (strs l)=true:=by
 induction l with
 | nil=>rfl
 | cons t r ih=>show yn 1 (.str t::strs r)=true;simp[yn,qj,ih]
theorem zin(l:List Nat):yn 1 (zu l)=true:=by
 induction l with
 | nil=>rfl
 | cons t r ih=>show yn 1 (.int .u32 t::zu r)=true;simp[yn,XG,ih]
theorem zlC(l:List Int):yn 1 (ints l)=true:=by
 induction l with
 | nil=>rfl
 | cons t r ih=>show yn 1 (.int .i64 t::ints r)=true;simp[yn,XG,ih]
theorem yP(l:List Tree):yu 8 (.sl (trs l))=some (trs l):=by unfold yu;simp only[ziC]
theorem zy(l:List Str):yu 1 (.sl (strs l))=some (strs l):=by unfold yu;simp only[zag]
theorem wS(l:List Nat):yu 1 (.sl (zu l))=some (zu l):=by unfold yu;simp only[zin]
theorem qF(l:List Int):yu 1 (.sl (ints l))=some (ints l):=by unfold yu;simp only[zlC]
theorem zx6(n:Nat):yu n (.sl [])=some []:=rfl
theorem YW(l:List Tree):zdZ 8 (.sl (trs l))=some (trs l):=yP l
theorem Qk(l:List Str):zdZ 1 (.sl (strs l))=some (strs l):=zy l
theorem zbR(l:List Nat):zdZ 1 (.sl (zu l))=some (zu l):=wS l
theorem zvJ(l:List Int):zdZ 1 (.sl (ints l))=some (ints l):=qF l
theorem Qv(n:Nm):zc n.val 0=some (.bool n.neg):=rfl
theorem Ju(n:Nm):zc n.val 1=some (.sl (zu n.m)):=rfl
theorem Jj(n:Nm):zc n.val 2=some (.int .i64 n.e):=rfl
theorem xk(t:Tree):zc t.val 0=some (.int .i64 t.kind):=by rw[t.val_eq];rfl
theorem Q4(t:Tree):zc t.val 1=some (.bool t.b):=by rw[t.val_eq];rfl
theorem zaJ(t:Tree):zc t.val 2=some (.bool t.n.neg):=by rw[t.val_eq];rfl
theorem zkj(t:Tree):zc t.val 3=some (.sl (zu t.n.m)):=by rw[t.val_eq];rfl
theorem znC(t:Tree):zc t.val 4=some (.int .i64 t.n.e):=by rw[t.val_eq];rfl
theorem Wa(t:Tree):zc t.val 5=some (.str t.s):=by rw[t.val_eq];rfl
theorem qp(t:Tree):zc t.val 6=some (.sl (strs t.k)):=by rw[t.val_eq];rfl
theorem xw(t:Tree):zc t.val 7=some (.sl (trs t.v)):=by rw[t.val_eq];rfl
theorem ZE(l:List V)(i:Nat):zc (.agg l) i=l[i]?:=rfl
theorem yd(s:Str):zc (.str s) 0=some (.str s):=rfl
theorem xO(k:IntKind)(n:Int):zc (.int k n) 0=some (.int k n):=rfl
theorem zpt(b:Bool):zc (.bool b) 0=some (.bool b):=rfl
theorem wy(l:List V):zc (.sl l) 0=some (.sl l):=rfl
theorem zb(l:List V):z6 (.sl l)=some l.length:=rfl
theorem zt(l:List V):V.elems (.sl l)=l:=rfl
theorem zd(l:List Str):(strs l).length=l.length:=by simp[strs]
theorem yj(l:List Nat):(zu l).length=l.length:=by simp[zu]
theorem xv(l:List Int):(ints l).length=l.length:=by simp[ints]
theorem zh(l:List Tree):(trs l).length=l.length:=by simp[trs]
theorem yk(l:List Str)(i:Nat):(strs l)[i]?=l[i]?.map .str:=by simp[strs]
theorem ji(l:List Nat)(i:Nat):(zu l)[i]?=l[i]?.map (fun(x:Nat)=>V.int .u32 (x:Int)):=by simp[zu]
theorem kv(l:List Int)(i:Nat):(ints l)[i]?=l[i]?.map (.int .i64):=by simp[ints]
theorem wh(l:List Tree)(i:Nat):(trs l)[i]?=l[i]?.map Tree.val:=by simp[trs]
theorem zuO(l:List Str)(i:Nat)(h:i<(strs l).length):(strs l)[i] = .str (l[i]'(by simpa[strs]using h)):=by simp[strs]
theorem zr2(l:List Nat)(i:Nat)(h:i<(zu l).length):(zu l)[i] = .int .u32 ((l[i]'(by simpa[zu]using h):Nat):Int):=by simp[zu]
theorem ztY(l:List Int)(i:Nat)(h:i<(ints l).length):(ints l)[i] = .int .i64 (l[i]'(by simpa[ints]using h)):=by simp[ints]
theorem zvX(l:List Tree)(i:Nat)(h:i<(trs l).length):(trs l)[i]=(l[i]'(by simpa[trs]using h)).val:=by simp[trs]
theorem zaz(l:List Str)(i:Nat):(strs l).drop i=strs (l.drop i):=by simp[strs,List.map_drop]
theorem zhJ(l:List Nat)(i:Nat):(zu l).drop i=zu (l.drop i):=by simp[zu,List.map_drop]
theorem zl4(l:List Int)(i:Nat):(ints l).drop i=ints (l.drop i):=by simp[ints,List.map_drop]
theorem Qb(l:List Tree)(i:Nat):(trs l).drop i=trs (l.drop i):=by simp[trs,List.map_drop]
theorem j5(l:List Str)(i:Nat):(strs l).take i=strs (l.take i):=by simp[strs,List.map_take]
theorem Yd(l:List Nat)(i:Nat):(zu l).take i=zu (l.take i):=by simp[zu,List.map_take]
theorem zve(l:List Int)(i:Nat):(ints l).take i=ints (l.take i):=by simp[ints,List.map_take]
theorem Wx(l:List Tree)(i:Nat):(trs l).take i=trs (l.take i):=by simp[trs,List.map_take]
theorem zhn(l r:List Str):strs l++strs r=strs (l++r):=by simp[strs]
theorem zuj(l r:List Nat):zu l++zu r=zu (l++r):=by simp[zu]
theorem zg2(l r:List Tree):trs l++trs r=trs (l++r):=by simp[trs]
theorem zv9(l:List Str)(i:Nat)(x:Str):(strs l).set i (.str x)=strs (l.set i x):=by simp[strs,List.map_set]
theorem zvU(l:List Nat)(i:Nat)(x:Nat):(zu l).set i (.int .u32 (x:Int))=zu (l.set i x):=by simp[zu,List.map_set]
theorem zmZ(l:List Tree)(i:Nat)(x:Tree):(trs l).set i x.val=trs (l.set i x):=by simp[trs,List.map_set]
section
variable (k:IntKind) (a b:Int)
theorem zv:za .eql (.int k a) (.int k b)=some (.bool (decide (a=b))):=by simp[za,JU,Bool.beq_eq_decide_eq]
theorem vQ:za .neq (.int k a) (.int k b)=some (.bool (!decide (a=b))):=by simp only[za,JU,Xl,zCn,Bool.or_true,zCk,bne];congr 2
theorem v8:za .lss (.int k a) (.int k b)=some (.bool (decide (a<b))):=by simp[za,JU]
theorem VY:za .leq (.int k a) (.int k b)=some (.bool (decide (a<=b))):=by simp[za,JU]
theorem Zy:za .gtr (.int k a) (.int k b)=some (.bool (decide (b<a))):=by simp[za,JU]
theorem jI:za .geq (.int k a) (.int k b)=some (.bool (decide (b<=a))):=by simp[za,JU]
theorem yU:za .add (.int k a) (.int k b)=some (.int k (k.wrap (a+b))):=by simp[za,JU]
theorem ZF:za .sub (.int k a) (.int k b)=some (.int k (k.wrap (a-b))):=by simp[za,JU]
theorem ztA:za .mul (.int k a) (.int k b)=some (.int k (k.wrap (a*b))):=by simp[za,JU]
theorem zjZ(h:b≠0):za .quo (.int k a) (.int k b)=some (.int k (k.wrap (a.tdiv b))):=by simp[za,JU,h]
theorem Kn(h:b≠0):za .rem (.int k a) (.int k b)=some (.int k (a.tmod b)):=by simp[za,JU,h]
theorem zxY(k':IntKind)(h:0<=b):za .shl (.int k a) (.int k' b)=some (.int k (k.wrap (a*2^Nat.min b.toNat k.bits))):=by
 have : ¬ b<0:=by omega
 simp[za,JU,Xl,this]
theorem zz0(k':IntKind)(h:0<=b):za .shr (.int k a) (.int k' b)=some (.int k (a.fdiv (2^Nat.min b.toNat k.bits))):=by
 have : ¬ b<0:=by omega
 simp[za,JU,Xl,this]
theorem kA(k':IntKind):ju k (.int k' a)=some (.int k (k.wrap a)):=rfl
theorem zBZ:unV .neg (.int k a)=some (.int k (k.wrap (0-a))):=rfl
end
theorem w64{a:Int}(h : -9223372036854775808<=a/\a<=9223372036854775807):IntKind.i64.wrap a=a:=IntWalk.i64_in a h
theorem zzt{a:Int}(h:0<=a/\a<=4294967295):IntKind.u32.wrap a=a:=IntWalk.u32_in a h
theorem zkw{a:Int}(h:0<=a/\a<=18446744073709551615):IntKind.u64.wrap a=a:=IntWalk.u64_in a h
theorem qf(a b:Str):za .eql (.str a) (.str b)=some (.bool (a==b)):=rfl
theorem zfu(a b:Str):za .neq (.str a) (.str b)=some (.bool (!(a==b))):=rfl
theorem zBW(a b:Str):za .lss (.str a) (.str b)=some (.bool (Op.bytesLess a b)):=rfl
theorem zBY(a b:Str):za .leq (.str a) (.str b)=some (.bool (Op.bytesLess a b||a==b)):=rfl
theorem ztx(a b:Str):za .gtr (.str a) (.str b)=some (.bool !(Op.bytesLess a b||a==b)):=rfl
theorem zxE(a b:Str):za .geq (.str a) (.str b)=some (.bool !(Op.bytesLess a b)):=rfl
theorem yE(b:Bool):unV .not (.bool b)=some (.bool !b):=rfl
theorem zv7(k:IntKind)(i:Int)(n:Nat)(h:0<=i/\i<n):yQ (.int k i) n=some i.toNat:=zCk h
theorem zgl(k:IntKind)(n:Nat)(h:0<n):yQ (.int k 0) n=some 0:=zCk ⟨Int.le_refl 0,by exact_mod_cast h⟩
theorem zf(k:IntKind)(i n:Nat)(h:i<n):yQ (.int k (i:Int)) n=some i:=by rw[zv7 _ _ _ ⟨zY i,by exact_mod_cast h⟩];simp
theorem zl(xs:List V)(i:Nat):zi (.tup xs) i=xs[i]?:=rfl
theorem KC(k:IntKind)(i:Int)(n:Nat)(h:0<=i/\i<=n):WB none (some (.int k i)) n=some (0,i.toNat):=by
 obtain⟨h1,h2⟩:=h;obtain⟨j,rfl⟩:=Int.eq_ofNat_of_zero_le h1;have:j<=n:=by exact_mod_cast h2
 simp[WB,zet,this]
theorem Wc(k:IntKind)(i:Int)(n:Nat)(h:0<=i/\i<=n):WB (some (.int k i)) none n=some (i.toNat,n):=by
 obtain⟨h1,h2⟩:=h;obtain⟨j,rfl⟩:=Int.eq_ofNat_of_zero_le h1;have:j<=n:=by exact_mod_cast h2
 simp[WB,zet,this]
theorem zlY(bytes n:Nat)(h:n*bytes<=140737488355328)(h2:n<=140737488355328):zkM bytes (.int .i64 n) (.int .i64 n)=some (n,n):=by
 have h1:(n:Int)*bytes<=((140737488355328:Nat):Int):=by rw[<- Int.natCast_mul];exact Int.ofNat_le.2 h
 simp only[zkM];rw[zCk ⟨zY n,Int.le_refl _,h1,by omega⟩];rfl
theorem wv(bytes n m:Nat)(h:(n+m)*bytes<=140737488355328)(h2:n+m<=140737488355328):qi bytes n m=true:=by unfold qi;rw[zCp h,zCp h2];rfl
theorem z5(x:V)(l:List V):vec (x::l) 0=x:=rfl
theorem zr(x:V)(l:List V)(i:Nat):vec (x::l) (i+1)=vec l i:=rfl
theorem zn{α β:Type}{f:α->Option (α ⊕ β)}{a a':α}(h:f a=some (.inl a')):zq f a=zq f a':=by rw[zpY,h]
theorem zg{α β:Type}{f:α->Option (α ⊕ β)}{a:α}{b:β}(h:f a=some (.inr b)):zq f a=some b:=by rw[zpY,h]
theorem zCe(k:IntKind)(n:Nat):Vn (.int k (n:Int))=n:=by simp[Vn]
attribute [simp] zm zp ze zzm XG zqm qj Yb VO zyM zAT zyP zw4 zzo zAI zj ziC zag zin zlC
attribute [simp] yP zy wS qF zx6 YW Qk zbR zvJ Qv Ju Jj xk Q4 zaJ zkj znC Wa qp xw ZE yd xO zpt wy
attribute [simp] zb zt zd yj xv zh yk ji kv wh zuO zr2 ztY zvX zaz zhJ zl4 Qb j5 Yd zve Wx zhn zuj zg2 zv9 zvU zmZ
attribute [simp] zv vQ v8 VY Zy jI yU ZF ztA kA zBZ qf zfu zBW zBY ztx zxE yE zl z5 zr zCe
end
section
def B32:Nat:=4294967296
def U32(l:List Nat):Prop := ∀ x∈l,x<B32
def top(l:List Nat):Nat->Nat
 | 0=>0
 | n+1=>match l[n]? with | some 0=>top l n | _=>n+1
def norm(l:List Nat):List Nat:=l.take (top l l.length)
theorem zhL(l:List Nat)(n:Nat):top l n<=n:=by
 induction n with
 | zero=>simp[top]
 | succ n ih=>unfold top;split<;>omega
def small(d:Nat):List Nat->List Nat×Nat
 | []=>([],0)
 | x::r=>(((small d r).2*B32+x)/d::(small d r).1,((small d r).2*B32+x)%d)
theorem XP(d:Nat)(l:List Nat):(small d l).1.length=l.length:=by induction l<;>simp_all [small]
theorem Kj(d:Nat)(hd:0<d)(l:List Nat):(small d l).2<d:=by cases l<;>simp[small,hd,zCP]
def xC:List Nat->Nat
 | []=>0
 | x::r=>x+B32*xC r
theorem zak(d:Nat)(hd:0<d)(l:List Nat):xC (small d l).1=xC l/d/\(small d l).2=xC l%d:=by
 induction l with
 | nil=>simp[small,xC]
 | cons x r ih=>
  obtain⟨h1,h2⟩:=ih;have e:x+B32*xC r=(xC r%d*B32+x)+d*(B32*(xC r/d)):=by
   have:=Nat.div_add_mod (xC r) d
   calc x+B32*xC r=x+B32*(d*(xC r/d)+xC r%d):=by rw[this]
    _=_:=by rw[Nat.mul_add];ac_rfl
  refine⟨?_,?_⟩
  ·simp only[small,xC,h1,h2];rw[e,Nat.add_mul_div_left _ _ hd]
  ·simp only[small,xC,h2];rw[e,Nat.add_mul_mod_self_left]
theorem zfm(d:Nat)(hd:0<d)(l:List Nat)(hu:U32 l):U32 (small d l).1:=by
 induction l with
 | nil=>intro x hx;simp[small]at hx
 | cons x r ih=>
  intro y hy;simp only[small,zS]at hy;rcases hy with rfl | hy
  ·have h1:=Kj d hd r;have h2:=hu x (by simp);rw[Nat.div_lt_iff_lt_mul hd];have:(small d r).2*B32+B32<=d*B32:=by rw[<- Nat.succ_mul];exact zW _ h1
   rw[Nat.mul_comm B32 d];omega
  ·exact ih (fun z hz=>hu z (by simp[hz])) y hy
def Nrm(l:List Nat):Prop:=l[l.length-1]?≠some 0
theorem zxe(l:List Nat)(n:Nat)(hn:n<=l.length):top l n=0\/l[top l n-1]?≠some 0:=by
 induction n with
 | zero=>simp[top]
 | succ n ih=>
  unfold top;split
  ·exact ih (by omega)
  ·next h=>exact .inr (by simpa using h)
theorem zoQ(l:List Nat):(norm l).length=top l l.length:=by have:=zhL l l.length;simp[norm];omega
theorem zdI(l:List Nat):Nrm (norm l):=by
 have hle:=zhL l l.length;unfold Nrm;rw[zoQ];rcases zxe l l.length (zR _)with h | h
 ·have:norm l=[]:=by rw[norm,h];rfl
  rw[this];simp
 ·by_cases h0:top l l.length=0
  ·have:norm l=[]:=by rw[norm,h0];rfl
   rw[this];simp
  ·rw[norm,zCH];rw[zCk (by omega)];exact h
theorem zoq(l:List Nat):(norm l).length<=l.length:=by rw[zoQ];exact zhL l l.length
theorem zis{l:List Nat}(h:U32 l):U32 (norm l):=fun x hx=>h x (List.mem_of_mem_take hx)
theorem zyg(l:List Nat)(n i:Nat)(h1:top l n<=i)(h2:i<n):l[i]?=some 0:=by
 induction n with
 | zero=>omega
 | succ n ih=>
  unfold top at h1;split at h1
  ·next h=>
   rcases zCt i n with h3 | h3
   ·exact ih h1 h3
   ·have:i=n:=by omega
    rw[this];exact h
  ·omega
theorem ztQ(l:List Nat)(t:Nat)(h : ∀ i,t<=i->i<l.length->l[i]?=some 0):xC (l.take t)=xC l:=by
 induction l generalizing t with
 | nil=>simp
 | cons x r ih=>
  cases t with
  | zero=>have h0:=h 0 (by omega) (by simp);have hr:=ih 0 (fun i hi hl=>by have:=h (i+1) (by omega) (by simp;omega);simpa using this);simp at h0 hr ⊢;simp[xC,h0,<- hr]
  | succ t=>have hr:=ih t (fun i hi hl=>by have:=h (i+1) (by omega) (by simp;omega);simpa using this);simp[xC,hr]
theorem zer(l:List Nat):xC (norm l)=xC l:=ztQ l _ (fun i h1 h2=>zyg l _ i h1 h2)
theorem zuS(l:List Nat)(h:xC l=0) : ∀ x∈l,x=0:=by
 induction l with
 | nil=>simp
 | cons x r ih=>
  simp only[xC,B32]at h;intro y hy;rcases List.mem_cons.1 hy with rfl | hy
  ·omega
  ·exact ih (by omega) y hy
theorem zmT{l:List Nat}(h:Nrm l)(h0:xC l=0):l=[]:=by
 by_cases hl:l=[]
 ·exact hl
 ·exfalso;have hlen:l.length-1<l.length:=by cases l<;>simp_all
  apply h;rw[zL hlen];rw[zuS l h0 _ (zCW hlen)]
theorem zs8(l:List Nat)(h:U32 l):xC l<10^(10*l.length):=by
 induction l with
 | nil=>simp[xC]
 | cons x r ih=>
  have h1:=ih (fun y hy=>h y (by simp[hy]));have h2:=h x (by simp);have hB:B32<=10^10:=by decide
  simp only[xC,zCw,Nat.mul_add,Nat.mul_one,Nat.pow_add]
  calc x+B32*xC r<B32+B32*xC r:=by omega
   _=B32*(xC r+1):=by rw[Nat.mul_add];omega
   _<=10^10*10^(10*r.length):=Nat.mul_le_mul hB h1
   _=_:=Nat.mul_comm _ _
theorem ztD(n:Nat)(q:List V)(x y:V):(List.replicate (n+1) x++q).set n y=List.replicate n x++y::q:=by rw[List.replicate_succ',zCD,List.set_append_right _ _ (by simp)];simp
end
section
def dec8:Str->Option (List Nat)
 | []=>some []
 | 195::169::r=>(dec8 r).map (233 :: ·)
 | b::r=>if b.toNat<128 then(dec8 r).map (b.toNat :: ·)else none
def Nm.ok(n:Nm):Prop:=(n.m=[]/\n.neg=false/\n.e=0)\/(n.m≠[]/\U32 n.m/\n.m.length<=90/\Nrm n.m /\ -1200<=n.e/\n.e<=1200/\(small 10 n.m).2≠0)
abbrev lt(a b:Str):Bool:=Op.bytesLess a b
theorem lt_irrefl(a:Str):lt a a=false:=by
 induction a with
 | nil=>rfl
 | cons x r ih=>simp[lt,Op.bytesLess]at *;exact ih
theorem lt_trans : ∀ {a b c:Str},lt a b=true->lt b c=true->lt a c=true
 | _,[],_,h,_=>by simp[lt,Op.bytesLess]at h
 | _,_::_,[],_,h=>by simp[lt,Op.bytesLess]at h
 | [],_::_,_::_,_,_=>by simp[lt,Op.bytesLess]
 | x::a,y::b,z::c,h,k=>by
  simp only[lt,Op.bytesLess,zCS,zG,zCR,beq_iff_eq]at h k ⊢;rcases h with h | ⟨rfl,h⟩
  ·rcases k with k | ⟨rfl,k⟩
   ·exact .inl (UInt8.lt_trans h k)
   ·exact .inl h
  ·rcases k with k | ⟨rfl,k⟩
   ·exact .inl k
   ·exact .inr ⟨rfl,lt_trans h k⟩
theorem zec : ∀ {a b:Str},a≠b->lt a b=false->lt b a=true
 | [],[],h,_=>(h rfl).elim
 | [],_::_,_,h=>by simp[lt,Op.bytesLess]at h
 | _::_,[],_,_=>by simp[lt,Op.bytesLess]
 | x::a,y::b,h,k=>by
  simp only[lt,Op.bytesLess,Bool.or_eq_false_iff,Bool.and_eq_false_iff,decide_eq_false_iff_not,beq_eq_false_iff_ne,zCS,zG,zCR,beq_iff_eq]at k ⊢;by_cases hxy:x=y
  ·subst hxy;right;refine⟨rfl,zec (fun e=>h (by rw[e])) ?_⟩;exact k.2.resolve_left (fun e=>e rfl)
  ·left;rcases UInt8.lt_or_eq_of_le (UInt8.not_lt.1 k.1)with h1 | h1
   ·exact h1
   ·exact(hxy h1.symm).elim
theorem zwP{a b:Str}(h:lt a b=true):a≠b:=by rintro rfl;rw[lt_irrefl]at h;contradiction
theorem KN{a b:Str}(h:lt a b=true):lt b a=false:=by
 cases hb:lt b a with
 | false=>rfl
 | true=>have:=lt_trans h hb;rw[lt_irrefl]at this;contradiction
def pos(s:Str):List Str->Option Nat
 | []=>none
 | x::r=>if x=s then some 0 else(pos s r).map (· + 1)
theorem zrb{s:Str}{l:List Str}{i:Nat}(h:pos s l=some i):i<l.length:=by
 induction l generalizing i with
 | nil=>simp[pos]at h
 | cons x r ih=>
  simp only[pos]at h;split at h
  ·injection h with h;subst h;simp
  ·rw[zB]at h;obtain⟨j,hj,rfl⟩:=h;have:=ih hj;simp;omega
abbrev AL:=List (Str×Tree)
def lk(n:Str):AL->Option Tree
 | []=>none
 | (k,v)::r=>if k=n then some v else lk n r
def names(l:AL):List Str:=l.map Prod.fst
def zz(l:AL):List Tree:=l.map Prod.snd
def we(n:Str)(v:Tree):AL->AL
 | []=>[(n,v)]
 | (k,w)::r=>if k=n then(n,v)::r else if lt n k then(n,v)::(k,w)::r else(k,w)::we n v r
def Xe(n:Str):AL->AL
 | []=>[]
 | (k,w)::r=>if k=n then r else(k,w)::Xe n r
def Srt:List Str->Prop
 | []=>True
 | x::r=>(∀ y∈r,lt x y=true)/\Srt r
def Y8(l:AL):Prop:=Srt (names l)
theorem kD{k:Str}{v:Tree}{r:AL}:Y8 ((k,v)::r)↔(∀ y∈names r,lt k y=true)/\Y8 r:=Iff.rfl
theorem YV{n:Str}{l:AL}:lk n l=none↔n ∉ names l:=by
 induction l with
 | nil=>simp[lk,names]
 | cons p r ih=>
  obtain⟨k,v⟩:=p;simp only[lk,names,List.map_cons,zS,not_or];split
  ·next h=>subst h;simp
  ·next h=>rw[ih];exact⟨fun h2=>⟨fun e=>h e.symm,h2⟩,fun h2=>h2.2⟩
theorem zwB{n:Str}{l:AL}{v:Tree}(h:lk n l=some v):(n,v)∈l:=by
 induction l with
 | nil=>simp[lk]at h
 | cons p r ih=>
  obtain⟨k,w⟩:=p;simp only[lk]at h;split at h
  ·next e=>subst e;injection h with h;subst h;simp
  ·exact zP _ (ih h)
theorem za4(n:Str)(v:Tree)(l:AL) : ∀ y∈names (we n v l),y=n\/y∈names l:=by
 induction l with
 | nil=>intro y hy;simp[we,names]at hy;exact .inl hy
 | cons p r ih=>
  obtain⟨k,w⟩:=p;intro y hy;simp only[we]at hy;split at hy
  ·simp only[names,List.map_cons,zS]at hy ⊢;rcases hy with h | h
   ·exact .inl h
   ·exact .inr (.inr h)
  ·split at hy
   ·simp only[names,List.map_cons,zS]at hy ⊢;rcases hy with h | h | h
    ·exact .inl h
    ·exact .inr (.inl h)
    ·exact .inr (.inr h)
   ·simp only[names,List.map_cons,zS]at hy ⊢;rcases hy with h | h
    ·exact .inr (.inl h)
    ·exact(ih y h).imp id .inr
theorem Vg{n:Str}{v:Tree}{l:AL}(h:Y8 l):Y8 (we n v l):=by
 induction l with
 | nil=>exact⟨fun y hy=>by simp at hy,trivial⟩
 | cons p r ih=>
  obtain⟨k,w⟩:=p;obtain⟨h1,h2⟩:=kD.1 h;simp only[we];split
  ·next e=>subst e;exact⟨h1,h2⟩
  ·next hne=>
   split
   ·next hlt=>
    refine⟨fun y hy => ?_,h1,h2⟩;have hy:y∈k::names r:=hy;rcases List.mem_cons.1 hy with e | hy
    ·rw[e];exact hlt
    ·exact lt_trans hlt (h1 y hy)
   ·next hlt=>
    refine⟨fun y hy => ?_,ih h2⟩;rcases za4 n v r y hy with rfl | hy
    ·exact zec (fun e=>hne e.symm) (by simpa using hlt)
    ·exact h1 y hy
theorem zkJ(n:Str)(l:AL) : ∀ y∈names (Xe n l),y∈names l:=by
 induction l with
 | nil=>intro y hy;exact hy
 | cons p r ih=>
  obtain⟨k,w⟩:=p;intro y hy;simp only[Xe]at hy;split at hy
  ·exact zP _ hy
  ·rcases List.mem_cons.1 hy with rfl | hy
   ·exact zCO
   ·exact zP _ (ih y hy)
theorem ztB{n:Str}{l:AL}(h:Y8 l):Y8 (Xe n l):=by
 induction l with
 | nil=>exact h
 | cons p r ih=>
  obtain⟨k,w⟩:=p;obtain⟨h1,h2⟩:=kD.1 h;simp only[Xe];split
  ·exact h2
  ·exact⟨fun y hy=>h1 y (zkJ n r y hy),ih h2⟩
theorem zhf{n m:Str}{v:Tree}{l:AL}(h:Y8 l):lk m (we n v l)=if n=m then some v else lk m l:=by
 induction l with
 | nil=>rfl
 | cons p r ih=>
  obtain⟨k,w⟩:=p;obtain⟨h1,h2⟩:=kD.1 h;simp only[we];split
  ·next e=>subst e;simp only[lk];split<;>rfl
  ·next hne=>
   split
   ·simp only[lk]
   ·simp only[lk];split
    ·next e=>subst e;rw[zCj (fun e=>hne e.symm)]
    ·exact ih h2
theorem zAd{n m:Str}{l:AL}(h:Y8 l):lk m (Xe n l)=if n=m then none else lk m l:=by
 induction l with
 | nil=>simp[Xe,lk]
 | cons p r ih=>
  obtain⟨k,w⟩:=p;obtain⟨h1,h2⟩:=kD.1 h;simp only[Xe];split
  ·next e=>
   subst e;split
   ·next e=>subst e;exact YV.2 (fun hm=>zwP (h1 _ hm) rfl)
   ·next hne=>simp only[lk,zCj hne]
  ·next hne=>
   simp only[lk];split
   ·next e=>subst e;rw[zCj (fun e=>hne e.symm)]
   ·exact ih h2
theorem zzI{n k:Str}{l:AL}(h : ∀ y∈names l,lt k y=true)(hn:lk n l≠none):lt k n=true:=
 h n (Classical.byContradiction fun hm=>hn (YV.2 hm))
theorem zwz{a b:AL}(ha:Y8 a)(hb:Y8 b)(h : ∀ n,lk n a=lk n b):a=b:=by
 induction a generalizing b with
 | nil=>
  cases b with
  | nil=>rfl
  | cons p r=>obtain⟨k,v⟩:=p;have:=h k;simp[lk]at this
 | cons p r ih=>
  obtain⟨k,v⟩:=p;obtain⟨h1,h2⟩:=kD.1 ha;cases b with
  | nil=>have:=h k;simp[lk]at this
  | cons q s=>
   obtain⟨k',v'⟩:=q;obtain⟨h3,h4⟩:=kD.1 hb;have hk:k=k':=by apply Classical.byContradiction;intro hne;have e1:=h k;have e2:=h k';simp only[lk,zCl,zCj (fun e=>hne e.symm : ¬ k'=k)]at e1;simp only[lk,zCl,zCj hne]at e2;have l1:=zzI h3 (n:=k) (by rw[<- e1];simp);have l2:=zzI h1 (n:=k') (by rw[e2];simp);rw[KN l1]at l2;contradiction
   subst hk;have hv:=h k;simp only[lk,zCl,zCr]at hv;subst hv;congr 1;refine ih h2 h4 (fun n => ?_);by_cases e:k=n
   ·subst e;rw[YV.2 (fun hm=>zwP (h1 _ hm) rfl),YV.2 (fun hm=>zwP (h3 _ hm) rfl)]
   ·have:=h n;simpa only[lk,zCj e]using this
theorem ztC(n:Str)(v:Tree)(l:AL):(we n v l).length<=l.length+1:=by
 induction l with
 | nil=>simp[we]
 | cons p r ih=>
  obtain⟨k,w⟩:=p;simp only[we];split
  ·simp
  ·split
   ·simp
   ·simp;omega
theorem znm{n:Str}{v:Tree}{l:AL}{q:Str×Tree}(h:q∈we n v l):q=(n,v)\/q∈l:=by
 induction l with
 | nil=>simp[we]at h;exact .inl h
 | cons p r ih=>
  obtain⟨k,w⟩:=p;simp only[we]at h;split at h
  ·rcases List.mem_cons.1 h with h | h
   ·exact .inl h
   ·exact .inr (zP _ h)
  ·split at h
   ·rcases List.mem_cons.1 h with h | h
    ·exact .inl h
    ·exact .inr h
   ·rcases List.mem_cons.1 h with h | h
    ·exact .inr (by rw[h];exact zCO)
    ·exact(ih h).imp id (zP _)
theorem zzb{n:Str}{l:AL}{q:Str×Tree}(h:q∈Xe n l):q∈l:=by
 induction l with
 | nil=>exact h
 | cons p r ih=>
  obtain⟨k,w⟩:=p;simp only[Xe]at h;split at h
  ·exact zP _ h
  ·rcases List.mem_cons.1 h with h | h
   ·rw[h];exact zCO
   ·exact zP _ (ih h)
def obj(l:AL):Tree := .mk 7 false .zero [] (names l) (zz l)
def null:Tree := .mk 1 false .zero [] [] []
theorem jc(l:AL):(names l).length=l.length:=by simp[names]
theorem wz(l:AL):(zz l).length=l.length:=by simp[zz]
def al(t:Tree):AL:=if t.kind=7 then t.k.zip t.v else[]
theorem zAq(l:AL):(names l).zip (zz l)=l:=by
 induction l with
 | nil=>rfl
 | cons p r ih=>show(p.1,p.2)::(names r).zip (zz r)=_;rw[ih]
theorem Wh(l:AL):al (obj l)=l:=by show(if(7:Int)=7 then(names l).zip (zz l)else[])=l;rw[zCk rfl];exact zAq l
theorem Wm{t:Tree}(h:t.kind≠7):al t=[]:=zCj h
end
section
inductive OkT:Tree->Prop
 | null:OkT null
 | bool (b:Bool):OkT (.mk 2 b .zero [] [] [])
 | num (n:Nm) (h:n.ok):OkT (.mk 3 false n [] [] [])
 | text (s:Str) (h:(dec8 s).isSome=true) (hl:s.length<=2000):OkT (.mk 4 false .zero s [] [])
 | bytes (s:Str) (hl:s.length<=2000):OkT (.mk 5 false .zero s [] [])
 | arr (v:List Tree) (hl:v.length<=300) (hv : ∀ x,x∈v->OkT x):OkT (.mk 6 false .zero [] [] v)
 | obj (l:AL) (hs:Y8 l) (hl:l.length<=300) (hn : ∀ x,x∈names l->(dec8 x).isSome=true/\x.length<=2000) (hv : ∀ q,q∈l->OkT q.2):OkT (obj l)
mutual
def mrg:Tree->Tree->Tree
 | t,.mk kind b n s k v=>if kind=7 then obj (mrgA (al t) k v)else .mk kind b n s k v
def mrgA:AL->List Str->List Tree->AL
 | u,ks,[]=>u
 | u,[],_::_=>u
 | u,k::ks,v::vs=>mrgA (if v.kind=1 then Xe k u else we k (mrg ((lk k u).getD null) v) u) ks vs
end
inductive SrtT:Tree->Prop
 | mk (t:Tree) (h:Y8 (al t)) (hv : ∀ q,q∈al t->SrtT q.2):SrtT t
theorem SrtT.no{t:Tree}(h:t.kind≠7):SrtT t := .mk t (by rw[Wm h];trivial) (fun q hq=>by rw[Wm h]at hq;simp at hq)
theorem SrtT.null:SrtT null := .no (by simp[Tree.kind,Ev.null])
theorem OkT.srt{t:Tree}(h:OkT t):SrtT t:=by
 induction h with
 | obj l hs hl hn hv ih=>exact .mk _ (by rw[Wh];exact hs) (fun q hq=>by rw[Wh]at hq;exact ih q hq)
 | _=>exact .no (by simp[Tree.kind,Ev.null])
theorem SrtT.lk{t:Tree}(h:SrtT t)(m:Str):SrtT ((lk m (al t)).getD Ev.null):=by
 cases h with
 | mk _ h hv=>
  cases hx:Ev.lk m (al t)with
  | none=>exact .null
  | some x=>exact hv _ (zwB hx)
mutual
def cln:Tree->Bool
 | .mk kind _ _ _ _ v=>if kind=7 then clnL v else true
def clnL:List Tree->Bool
 | []=>true
 | x::r=>if x.kind=1 then false else if cln x then clnL r else false
end
inductive Bnd(c:Nat):Nat->Tree->Prop
 | mk (d:Nat) (t:Tree) (hl:t.v.length<=c) (hv : ∀ x,x∈t.v->Bnd c d x):Bnd c (d+1) t
theorem Bnd.mono{c c' d:Nat}(h:c<=c'){t:Tree}(ht:Bnd c d t):Bnd c' d t:=by
 induction ht with
 | mk d t hl hv ih=>exact .mk d t (zCA hl h) ih
theorem Bnd.null(c d:Nat):Bnd c (d+1) null := .mk d _ (Nat.zero_le _) (fun x hx=>by simp[Ev.null,Tree.v]at hx)
theorem zl2(l:AL):(obj l).v=zz l:=rfl
theorem zCd{t:Tree}{q:Str×Tree}(h:q∈al t):q.2∈t.v:=by
 unfold al at h;split at h
 ·obtain⟨k,v⟩:=q;exact(List.of_mem_zip h).2
 ·simp at h
theorem zhw(t:Tree):(al t).length<=t.v.length:=by
 unfold al;split
 ·rw[List.length_zip];exact Nat.min_le_right _ _
 ·simp
mutual
def vk:Tree->Nat
 | .mk _ _ _ _ _ v=>1+nodesL v
def nodesL:List Tree->Nat
 | []=>0
 | x::r=>vk x+nodesL r
end
theorem qb(t:Tree):vk t=1+nodesL t.v:=by cases t;rw[vk];rfl
def nb(c:Nat):Nat->Nat
 | 0=>0
 | d+1=>1+c*nb c d
theorem zl9{c d:Nat}{t:Tree}(h:Bnd c d t):vk t<=nb c d:=by
 induction h with
 | mk d t hl hv ih=>
  rw[qb];have : ∀ l:List Tree,(∀ x,x∈l->vk x<=nb c d)->nodesL l<=l.length*nb c d:=by
   intro l;induction l with
   | nil=>intro _;simp[nodesL]
   | cons x r ih2=>intro hh;have h1:=hh x zCO;have h2:=ih2 (fun y hy=>hh y (zP _ hy));simp only[nodesL,zCw,zCM,Nat.one_mul];omega
  have h1:=this t.v ih;have h2:t.v.length*nb c d<=c*nb c d:=zW _ hl;simp only[nb];omega
end
section
theorem zAs{P:Program}{n:Nat}{t:TypeId}{k:IntKind}{xs:List V}(hu:P.underlying t=some (.int k))(h:Ty P n t xs) : ∃ z,(Lit.int k z).wf=true/\mkV P t xs = .int k z:=by
 cases n with
 | zero=>exact h.elim
 | succ n=>unfold Ty at h;rw[hu]at h;obtain⟨z,hz,rfl⟩:=h;refine⟨z,hz,?_⟩;unfold mkV Yh;rw[hu];rfl
end
section
def zp6:Nat->Nat->List Nat
 | 0,_=>[]
 | f+1,n=>if n=0 then[]else n%B32::zp6 f (n/B32)
def toL(n:Nat):List Nat:=zp6 n n
theorem zvA(f:Nat) : ∀ g n,n<=f->n<=g->zp6 f n=zp6 g n:=by
 induction f with
 | zero=>
   intro g n h1 h2;have:n=0:=by omega
   subst this;cases g<;>simp[zp6]
 | succ f ih=>
  intro g n h1 h2;cases g with
  | zero=>
    have:n=0:=by omega
    subst this;simp[zp6]
  | succ g=>
   simp only[zp6];by_cases h:n=0
   ·simp[h]
   ·rw[zCj h,zCj h];have:n/B32<n:=Nat.div_lt_self (by omega) (by decide);rw[ih g (n/B32) (by omega) (by omega)]
theorem zj0:toL 0=[]:=rfl
theorem zhM(n:Nat)(h:n≠0):toL n=n%B32::toL (n/B32):=by
 unfold toL;cases n with
 | zero=>exact(h rfl).elim
 | succ n=>rw[zp6,zCj h];have:(n+1)/B32<n+1:=Nat.div_lt_self (by omega) (by decide);rw[zvA n ((n+1)/B32) _ (by omega) (zR _)]
theorem zon(n:Nat):U32 (toL n):=by
 induction n using Nat.strongRecOn with
 | _ n ih=>
  by_cases h:n=0
  ·subst h;intro x hx;simp[zj0]at hx
  ·rw[zhM n h];intro x hx;rcases List.mem_cons.1 hx with rfl | hx
   ·exact zCP _ (by decide)
   ·exact ih (n/B32) (Nat.div_lt_self (by omega) (by decide)) x hx
theorem K1(n:Nat):xC (toL n)=n:=by
 induction n using Nat.strongRecOn with
 | _ n ih=>
  by_cases h:n=0
  ·subst h;rfl
  ·rw[zhM n h,xC,ih _ (Nat.div_lt_self (by omega) (by decide))];exact Nat.mod_add_div n B32
theorem zzE{n:Nat}:toL n=[]↔n=0:=by
 constructor
 ·intro h;have:=K1 n;rw[h]at this;exact this.symm
 ·rintro rfl;rfl
theorem zw7{x:Nat}{r:List Nat}(h:Nrm (x::r)):Nrm r:=by
 cases r with
 | nil=>simp[Nrm]
 | cons y s=>simpa[Nrm]using h
theorem zyD(l:List Nat)(h:Nrm l)(hu:U32 l):l=toL (xC l):=by
 induction l with
 | nil=>rfl
 | cons x r ih=>
  have hx:x<B32:=hu x (by simp);have hr:=ih (zw7 h) (fun y hy=>hu y (by simp[hy]));have h0:xC (x::r)≠0:=by intro h0;have:=zmT h h0;simp at this
  have hd:(x+B32*xC r)/B32=xC r:=by rw[Nat.add_mul_div_left _ _ (by decide),Nat.div_eq_of_lt hx,zCu]
  have hm:(x+B32*xC r)%B32=x:=by rw[Nat.add_mul_mod_self_left,Nat.mod_eq_of_lt hx]
  rw[zhM _ h0];simp only[xC];rw[hd,hm,<- hr]
theorem zix{l:List Nat}(hu:U32 l):norm l=toL (xC l):=by rw[zyD (norm l) (zdI l) (zis hu),zer]
theorem zyL(n:Nat):Nrm (toL n):=by have h:=zix (zon n);rw[K1]at h;rw[<- h];exact zdI _
theorem zq2(a b:List Nat):xC (a++b)=xC a+B32^a.length*xC b:=by
 induction a with
 | nil=>simp[xC]
 | cons x r ih=>simp only[List.cons_append,xC,ih,zCw,Nat.pow_succ,Nat.mul_add];rw[Nat.mul_comm (B32^r.length) B32,Nat.mul_assoc];omega
theorem zpR(l:List Nat)(h:U32 l):xC l<B32^l.length:=by
 induction l with
 | nil=>simp[xC]
 | cons x r ih=>
  have h1:=ih (fun y hy=>h y (by simp[hy]));have h2:=h x (by simp);simp only[xC,zCw,Nat.pow_succ]
  calc x+B32*xC r<B32*(xC r+1):=by rw[Nat.mul_add];omega
   _<=B32*B32^r.length:=Nat.mul_le_mul_left _ h1
   _=_:=Nat.mul_comm _ _
theorem zs9{n k:Nat}(h:n<B32^k):(toL n).length<=k:=by
 rcases zCt k (toL n).length with h1 | h1
 ·exfalso;have hl:(toL n).length-1<(toL n).length:=by omega
  have hne:(toL n)[(toL n).length-1]≠0:=by intro h0;apply zyL n;rw[zL hl,h0]
  have:xC ((toL n).take ((toL n).length-1)++(toL n).drop ((toL n).length-1))=n:=by rw[List.take_append_drop];exact K1 n
  rw[zq2,zO hl]at this;simp only[xC,zCy]at this;have h2:B32^k<=B32^((toL n).length-1):=Nat.pow_le_pow_right (by decide) (by omega);have h3:B32^((toL n).length-1)*1<=B32^((toL n).length-1)*(toL n)[(toL n).length-1]:=Nat.mul_le_mul_left _ (by omega);rw[Nat.min_eq_left (by omega),Nat.mul_add]at this;omega
 ·exact h1
def lat(l:List Nat)(i:Nat):Nat:=l[i]?.getD 0
end
section
theorem zlh{α:Type}(xs ys:List α)(h:xs.length=ys.length):wJ xs 0 ys=ys:=by unfold wJ;simp[h]
end
section
def KJ:Nat->Nat->Nat×Nat
 | 0,n=>(n,0)
 | f+1,n=>if n≠0/\n%10=0 then((KJ f (n/10)).1,(KJ f (n/10)).2+1)else(n,0)
theorem zsp(f:Nat) : ∀ g n,n<10^f->n<10^g->KJ f n=KJ g n:=by
 induction f with
 | zero=>
  intro g n h1 h2;have:n=0:=by simpa using h1
  subst this;cases g<;>simp[KJ]
 | succ f ih=>
  intro g n h1 h2;cases g with
  | zero=>
   have:n=0:=by simpa using h2
   subst this;simp[KJ]
  | succ g=>
   simp only[KJ];by_cases h:n≠0/\n%10=0
   ·rw[zCk h,zCk h];rw[ih g (n/10) (by rw[Nat.div_lt_iff_lt_mul (by decide)];rw[Nat.pow_succ]at h1;exact h1) (by rw[Nat.div_lt_iff_lt_mul (by decide)];rw[Nat.pow_succ]at h2;exact h2)]
   ·rw[zCj h,zCj h]
def QG(n:Nat):Nat×Nat:=KJ n n
theorem Qr(n:Nat):n<10^n:=Nat.lt_pow_self (by decide)
theorem znw(n f:Nat)(h:n<10^f):QG n=KJ f n:=zsp n f n (Qr n) h
theorem zmf{n:Nat}(h:n≠0)(h2:n%10=0):QG n=((QG (n/10)).1,(QG (n/10)).2+1):=by have h3:n/10<10^n:=Nat.lt_of_le_of_lt (Nat.div_le_self _ _) (Qr n);rw[znw n (n+1) (Nat.lt_trans (Qr n) (Nat.pow_lt_pow_succ (by decide))),KJ,zCk ⟨h,h2⟩,znw (n/10) n h3]
theorem zll{n:Nat}(h:n=0\/n%10≠0):QG n=(n,0):=by
 rw[znw n (n+1) (Nat.lt_trans (Qr n) (Nat.pow_lt_pow_succ (by decide))),KJ,zCj];rintro⟨h1,h2⟩;rcases h with h | h
 ·exact h1 h
 ·exact h h2
theorem zlI:QG 0=(0,0):=rfl
def mk(neg:Bool)(n:Nat)(e:Int):Nm×Bool:=
 if n=0 then(.zero,true)
 else if 90<(toL (QG n).1).length\/e+(QG n).2 < -1200\/1200<e+(QG n).2 then(.zero,false)
 else(⟨neg,toL (QG n).1,e+(QG n).2⟩,true)
end
section
def dig:Nat->Str->Option Nat
 | n,[]=>some n
 | n,b::r=>if b.toNat<48\/57<b.toNat then none else dig (10*n+(b.toNat-48)) r
def zgW(s:Str):Option Nat:=if s=[]\/4<s.length\/(s.headD 0=48/\1<s.length)then none else dig 0 s
def ql(s:Str)(most:Int):Option Nat:=(zgW s).bind fun n=>if(n:Int)<=most then some n else none
theorem zmP{s:Str}{most:Int}{n:Nat}(h:ql s most=some n):(n:Int)<=most:=by
 unfold ql at h;rw[zA]at h;obtain⟨m,_,h⟩:=h;split at h
 ·injection h with h;subst h;assumption
 ·contradiction
theorem ze3{s:Str}{a b:Int}{n:Nat}(h:ql s a=some n)(hb:(n:Int)<=b):ql s b=some n:=by
 unfold ql at h ⊢;rw[zA]at h ⊢;obtain⟨m,h1,h⟩:=h;split at h
 ·injection h with h;subst h;exact⟨_,h1,zCk hb⟩
 ·contradiction
def child(t:Tree)(s:Str):Option Tree:=if t.kind=6 then(ql s ((t.v.length:Int)-1)).bind fun i=>t.v[i]? else lk s (al t)
def xr:Tree->List Str->Option Tree
 | t,[]=>some t
 | t,s::r=>(child t s).bind fun x=>xr x r
def znu(t:Tree)(v:List Tree):Tree := .mk t.kind t.b t.n t.s t.k v
def V6(t:Tree)(s:Str)(y:Tree):Tree:=if t.kind=7 then obj (we s y (al t))else znu t (t.v.set ((ql s ((t.v.length:Int)-1)).getD 0) y)
def Zm:Tree->List Str->Tree->Option Tree
 | _,[],v=>some v
 | t,s::r,v=>(child t s).bind fun x=>(Zm x r v).map fun y=>V6 t s y
theorem zj2(t:Tree)(p q:List Str):xr t (p++q)=(xr t p).bind fun x=>xr x q:=by
 induction p generalizing t with
 | nil=>rfl
 | cons s r ih=>
  show(child t s).bind (fun x=>xr x (r++q))=((child t s).bind fun x=>xr x r).bind fun x=>xr x q
  cases child t s with
  | none=>rfl
  | some x=>exact ih x
theorem zly{t:Tree}{p:List Str}{v:Tree}:(Zm t p v).isSome=(xr t p).isSome:=by
 induction p generalizing t with
 | nil=>rfl
 | cons s r ih=>
  show(Option.bind (child t s) fun x=>(Zm x r v).map fun y=>V6 t s y).isSome=((child t s).bind fun x=>xr x r).isSome;cases child t s with
  | none=>rfl
  | some x=>simp only[zD,Option.isSome_map];exact ih
def Ya(o:Option Tree):V:=match o with
 | some x => .tup [x.val,.bool true]
 | none => .tup [Tree.zero.val,.bool false]
end
end Go.Ev
