/- Values and plain facts that the specifications lean on. -/
import Derived.Test.YtnefgdahdccldaaDoorKEvE
import Derived.IntWalk
import Derived.Laws.BitsAllLaws
import Derived.Laws.BitsLemmas
set_option linter.all false
open Option renaming bind_eq_some_iff→zA,map_eq_some_iff→zB,bind_some→zD
open Bool renaming and_eq_true→zG
open List renaming getElem?_eq_getElem→zL,drop_eq_getElem_cons→zO,mem_cons_of_mem→zP,mem_cons→zS
open Nat renaming le_refl→zR,mul_le_mul_right→zW
open Int renaming natCast_nonneg→zY
section
namespace Go.Ev
abbrev Str:=List UInt8
structure Nm where
 neg:Bool
 m:List Nat
 e:Int
inductive Tree where
 | mk (kind:Int) (b:Bool) (n:Nm) (s:Str) (k:List Str) (v:List Tree)
def strs(l:List Str):List V:=l.map .str
def yK(l:List Nat):List V:=l.map fun(x:Nat)=>V.int .u32 (x:Int)
def ints(l:List Int):List V:=l.map (.int .i64)
def Nm.val(n:Nm):V := .agg [.bool n.neg,.sl (yK n.m),.int .i64 n.e]
mutual
def Tree.val:Tree→V
 | .mk kind b n s k v => .agg [.int .i64 kind,.bool b,.bool n.neg,.sl (yK n.m),.int .i64 n.e,.str s,.sl (strs k),.sl (vals v)]
def vals:List Tree→List V
 | []=>[]
 | t::r=>t.val::vals r
end
theorem znV(l:List Tree):vals l=l.map Tree.val:=by induction l<;>simp_all [vals]
def trs(l:List Tree):List V:=l.map Tree.val
def Tree.kind:Tree→Int | .mk k _ _ _ _ _=>k
def Tree.b:Tree→Bool | .mk _ b _ _ _ _=>b
def Tree.n:Tree→Nm | .mk _ _ n _ _ _=>n
def Tree.s:Tree→Str | .mk _ _ _ s _ _=>s
def Tree.k:Tree→List Str | .mk _ _ _ _ k _=>k
def Tree.v:Tree→List Tree | .mk _ _ _ _ _ v=>v
theorem Tree.val_eq(t:Tree):t.val = .agg [.int .i64 t.kind,.bool t.b,.bool t.n.neg,.sl (yK t.n.m),.int .i64 t.n.e,.str t.s,.sl (strs t.k),.sl (trs t.v)]:=by
 cases t;simp[Tree.val,znV,trs,kind,b,n,s,k,v]
def Nm.zero:Nm:=⟨false,[],0⟩
def Tree.zero:Tree := .mk 0 false .zero [] [] []
/- no 'rfl' here: simp is to lay down each step, so that the kernel need not run what follows -/
theorem za{α β:Type}(a:α)(f:α→Option β):(some a).bind f=f a:=by rw[zD]
theorem zh{ρ:Type}(k:Option ρ):tst true k=k:=by unfold tst;split<;>simp_all
/- simp looks at the head alone: what follows waits until its turn (tick: a premise that simp always turns, so that the law is always taken) -/
def tick:Prop:=True
@[simp] theorem zb:tick=True:=propext ⟨fun _=>trivial,fun _=>trivial⟩
@[congr] theorem bind_head{α β:Type}{x y:Option α}{f:α→Option β}{p:Prop}(_:tick=p)(h:x=y):x.bind f=y.bind f:=by rw[h]
@[congr] theorem tst_head{ρ:Type}{b c:Bool}{k:Option ρ}{p:Prop}(_:tick=p)(h:b=c):tst b k=tst c k:=by rw[h]
@[congr] theorem ite_head{α:Sort _}{c d:Prop}{s:Decidable c}[Decidable d]{a b:α}{p:Prop}(_:tick=p)(h:c=d):ite c a b=ite d a b:=by subst h;congr
def Yes{α:Type}(x:Option α)(r:α):Prop:=x=some r
@[simp] theorem Yes_some{α:Type}(a b:α):Yes (some a) b↔a=b:=by simp[Yes]
theorem yes{α:Type}{x:Option α}{r:α}(h:Yes x r):x=some r:=h
theorem zc(b:Bool):asBool (.bool b)=some b:=rfl
theorem zpm(s:Str):zaf (.str s)=some s:=rfl
theorem qG(k:IntKind)(n:Int):okN 1 (.int k n)=true:=rfl
theorem zm9(b:Bool):okN 1 (.bool b)=true:=rfl
theorem kA(s:Str):okN 1 (.str s)=true:=rfl
theorem Qr(l:List V):okN 1 (.sl l)=true:=rfl
theorem zqA(n:Nm):okN 3 n.val=true:=rfl
theorem zpR(a b c:V):okN 3 (.agg [a,b,c])=(a.one && (b.one && (c.one && true))):=rfl
theorem zqJ(a b c d e f g h:V):okN 8 (.agg [a,b,c,d,e,f,g,h])=(a.one && (b.one && (c.one && (d.one && (e.one && (f.one && (g.one && (h.one && true)))))))):=rfl
theorem zpB(k:IntKind)(n:Int):(V.int k n).one=true:=rfl
theorem zmJ(b:Bool):(V.bool b).one=true:=rfl
theorem zpg(s:Str):(V.str s).one=true:=rfl
theorem zq0(l:List V):(V.sl l).one=true:=rfl
theorem zd(t:Tree):okN 8 t.val=true:=by rw[t.val_eq];rfl
theorem zcz(l:List Tree):yc 8 (trs l)=true:=by
 induction l with
 | nil=>rfl
 | cons t r ih=>show yc 8 (t.val::trs r)=true;simp[yc,zd,ih]
theorem KA(l:List Str):yc 1 (strs l)=true:=by
 induction l with
 | nil=>rfl
 | cons t r ih=>show yc 1 (.str t::strs r)=true;simp[yc,kA,ih]
theorem zbi(l:List Nat):yc 1 (yK l)=true:=by
 induction l with
 | nil=>rfl
 | cons t r ih=>show yc 1 (.int .u32 t::yK r)=true;simp[yc,qG,ih]
theorem zeb(l:List Int):yc 1 (ints l)=true:=by
 induction l with
 | nil=>rfl
 | cons t r ih=>show yc 1 (.int .i64 t::ints r)=true;simp[yc,qG,ih]
theorem xQ(l:List Tree):xk 8 (.sl (trs l))=some (trs l):=by unfold xk;simp only[zcz]
theorem yI(l:List Str):xk 1 (.sl (strs l))=some (strs l):=by unfold xk;simp only[KA]
theorem ZG(l:List Nat):xk 1 (.sl (yK l))=some (yK l):=by unfold xk;simp only[zbi]
theorem zfg(l:List Int):xk 1 (.sl (ints l))=some (ints l):=by unfold xk;simp only[zeb]
theorem znn(n:Nat):xk n (.sl [])=some []:=rfl
theorem kN(l:List Tree):Y0 8 (.sl (trs l))=some (trs l):=xQ l
theorem W8(l:List Str):Y0 1 (.sl (strs l))=some (strs l):=yI l
theorem zcf(l:List Nat):Y0 1 (.sl (yK l))=some (yK l):=ZG l
theorem zlA(l:List Int):Y0 1 (.sl (ints l))=some (ints l):=zfg l
theorem zpT(n:Nm):zn n.val 0=some (.bool n.neg):=rfl
theorem zpF(n:Nm):zn n.val 1=some (.sl (yK n.m)):=rfl
theorem zpn(n:Nm):zn n.val 2=some (.int .i64 n.e):=rfl
theorem jv(t:Tree):zn t.val 0=some (.int .i64 t.kind):=by rw[t.val_eq];rfl
theorem zdv(t:Tree):zn t.val 1=some (.bool t.b):=by rw[t.val_eq];rfl
theorem zdz(t:Tree):zn t.val 2=some (.bool t.n.neg):=by rw[t.val_eq];rfl
theorem zpU(t:Tree):zn t.val 3=some (.sl (yK t.n.m)):=by rw[t.val_eq];rfl
theorem zqo(t:Tree):zn t.val 4=some (.int .i64 t.n.e):=by rw[t.val_eq];rfl
theorem Kh(t:Tree):zn t.val 5=some (.str t.s):=by rw[t.val_eq];rfl
theorem zav(t:Tree):zn t.val 6=some (.sl (strs t.k)):=by rw[t.val_eq];rfl
theorem qj(t:Tree):zn t.val 7=some (.sl (trs t.v)):=by rw[t.val_eq];rfl
theorem ke(l:List V)(i:Nat):zn (.agg l) i=l[i]?:=rfl
theorem y4(s:Str):zn (.str s) 0=some (.str s):=rfl
theorem vH(k:IntKind)(n:Int):zn (.int k n) 0=some (.int k n):=rfl
theorem zop(b:Bool):zn (.bool b) 0=some (.bool b):=rfl
theorem vn(l:List V):zn (.sl l) 0=some (.sl l):=rfl
theorem zg(l:List V):yX (.sl l)=some l.length:=rfl
theorem yU(l:List V):V.elems (.sl l)=l:=rfl
theorem zf(l:List Str):(strs l).length=l.length:=by simp[strs]
theorem xV(l:List Nat):(yK l).length=l.length:=by simp[yK]
theorem zn9(l:List Int):(ints l).length=l.length:=by simp[ints]
theorem zm(l:List Tree):(trs l).length=l.length:=by simp[trs]
theorem xB(l:List Str)(i:Nat):(strs l)[i]?=l[i]?.map .str:=by simp[strs]
theorem Vw(l:List Nat)(i:Nat):(yK l)[i]?=l[i]?.map (fun(x:Nat)=>V.int .u32 (x:Int)):=by simp[yK]
theorem zn2(l:List Int)(i:Nat):(ints l)[i]?=l[i]?.map (.int .i64):=by simp[ints]
theorem jy(l:List Tree)(i:Nat):(trs l)[i]?=l[i]?.map Tree.val:=by simp[trs]
theorem zk8(l:List Str)(i:Nat)(h:i<(strs l).length):(strs l)[i] = .str (l[i]'(by simpa[strs]using h)):=by simp[strs]
theorem ziO(l:List Nat)(i:Nat)(h:i<(yK l).length):(yK l)[i] = .int .u32 ((l[i]'(by simpa[yK]using h):Nat):Int):=by simp[yK]
theorem zk5(l:List Int)(i:Nat)(h:i<(ints l).length):(ints l)[i] = .int .i64 (l[i]'(by simpa[ints]using h)):=by simp[ints]
theorem zmF(l:List Tree)(i:Nat)(h:i<(trs l).length):(trs l)[i]=(l[i]'(by simpa[trs]using h)).val:=by simp[trs]
theorem Vn(l:List Str)(i:Nat):(strs l).drop i=strs (l.drop i):=by simp[strs,List.map_drop]
theorem zjP(l:List Nat)(i:Nat):(yK l).drop i=yK (l.drop i):=by simp[yK,List.map_drop]
theorem zl1(l:List Int)(i:Nat):(ints l).drop i=ints (l.drop i):=by simp[ints,List.map_drop]
theorem Xf(l:List Tree)(i:Nat):(trs l).drop i=trs (l.drop i):=by simp[trs,List.map_drop]
theorem j5(l:List Str)(i:Nat):(strs l).take i=strs (l.take i):=by simp[strs,List.map_take]
theorem Xs(l:List Nat)(i:Nat):(yK l).take i=yK (l.take i):=by simp[yK,List.map_take]
theorem zkO(l:List Int)(i:Nat):(ints l).take i=ints (l.take i):=by simp[ints,List.map_take]
theorem Zw(l:List Tree)(i:Nat):(trs l).take i=trs (l.take i):=by simp[trs,List.map_take]
theorem zio(l r:List Str):strs l++strs r=strs (l++r):=by simp[strs]
theorem zlE(l r:List Nat):yK l++yK r=yK (l++r):=by simp[yK]
theorem Je(l r:List Tree):trs l++trs r=trs (l++r):=by simp[trs]
theorem zmM(l:List Str)(i:Nat)(x:Str):(strs l).set i (.str x)=strs (l.set i x):=by simp[strs,List.map_set]
theorem zla(l:List Nat)(i:Nat)(x:Nat):(yK l).set i (.int .u32 (x:Int))=yK (l.set i x):=by simp[yK,List.map_set]
theorem zfT(l:List Tree)(i:Nat)(x:Tree):(trs l).set i x.val=trs (l.set i x):=by simp[trs,List.map_set]
section
variable (k:IntKind) (a b:Int)
theorem yV:ze .eql (.int k a) (.int k b)=some (.bool (decide (a=b))):=by simp[ze,WJ,Bool.beq_eq_decide_eq]
theorem zeJ:ze .neq (.int k a) (.int k b)=some (.bool (!decide (a=b))):=by
 simp only[ze,WJ,Yu,decide_true,Bool.or_true,if_pos,bne];congr 2
theorem zw:ze .lss (.int k a) (.int k b)=some (.bool (decide (a<b))):=by simp[ze,WJ]
theorem Wb:ze .leq (.int k a) (.int k b)=some (.bool (decide (a≤b))):=by simp[ze,WJ]
theorem YS:ze .gtr (.int k a) (.int k b)=some (.bool (decide (b<a))):=by simp[ze,WJ]
theorem qP:ze .geq (.int k a) (.int k b)=some (.bool (decide (b≤a))):=by simp[ze,WJ]
theorem xo:ze .add (.int k a) (.int k b)=some (.int k (k.wrap (a+b))):=by simp[ze,WJ]
theorem W3:ze .sub (.int k a) (.int k b)=some (.int k (k.wrap (a - b))):=by simp[ze,WJ]
theorem zp1:ze .mul (.int k a) (.int k b)=some (.int k (k.wrap (a * b))):=by simp[ze,WJ]
theorem zrt(h:b≠0):ze .quo (.int k a) (.int k b)=some (.int k (k.wrap (a.tdiv b))):=by simp[ze,WJ,h]
theorem zkq(h:b≠0):ze .rem (.int k a) (.int k b)=some (.int k (a.tmod b)):=by simp[ze,WJ,h]
theorem zp6(k':IntKind)(h:0≤b):ze .shl (.int k a) (.int k' b)=some (.int k (k.wrap (a * 2 ^ Nat.min b.toNat k.bits))):=by
 have : ¬ b<0:=by omega
 simp[ze,WJ,Yu,this]
theorem kD(k':IntKind):ZY k (.int k' a)=some (.int k (k.wrap a)):=rfl
theorem zrO:unV .neg (.int k a)=some (.int k (k.wrap (0 - a))):=rfl
end
theorem w64{a:Int}(h : -9223372036854775808≤a∧a≤9223372036854775807):IntKind.i64.wrap a=a:=IntWalk.i64_in a h
theorem zrh{a:Int}(h:0≤a∧a≤4294967295):IntKind.u32.wrap a=a:=IntWalk.u32_in a h
theorem zpS{a:Int}(h:0≤a∧a≤18446744073709551615):IntKind.u64.wrap a=a:=IntWalk.u64_in a h
theorem jU(a b:Str):ze .eql (.str a) (.str b)=some (.bool (a == b)):=rfl
theorem zeA(a b:Str):ze .neq (.str a) (.str b)=some (.bool (!(a == b))):=rfl
theorem zrB(a b:Str):ze .lss (.str a) (.str b)=some (.bool (Op.bytesLess a b)):=rfl
theorem zsm(a b:Str):ze .leq (.str a) (.str b)=some (.bool (Op.bytesLess a b || a == b)):=rfl
theorem zqf(a b:Str):ze .gtr (.str a) (.str b)=some (.bool !(Op.bytesLess a b || a == b)):=rfl
theorem znU(a b:Str):ze .geq (.str a) (.str b)=some (.bool !(Op.bytesLess a b)):=rfl
theorem y0(b:Bool):unV .not (.bool b)=some (.bool !b):=rfl
theorem zpZ(k:IntKind)(i:Int)(n:Nat)(h:0≤i∧i<n):xP (.int k i) n=some i.toNat:=if_pos h
theorem zcv(k:IntKind)(n:Nat)(h:0<n):xP (.int k 0) n=some 0:=if_pos ⟨Int.le_refl 0,by exact_mod_cast h⟩
theorem zp(k:IntKind)(i n:Nat)(h:i<n):xP (.int k (i:Int)) n=some i:=by
 rw[zpZ _ _ _ ⟨zY i,by exact_mod_cast h⟩];simp
theorem zo(xs:List V)(i:Nat):zj (.tup xs) i=xs[i]?:=rfl
theorem XR(k:IntKind)(i:Int)(n:Nat)(h:0≤i∧i≤n):kT none (some (.int k i)) n=some (0,i.toNat):=by
 obtain⟨h1,h2⟩:=h
 obtain⟨j,rfl⟩:=Int.eq_ofNat_of_zero_le h1
 have:j≤n:=by exact_mod_cast h2
 simp[kT,Kj,this]
theorem jw(k:IntKind)(i:Int)(n:Nat)(h:0≤i∧i≤n):kT (some (.int k i)) none n=some (i.toNat,n):=by
 obtain⟨h1,h2⟩:=h
 obtain⟨j,rfl⟩:=Int.eq_ofNat_of_zero_le h1
 have:j≤n:=by exact_mod_cast h2
 simp[kT,Kj,this]
theorem zgV(bytes n:Nat)(h:n * bytes≤140737488355328)(h2:n≤140737488355328):zfn bytes (.int .i64 n) (.int .i64 n)=some (n,n):=by
 have h1:(n:Int) * bytes≤((140737488355328:Nat):Int):=by rw[← Int.natCast_mul];exact Int.ofNat_le.2 h
 simp only[zfn]
 rw[if_pos ⟨zY n,Int.le_refl _,h1,by omega⟩];rfl
theorem qk(bytes n m:Nat)(h:(n+m) * bytes≤140737488355328)(h2:n+m≤140737488355328):wy bytes n m=true:=by unfold wy;rw[decide_eq_true h,decide_eq_true h2];rfl
theorem zl(x:V)(l:List V):vec (x::l) 0=x:=rfl
theorem yp(x:V)(l:List V)(i:Nat):vec (x::l) (i+1)=vec l i:=rfl
theorem zy{α β:Type}{f:α→Option (α ⊕ β)}{a a':α}(h:f a=some (.inl a')):yk f a=yk f a':=by rw[zhB,h]
theorem zr{α β:Type}{f:α→Option (α ⊕ β)}{a:α}{b:β}(h:f a=some (.inr b)):yk f a=some b:=by rw[zhB,h]
theorem zsD(k:IntKind)(n:Nat):YQ (.int k (n:Int))=n:=by simp[YQ]
attribute [simp] za zh zc zpm qG zm9 kA Qr zqA zpR zqJ zpB zmJ zpg zq0 zd zcz KA zbi zeb
attribute [simp] xQ yI ZG zfg znn kN W8 zcf zlA zpT zpF zpn jv zdv zdz zpU zqo Kh zav qj ke y4 vH zop vn
attribute [simp] zg yU zf xV zn9 zm xB Vw zn2 jy zk8 ziO zk5 zmF Vn zjP zl1 Xf j5 Xs zkO Zw zio zlE Je zmM zla zfT
attribute [simp] yV zeJ zw Wb YS qP xo W3 zp1 kD zrO jU zeA zrB zsm zqf znU y0 zo zl yp zsD
end Go.Ev
end
section
namespace Go.Ev
def B32:Nat:=4294967296
def U32(l:List Nat):Prop := ∀ x∈l,x<B32
def top(l:List Nat):Nat→Nat
 | 0=>0
 | n+1=>match l[n]? with | some 0=>top l n | _=>n+1
def norm(l:List Nat):List Nat:=l.take (top l l.length)
theorem zjH(l:List Nat)(n:Nat):top l n≤n:=by
 induction n with
 | zero=>simp[top]
 | succ n ih=>unfold top;split<;>omega
/-- by a small one, from the top: quotient and what is left -/
def small(d:Nat):List Nat→List Nat×Nat
 | []=>([],0)
 | x::r=>(((small d r).2 * B32+x) / d::(small d r).1,((small d r).2 * B32+x) % d)
theorem zed(d:Nat)(l:List Nat):(small d l).1.length=l.length:=by induction l<;>simp_all [small]
theorem zdi(d:Nat)(hd:0<d)(l:List Nat):(small d l).2<d:=by cases l<;>simp[small,hd,Nat.mod_lt]
def xx:List Nat→Nat
 | []=>0
 | x::r=>x+B32 * xx r
theorem zei(d:Nat)(hd:0<d)(l:List Nat):xx (small d l).1=xx l / d∧(small d l).2=xx l % d:=by
 induction l with
 | nil=>simp[small,xx]
 | cons x r ih=>
  obtain⟨h1,h2⟩:=ih
  have e:x+B32 * xx r=(xx r % d * B32+x)+d * (B32 * (xx r / d)):=by
   have:=Nat.div_add_mod (xx r) d
   calc x+B32 * xx r=x+B32 * (d * (xx r / d)+xx r % d):=by rw[this]
    _=_:=by rw[Nat.mul_add];ac_rfl
  refine⟨?_,?_⟩
  ·simp only[small,xx,h1,h2]
   rw[e,Nat.add_mul_div_left _ _ hd]
  ·simp only[small,xx,h2]
   rw[e,Nat.add_mul_mod_self_left]
theorem zlQ(d:Nat)(hd:0<d)(l:List Nat)(hu:U32 l):U32 (small d l).1:=by
 induction l with
 | nil=>intro x hx;simp[small]at hx
 | cons x r ih=>
  intro y hy
  simp only[small,zS]at hy
  rcases hy with rfl | hy
  ·have h1:=zdi d hd r
   have h2:=hu x (by simp)
   rw[Nat.div_lt_iff_lt_mul hd]
   have:(small d r).2 * B32+B32≤d * B32:=by rw[← Nat.succ_mul];exact zW _ h1
   rw[Nat.mul_comm B32 d];omega
  ·exact ih (fun z hz=>hu z (by simp[hz])) y hy
def Nrm(l:List Nat):Prop:=l[l.length - 1]?≠some 0
theorem zmH(l:List Nat)(n:Nat)(hn:n≤l.length):top l n=0∨l[top l n - 1]?≠some 0:=by
 induction n with
 | zero=>simp[top]
 | succ n ih=>
  unfold top
  split
  ·exact ih (by omega)
  ·next h=>exact .inr (by simpa using h)
theorem zod(l:List Nat):(norm l).length=top l l.length:=by
 have:=zjH l l.length;simp[norm];omega
theorem zhj(l:List Nat):Nrm (norm l):=by
 have hle:=zjH l l.length
 unfold Nrm
 rw[zod]
 rcases zmH l l.length (zR _)with h | h
 ·have:norm l=[]:=by rw[norm,h];rfl
  rw[this];simp
 ·by_cases h0:top l l.length=0
  ·have:norm l=[]:=by rw[norm,h0];rfl
   rw[this];simp
  ·rw[norm,List.getElem?_take]
   rw[if_pos (by omega)];exact h
theorem zmU{l:List Nat}(h:U32 l):U32 (norm l):=fun x hx=>h x (List.mem_of_mem_take hx)
theorem zou(l:List Nat)(n i:Nat)(h1:top l n≤i)(h2:i<n):l[i]?=some 0:=by
 induction n with
 | zero=>omega
 | succ n ih=>
  unfold top at h1
  split at h1
  ·next h=>
   rcases Nat.lt_or_ge i n with h3 | h3
   ·exact ih h1 h3
   ·have:i=n:=by omega
    rw[this];exact h
  ·omega
theorem zkL(l:List Nat)(t:Nat)(h : ∀ i,t≤i→i<l.length→l[i]?=some 0):xx (l.take t)=xx l:=by
 induction l generalizing t with
 | nil=>simp
 | cons x r ih=>
  cases t with
  | zero=>
   have h0:=h 0 (by omega) (by simp)
   have hr:=ih 0 (fun i hi hl=>by have:=h (i+1) (by omega) (by simp;omega);simpa using this)
   simp at h0 hr ⊢
   simp[xx,h0,← hr]
  | succ t=>
   have hr:=ih t (fun i hi hl=>by have:=h (i+1) (by omega) (by simp;omega);simpa using this)
   simp[xx,hr]
theorem zlO(l:List Nat):xx (norm l)=xx l:=zkL l _ (fun i h1 h2=>zou l _ i h1 h2)
theorem zlz(l:List Nat)(h:xx l=0) : ∀ x∈l,x=0:=by
 induction l with
 | nil=>simp
 | cons x r ih=>
  simp only[xx,B32]at h
  intro y hy
  rcases List.mem_cons.1 hy with rfl | hy
  ·omega
  ·exact ih (by omega) y hy
theorem zkz{l:List Nat}(h:Nrm l)(h0:xx l=0):l=[]:=by
 by_cases hl:l=[]
 ·exact hl
 ·exfalso
  have hlen:l.length - 1<l.length:=by cases l<;>simp_all
  apply h
  rw[zL hlen]
  rw[zlz l h0 _ (List.getElem_mem hlen)]
theorem zoW(l:List Nat)(h:U32 l):xx l<10 ^ (10 * l.length):=by
 induction l with
 | nil=>simp[xx]
 | cons x r ih=>
  have h1:=ih (fun y hy=>h y (by simp[hy]))
  have h2:=h x (by simp)
  have hB:B32≤10 ^ 10:=by decide
  simp only[xx,List.length_cons,Nat.mul_add,Nat.mul_one,Nat.pow_add]
  calc x+B32 * xx r<B32+B32 * xx r:=by omega
   _=B32 * (xx r+1):=by rw[Nat.mul_add];omega
   _≤10 ^ 10 * 10 ^ (10 * r.length):=Nat.mul_le_mul hB h1
   _=_:=Nat.mul_comm _ _
theorem zpO(n:Nat)(q:List V)(x y:V):(List.replicate (n+1) x++q).set n y=List.replicate n x++y::q:=by
 rw[List.replicate_succ',List.append_assoc,List.set_append_right _ _ (by simp)];simp
end Go.Ev
end
section
namespace Go.Ev
/-- texts that are valid: some of them -/
def dec8:Str→Option (List Nat)
 | []=>some []
 | 195::169::r=>(dec8 r).map (233 :: ·)
 | b::r=>if b.toNat<128 then(dec8 r).map (b.toNat :: ·)else none
def Nm.ok(n:Nm):Prop:=(n.m=[]∧n.neg=false∧n.e=0)∨(n.m≠[]∧U32 n.m∧n.m.length≤90∧Nrm n.m ∧ -1200≤n.e∧n.e≤1200∧(small 10 n.m).2≠0)
abbrev lt(a b:Str):Bool:=Op.bytesLess a b
theorem lt_irrefl(a:Str):lt a a=false:=by
 induction a with
 | nil=>rfl
 | cons x r ih=>simp[lt,Op.bytesLess]at *;exact ih
theorem lt_trans : ∀ {a b c:Str},lt a b=true→lt b c=true→lt a c=true
 | _,[],_,h,_=>by simp[lt,Op.bytesLess]at h
 | _,_::_,[],_,h=>by simp[lt,Op.bytesLess]at h
 | [],_::_,_::_,_,_=>by simp[lt,Op.bytesLess]
 | x::a,y::b,z::c,h,k=>by
  simp only[lt,Op.bytesLess,Bool.or_eq_true,zG,decide_eq_true_eq,beq_iff_eq]at h k ⊢
  rcases h with h | ⟨rfl,h⟩
  ·rcases k with k | ⟨rfl,k⟩
   ·exact .inl (UInt8.lt_trans h k)
   ·exact .inl h
  ·rcases k with k | ⟨rfl,k⟩
   ·exact .inl k
   ·exact .inr ⟨rfl,lt_trans h k⟩
theorem zbo : ∀ {a b:Str},a≠b→lt a b=false→lt b a=true
 | [],[],h,_=>(h rfl).elim
 | [],_::_,_,h=>by simp[lt,Op.bytesLess]at h
 | _::_,[],_,_=>by simp[lt,Op.bytesLess]
 | x::a,y::b,h,k=>by
  simp only[lt,Op.bytesLess,Bool.or_eq_false_iff,Bool.and_eq_false_iff,decide_eq_false_iff_not,beq_eq_false_iff_ne,Bool.or_eq_true,zG,decide_eq_true_eq,beq_iff_eq]at k ⊢
  by_cases hxy:x=y
  ·subst hxy
   right
   refine⟨rfl,zbo (fun e=>h (by rw[e])) ?_⟩
   exact k.2.resolve_left (fun e=>e rfl)
  ·left
   rcases UInt8.lt_or_eq_of_le (UInt8.not_lt.1 k.1)with h1 | h1
   ·exact h1
   ·exact(hxy h1.symm).elim
theorem zg5{a b:Str}(h:lt a b=true):lt b a=false:=by
 cases hb:lt b a with
 | false=>rfl
 | true=>have:=lt_trans h hb;rw[lt_irrefl]at this;contradiction
/-- the first place of a name -/
def pos(s:Str):List Str→Option Nat
 | []=>none
 | x::r=>if x=s then some 0 else(pos s r).map (· + 1)
theorem zjj{s:Str}{l:List Str}{i:Nat}(h:pos s l=some i):i<l.length:=by
 induction l generalizing i with
 | nil=>simp[pos]at h
 | cons x r ih=>
  simp only[pos]at h
  split at h
  ·injection h with h;subst h;simp
  ·rw[zB]at h
   obtain⟨j,hj,rfl⟩:=h
   have:=ih hj;simp;omega
abbrev AL:=List (Str×Tree)
def lk(n:Str):AL→Option Tree
 | []=>none
 | (k,v)::r=>if k=n then some v else lk n r
def names(l:AL):List Str:=l.map Prod.fst
def yn(l:AL):List Tree:=l.map Prod.snd
/-- with a name, in its place -/
def qU(n:Str)(v:Tree):AL→AL
 | []=>[(n,v)]
 | (k,w)::r=>if k=n then(n,v)::r else if lt n k then(n,v)::(k,w)::r else(k,w)::qU n v r
def YB(n:Str):AL→AL
 | []=>[]
 | (k,w)::r=>if k=n then r else(k,w)::YB n r
/-- names in order, none twice -/
def Srt:List Str→Prop
 | []=>True
 | x::r=>(∀ y∈r,lt x y=true)∧Srt r
def Qo(l:AL):Prop:=Srt (names l)
theorem JD{k:Str}{v:Tree}{r:AL}:Qo ((k,v)::r)↔(∀ y∈names r,lt k y=true)∧Qo r:=Iff.rfl
theorem zgM{n:Str}{l:AL}:lk n l=none↔n ∉ names l:=by
 induction l with
 | nil=>simp[lk,names]
 | cons p r ih=>
  obtain⟨k,v⟩:=p
  simp only[lk,names,List.map_cons,zS,not_or]
  split
  ·next h=>subst h;simp
  ·next h=>rw[ih];exact⟨fun h2=>⟨fun e=>h e.symm,h2⟩,fun h2=>h2.2⟩
theorem znP{n:Str}{l:AL}{v:Tree}(h:lk n l=some v):(n,v)∈l:=by
 induction l with
 | nil=>simp[lk]at h
 | cons p r ih=>
  obtain⟨k,w⟩:=p
  simp only[lk]at h
  split at h
  ·next e=>subst e;injection h with h;subst h;simp
  ·exact zP _ (ih h)
theorem zdC(n:Str)(v:Tree)(l:AL) : ∀ y∈names (qU n v l),y=n∨y∈names l:=by
 induction l with
 | nil=>intro y hy;simp[qU,names]at hy;exact .inl hy
 | cons p r ih=>
  obtain⟨k,w⟩:=p
  intro y hy
  simp only[qU]at hy
  split at hy
  ·simp only[names,List.map_cons,zS]at hy ⊢
   rcases hy with h | h
   ·exact .inl h
   ·exact .inr (.inr h)
  ·split at hy
   ·simp only[names,List.map_cons,zS]at hy ⊢
    rcases hy with h | h | h
    ·exact .inl h
    ·exact .inr (.inl h)
    ·exact .inr (.inr h)
   ·simp only[names,List.map_cons,zS]at hy ⊢
    rcases hy with h | h
    ·exact .inr (.inl h)
    ·exact(ih y h).imp id .inr
theorem zkg{n:Str}{v:Tree}{l:AL}(h:Qo l):Qo (qU n v l):=by
 induction l with
 | nil=>exact⟨fun y hy=>by simp at hy,trivial⟩
 | cons p r ih=>
  obtain⟨k,w⟩:=p
  obtain⟨h1,h2⟩:=JD.1 h
  simp only[qU]
  split
  ·next e=>subst e;exact⟨h1,h2⟩
  ·next hne=>
   split
   ·next hlt=>
    refine⟨fun y hy => ?_,h1,h2⟩
    have hy:y∈k::names r:=hy
    rcases List.mem_cons.1 hy with e | hy
    ·rw[e];exact hlt
    ·exact lt_trans hlt (h1 y hy)
   ·next hlt=>
    refine⟨fun y hy => ?_,ih h2⟩
    rcases zdC n v r y hy with rfl | hy
    ·exact zbo (fun e=>hne e.symm) (by simpa using hlt)
    ·exact h1 y hy
theorem zdP(n:Str)(l:AL) : ∀ y∈names (YB n l),y∈names l:=by
 induction l with
 | nil=>intro y hy;exact hy
 | cons p r ih=>
  obtain⟨k,w⟩:=p
  intro y hy
  simp only[YB]at hy
  split at hy
  ·exact zP _ hy
  ·rcases List.mem_cons.1 hy with rfl | hy
   ·exact List.mem_cons_self
   ·exact zP _ (ih y hy)
theorem zpr{n:Str}{l:AL}(h:Qo l):Qo (YB n l):=by
 induction l with
 | nil=>exact h
 | cons p r ih=>
  obtain⟨k,w⟩:=p
  obtain⟨h1,h2⟩:=JD.1 h
  simp only[YB]
  split
  ·exact h2
  ·exact⟨fun y hy=>h1 y (zdP n r y hy),ih h2⟩
theorem zku{n:Str}{v:Tree}{l:AL}{q:Str×Tree}(h:q∈qU n v l):q=(n,v)∨q∈l:=by
 induction l with
 | nil=>simp[qU]at h;exact .inl h
 | cons p r ih=>
  obtain⟨k,w⟩:=p
  simp only[qU]at h
  split at h
  ·rcases List.mem_cons.1 h with h | h
   ·exact .inl h
   ·exact .inr (zP _ h)
  ·split at h
   ·rcases List.mem_cons.1 h with h | h
    ·exact .inl h
    ·exact .inr h
   ·rcases List.mem_cons.1 h with h | h
    ·exact .inr (by rw[h];exact List.mem_cons_self)
    ·exact(ih h).imp id (zP _)
theorem zpw{n:Str}{l:AL}{q:Str×Tree}(h:q∈YB n l):q∈l:=by
 induction l with
 | nil=>exact h
 | cons p r ih=>
  obtain⟨k,w⟩:=p
  simp only[YB]at h
  split at h
  ·exact zP _ h
  ·rcases List.mem_cons.1 h with h | h
   ·rw[h];exact List.mem_cons_self
   ·exact zP _ (ih h)
/-- an object -/
def obj(l:AL):Tree := .mk 7 false .zero [] (names l) (yn l)
def null:Tree := .mk 1 false .zero [] [] []
theorem jg(l:AL):(names l).length=l.length:=by simp[names]
theorem jf(l:AL):(yn l).length=l.length:=by simp[yn]
/-- its members -/
def al(t:Tree):AL:=if t.kind=7 then t.k.zip t.v else[]
theorem zqq(l:AL):(names l).zip (yn l)=l:=by
 induction l with
 | nil=>rfl
 | cons p r ih=>
  show(p.1,p.2)::(names r).zip (yn r)=_
  rw[ih]
theorem zf1(l:AL):al (obj l)=l:=by
 show(if(7:Int)=7 then(names l).zip (yn l)else[])=l
 rw[if_pos rfl];exact zqq l
theorem X9{t:Tree}(h:t.kind≠7):al t=[]:=if_neg h
end Go.Ev
end
section
namespace Go.Ev
inductive OkT:Tree→Prop
 | null:OkT null
 | bool (b:Bool):OkT (.mk 2 b .zero [] [] [])
 | num (n:Nm) (h:n.ok):OkT (.mk 3 false n [] [] [])
 | text (s:Str) (h:(dec8 s).isSome=true) (hl:s.length≤2000):OkT (.mk 4 false .zero s [] [])
 | bytes (s:Str) (hl:s.length≤2000):OkT (.mk 5 false .zero s [] [])
 | arr (v:List Tree) (hl:v.length≤300) (hv : ∀ x,x∈v→OkT x):OkT (.mk 6 false .zero [] [] v)
 | obj (l:AL) (hs:Qo l) (hl:l.length≤300) (hn : ∀ x,x∈names l→(dec8 x).isSome=true∧x.length≤2000) (hv : ∀ q,q∈l→OkT q.2):OkT (obj l)
mutual
def mrg:Tree→Tree→Tree
 | t,.mk kind b n s k v=>if kind=7 then obj (mrgA (al t) k v)else .mk kind b n s k v
def mrgA:AL→List Str→List Tree→AL
 | u,ks,[]=>u
 | u,[],_::_=>u
 | u,k::ks,v::vs=>mrgA (if v.kind=1 then YB k u else qU k (mrg ((lk k u).getD null) v) u) ks vs
end
/-- in order everywhere -/
inductive SrtT:Tree→Prop
 | mk (t:Tree) (h:Qo (al t)) (hv : ∀ q,q∈al t→SrtT q.2):SrtT t
theorem SrtT.no{t:Tree}(h:t.kind≠7):SrtT t := .mk t (by rw[X9 h];trivial) (fun q hq=>by rw[X9 h]at hq;simp at hq)
theorem SrtT.null:SrtT null := .no (by simp[Tree.kind,Ev.null])
theorem OkT.srt{t:Tree}(h:OkT t):SrtT t:=by
 induction h with
 | obj l hs hl hn hv ih=>exact .mk _ (by rw[zf1];exact hs) (fun q hq=>by rw[zf1]at hq;exact ih q hq)
 | _=>exact .no (by simp[Tree.kind,Ev.null])
theorem SrtT.lk{t:Tree}(h:SrtT t)(m:Str):SrtT ((lk m (al t)).getD Ev.null):=by
 cases h with
 | mk _ h hv=>
  cases hx:Ev.lk m (al t)with
  | none=>exact .null
  | some x=>exact hv _ (znP hx)
mutual
def cln:Tree→Bool
 | .mk kind _ _ _ _ v=>if kind=7 then clnL v else true
def clnL:List Tree→Bool
 | []=>true
 | x::r=>if x.kind=1 then false else if cln x then clnL r else false
end
/-- at most so many in each, so deep -/
inductive Bnd(c:Nat):Nat→Tree→Prop
 | mk (d:Nat) (t:Tree) (hl:t.v.length≤c) (hv : ∀ x,x∈t.v→Bnd c d x):Bnd c (d+1) t
theorem Bnd.mono{c c' d:Nat}(h:c≤c'){t:Tree}(ht:Bnd c d t):Bnd c' d t:=by
 induction ht with
 | mk d t hl hv ih=>exact .mk d t (Nat.le_trans hl h) ih
theorem Bnd.null(c d:Nat):Bnd c (d+1) null := .mk d _ (Nat.zero_le _) (fun x hx=>by simp[Ev.null,Tree.v]at hx)
theorem zsx{t:Tree}{q:Str×Tree}(h:q∈al t):q.2∈t.v:=by
 unfold al at h
 split at h
 ·obtain⟨k,v⟩:=q;exact(List.of_mem_zip h).2
 ·simp at h
theorem zgj(t:Tree):(al t).length≤t.v.length:=by
 unfold al
 split
 ·rw[List.length_zip];exact Nat.min_le_right _ _
 ·simp
mutual
def vo:Tree→Nat
 | .mk _ _ _ _ _ v=>1+nodesL v
def nodesL:List Tree→Nat
 | []=>0
 | x::r=>vo x+nodesL r
end
theorem vW(t:Tree):vo t=1+nodesL t.v:=by cases t;rw[vo];rfl
end Go.Ev
end
section
namespace Go.Ev
theorem zfH{P:Program}{n:Nat}{t:TypeId}{k:IntKind}{xs:List V}(hu:P.underlying t=some (.int k))(h:Ty P n t xs) : ∃ z,(Lit.int k z).wf=true∧mkV P t xs = .int k z:=by
 cases n with
 | zero=>exact h.elim
 | succ n=>
  unfold Ty at h
  rw[hu]at h
  obtain⟨z,hz,rfl⟩:=h
  refine⟨z,hz,?_⟩
  unfold mkV jZ
  rw[hu];rfl
end Go.Ev
end
section
namespace Go.Ev
def zhO:Nat→Nat→List Nat
 | 0,_=>[]
 | f+1,n=>if n=0 then[]else n % B32::zhO f (n / B32)
def toL(n:Nat):List Nat:=zhO n n
theorem zmo(f:Nat) : ∀ g n,n≤f→n≤g→zhO f n=zhO g n:=by
 induction f with
 | zero=>
   intro g n h1 h2;have:n=0:=by omega
   subst this;cases g<;>simp[zhO]
 | succ f ih=>
  intro g n h1 h2
  cases g with
  | zero=>
    have:n=0:=by omega
    subst this;simp[zhO]
  | succ g=>
   simp only[zhO]
   by_cases h:n=0
   ·simp[h]
   ·rw[if_neg h,if_neg h]
    have:n / B32<n:=Nat.div_lt_self (by omega) (by decide)
    rw[ih g (n / B32) (by omega) (by omega)]
theorem zdg:toL 0=[]:=rfl
theorem zbs(n:Nat)(h:n≠0):toL n=n % B32::toL (n / B32):=by
 unfold toL
 cases n with
 | zero=>exact(h rfl).elim
 | succ n=>
  rw[zhO,if_neg h]
  have:(n+1) / B32<n+1:=Nat.div_lt_self (by omega) (by decide)
  rw[zmo n ((n+1) / B32) _ (by omega) (zR _)]
theorem zfR(n:Nat):U32 (toL n):=by
 induction n using Nat.strongRecOn with
 | _ n ih=>
  by_cases h:n=0
  ·subst h;intro x hx;simp[zdg]at hx
  ·rw[zbs n h]
   intro x hx
   rcases List.mem_cons.1 hx with rfl | hx
   ·exact Nat.mod_lt _ (by decide)
   ·exact ih (n / B32) (Nat.div_lt_self (by omega) (by decide)) x hx
theorem WB(n:Nat):xx (toL n)=n:=by
 induction n using Nat.strongRecOn with
 | _ n ih=>
  by_cases h:n=0
  ·subst h;rfl
  ·rw[zbs n h,xx,ih _ (Nat.div_lt_self (by omega) (by decide))]
   exact Nat.mod_add_div n B32
theorem zpK{n:Nat}:toL n=[]↔n=0:=by
 constructor
 ·intro h;have:=WB n;rw[h]at this;exact this.symm
 ·rintro rfl;rfl
theorem zoF{x:Nat}{r:List Nat}(h:Nrm (x::r)):Nrm r:=by
 cases r with
 | nil=>simp[Nrm]
 | cons y s=>simpa[Nrm]using h
/-- normal lists are the naturals' own -/
theorem zpp(l:List Nat)(h:Nrm l)(hu:U32 l):l=toL (xx l):=by
 induction l with
 | nil=>rfl
 | cons x r ih=>
  have hx:x<B32:=hu x (by simp)
  have hr:=ih (zoF h) (fun y hy=>hu y (by simp[hy]))
  have h0:xx (x::r)≠0:=by
   intro h0
   have:=zkz h h0
   simp at this
  have hd:(x+B32 * xx r) / B32=xx r:=by rw[Nat.add_mul_div_left _ _ (by decide),Nat.div_eq_of_lt hx,Nat.zero_add]
  have hm:(x+B32 * xx r) % B32=x:=by rw[Nat.add_mul_mod_self_left,Nat.mod_eq_of_lt hx]
  rw[zbs _ h0]
  simp only[xx]
  rw[hd,hm,← hr]
theorem zh7{l:List Nat}(hu:U32 l):norm l=toL (xx l):=by
 rw[zpp (norm l) (zhj l) (zmU hu),zlO]
theorem zpM(n:Nat):Nrm (toL n):=by
 have h:=zh7 (zfR n)
 rw[WB]at h
 rw[← h];exact zhj _
theorem zgw(a b:List Nat):xx (a++b)=xx a+B32 ^ a.length * xx b:=by
 induction a with
 | nil=>simp[xx]
 | cons x r ih=>simp only[List.cons_append,xx,ih,List.length_cons,Nat.pow_succ,Nat.mul_add];rw[Nat.mul_comm (B32 ^ r.length) B32,Nat.mul_assoc];omega
theorem zgu(l:List Nat)(h:U32 l):xx l<B32 ^ l.length:=by
 induction l with
 | nil=>simp[xx]
 | cons x r ih=>
  have h1:=ih (fun y hy=>h y (by simp[hy]))
  have h2:=h x (by simp)
  simp only[xx,List.length_cons,Nat.pow_succ]
  calc x+B32 * xx r<B32 * (xx r+1):=by rw[Nat.mul_add];omega
   _≤B32 * B32 ^ r.length:=Nat.mul_le_mul_left _ h1
   _=_:=Nat.mul_comm _ _
theorem zkH{n k:Nat}(h:n<B32 ^ k):(toL n).length≤k:=by
 rcases Nat.lt_or_ge k (toL n).length with h1 | h1
 ·exfalso
  have hl:(toL n).length - 1<(toL n).length:=by omega
  have hne:(toL n)[(toL n).length - 1]≠0:=by
   intro h0;apply zpM n;rw[zL hl,h0]
  have:xx ((toL n).take ((toL n).length - 1)++(toL n).drop ((toL n).length - 1))=n:=by rw[List.take_append_drop];exact WB n
  rw[zgw,zO hl]at this
  simp only[xx,List.length_take]at this
  have h2:B32 ^ k≤B32 ^ ((toL n).length - 1):=Nat.pow_le_pow_right (by decide) (by omega)
  have h3:B32 ^ ((toL n).length - 1) * 1≤B32 ^ ((toL n).length - 1) * (toL n)[(toL n).length - 1]:=Nat.mul_le_mul_left _ (by omega)
  rw[Nat.min_eq_left (by omega),Nat.mul_add]at this
  omega
 ·exact h1
/-- the limb at a place, nought above -/
def lat(l:List Nat)(i:Nat):Nat:=l[i]?.getD 0
end Go.Ev
end
section
namespace Go.Ev
theorem zfa{α:Type}(xs ys:List α)(h:xs.length=ys.length):xR xs 0 ys=ys:=by
 unfold xR;simp[h]
end Go.Ev
end
section
namespace Go.Ev
/-- without the tens that divide it, and how many they were (so many looks) -/
def Wq:Nat→Nat→Nat×Nat
 | 0,n=>(n,0)
 | f+1,n=>if n≠0∧n % 10=0 then((Wq f (n / 10)).1,(Wq f (n / 10)).2+1)else(n,0)
theorem zjs(f:Nat) : ∀ g n,n<10 ^ f→n<10 ^ g→Wq f n=Wq g n:=by
 induction f with
 | zero=>
  intro g n h1 h2
  have:n=0:=by simpa using h1
  subst this
  cases g<;>simp[Wq]
 | succ f ih=>
  intro g n h1 h2
  cases g with
  | zero=>
   have:n=0:=by simpa using h2
   subst this;simp[Wq]
  | succ g=>
   simp only[Wq]
   by_cases h:n≠0∧n % 10=0
   ·rw[if_pos h,if_pos h]
    rw[ih g (n / 10) (by rw[Nat.div_lt_iff_lt_mul (by decide)];rw[Nat.pow_succ]at h1;exact h1) (by rw[Nat.div_lt_iff_lt_mul (by decide)];rw[Nat.pow_succ]at h2;exact h2)]
   ·rw[if_neg h,if_neg h]
def XO(n:Nat):Nat×Nat:=Wq n n
theorem XJ(n:Nat):n<10 ^ n:=Nat.lt_pow_self (by decide)
theorem zf9(n f:Nat)(h:n<10 ^ f):XO n=Wq f n:=zjs n f n (XJ n) h
theorem ze7{n:Nat}(h:n≠0)(h2:n % 10=0):XO n=((XO (n / 10)).1,(XO (n / 10)).2+1):=by
 have h3:n / 10<10 ^ n:=Nat.lt_of_le_of_lt (Nat.div_le_self _ _) (XJ n)
 rw[zf9 n (n+1) (Nat.lt_trans (XJ n) (Nat.pow_lt_pow_succ (by decide))),Wq,if_pos ⟨h,h2⟩,zf9 (n / 10) n h3]
theorem zeF{n:Nat}(h:n=0∨n % 10≠0):XO n=(n,0):=by
 rw[zf9 n (n+1) (Nat.lt_trans (XJ n) (Nat.pow_lt_pow_succ (by decide))),Wq,if_neg]
 rintro⟨h1,h2⟩
 rcases h with h | h
 ·exact h1 h
 ·exact h h2
theorem zd1:XO 0=(0,0):=rfl
/-- the number of a sign, a natural, tens -/
def mk(neg:Bool)(n:Nat)(e:Int):Nm×Bool:=
 if n=0 then(.zero,true)
 else if 90<(toL (XO n).1).length∨e+(XO n).2 < -1200∨1200<e+(XO n).2 then(.zero,false)
 else(⟨neg,toL (XO n).1,e+(XO n).2⟩,true)
end Go.Ev
end
section
namespace Go.Ev
/-- a token's digits behind a number -/
def dig:Nat→Str→Option Nat
 | n,[]=>some n
 | n,b::r=>if b.toNat<48∨57<b.toNat then none else dig (10 * n+(b.toNat - 48)) r
def ziC(s:Str):Option Nat:=if s=[]∨4<s.length∨(s.headD 0=48∧1<s.length)then none else dig 0 s
/-- a token as a number that is not above the greatest -/
def qh(s:Str)(most:Int):Option Nat:=(ziC s).bind fun n=>if(n:Int)≤most then some n else none
theorem zke{s:Str}{most:Int}{n:Nat}(h:qh s most=some n):(n:Int)≤most:=by
 unfold qh at h
 rw[zA]at h
 obtain⟨m,_,h⟩:=h
 split at h
 ·injection h with h;subst h;assumption
 ·contradiction
theorem zl9{s:Str}{a b:Int}{n:Nat}(h:qh s a=some n)(hb:(n:Int)≤b):qh s b=some n:=by
 unfold qh at h ⊢
 rw[zA]at h ⊢
 obtain⟨m,h1,h⟩:=h
 split at h
 ·injection h with h;subst h;exact⟨_,h1,if_pos hb⟩
 ·contradiction
/-- the value one token on -/
def child(t:Tree)(s:Str):Option Tree:=if t.kind=6 then(qh s ((t.v.length:Int) - 1)).bind fun i=>t.v[i]? else lk s (al t)
def wU:Tree→List Str→Option Tree
 | t,[]=>some t
 | t,s::r=>(child t s).bind fun x=>wU x r
def zlv(t:Tree)(v:List Tree):Tree := .mk t.kind t.b t.n t.s t.k v
/-- with another value one token on -/
def zdH(t:Tree)(s:Str)(y:Tree):Tree:=if t.kind=7 then obj (qU s y (al t))else zlv t (t.v.set ((qh s ((t.v.length:Int) - 1)).getD 0) y)
def Wk:Tree→List Str→Tree→Option Tree
 | _,[],v=>some v
 | t,s::r,v=>(child t s).bind fun x=>(Wk x r v).map fun y=>zdH t s y
theorem zon(t:Tree)(p q:List Str):wU t (p++q)=(wU t p).bind fun x=>wU x q:=by
 induction p generalizing t with
 | nil=>rfl
 | cons s r ih=>
  show(child t s).bind (fun x=>wU x (r++q))=((child t s).bind fun x=>wU x r).bind fun x=>wU x q
  cases child t s with
  | none=>rfl
  | some x=>exact ih x
/-- a value, or none -/
def Wg(o:Option Tree):V:=match o with
 | some x => .tup [x.val,.bool true]
 | none => .tup [Tree.zero.val,.bool false]
end Go.Ev
end
