/- Values and plain facts that the specifications lean on. -/
import Derived.Test.YtdhfnobijejpcaaDoorKEvD
import Derived.IntWalk
import Derived.Laws.BitsAllLaws
import Derived.Laws.BitsLemmas
set_option linter.all false
open Option renaming map_eq_some_iff→zB,bind_some→zD
open Bool renaming and_eq_true→zG
open List renaming getElem?_eq_getElem→zL,drop_eq_getElem_cons→zO,mem_cons_of_mem→zP,mem_cons→zS
open Nat renaming le_refl→zR,mul_le_mul_right→zW
open Int renaming natCast_nonneg→zY
section
namespace Go.Ev
abbrev Str:=List UInt8
structure Nm where
 neg:Bool
 m:List Nat
 e:Int
inductive Tree where
 | mk (kind:Int) (b:Bool) (n:Nm) (s:Str) (k:List Str) (v:List Tree)
def strs(l:List Str):List V:=l.map .str
def limbs(l:List Nat):List V:=l.map fun(x:Nat)=>V.int .u32 (x:Int)
def ints(l:List Int):List V:=l.map (.int .i64)
def Nm.val(n:Nm):V := .agg [.bool n.neg,.sl (limbs n.m),.int .i64 n.e]
mutual
def Tree.val:Tree→V
 | .mk kind b n s k v => .agg [.int .i64 kind,.bool b,.bool n.neg,.sl (limbs n.m),.int .i64 n.e,.str s,.sl (strs k),.sl (vals v)]
def vals:List Tree→List V
 | []=>[]
 | t::r=>t.val::vals r
end
theorem vals_map(l:List Tree):vals l=l.map Tree.val:=by induction l<;>simp_all [vals]
def trs(l:List Tree):List V:=l.map Tree.val
def Tree.kind:Tree→Int | .mk k _ _ _ _ _=>k
def Tree.b:Tree→Bool | .mk _ b _ _ _ _=>b
def Tree.n:Tree→Nm | .mk _ _ n _ _ _=>n
def Tree.s:Tree→Str | .mk _ _ _ s _ _=>s
def Tree.k:Tree→List Str | .mk _ _ _ _ k _=>k
def Tree.v:Tree→List Tree | .mk _ _ _ _ _ v=>v
theorem Tree.val_eq(t:Tree):t.val = .agg [.int .i64 t.kind,.bool t.b,.bool t.n.neg,.sl (limbs t.n.m),.int .i64 t.n.e,.str t.s,.sl (strs t.k),.sl (trs t.v)]:=by
 cases t;simp[Tree.val,vals_map,trs,kind,b,n,s,k,v]
def Nm.zero:Nm:=⟨false,[],0⟩
def Tree.zero:Tree := .mk 0 false .zero [] [] []
/- no 'rfl' here: simp is to lay down each step, so that the kernel need not run what follows -/
theorem some_bind{α β:Type}(a:α)(f:α→Option β):(some a).bind f=f a:=by rw[zD]
theorem tst_t{ρ:Type}(k:Option ρ):tst true k=k:=by unfold tst;split<;>simp_all
/- simp looks at the head alone: what follows waits until its turn (tick: a premise that simp always turns, so that the law is always taken) -/
def tick:Prop:=True
@[simp] theorem tick_eq:tick=True:=propext ⟨fun _=>trivial,fun _=>trivial⟩
@[congr] theorem bind_head{α β:Type}{x y:Option α}{f:α→Option β}{p:Prop}(_:tick=p)(h:x=y):x.bind f=y.bind f:=by rw[h]
@[congr] theorem tst_head{ρ:Type}{b c:Bool}{k:Option ρ}{p:Prop}(_:tick=p)(h:b=c):tst b k=tst c k:=by rw[h]
@[congr] theorem ite_head{α:Sort _}{c d:Prop}{s:Decidable c}[Decidable d]{a b:α}{p:Prop}(_:tick=p)(h:c=d):ite c a b=ite d a b:=by subst h;congr
def Yes{α:Type}(x:Option α)(r:α):Prop:=x=some r
@[simp] theorem Yes_some{α:Type}(a b:α):Yes (some a) b↔a=b:=by simp[Yes]
theorem yes{α:Type}{x:Option α}{r:α}(h:Yes x r):x=some r:=h
theorem asBool_b(b:Bool):asBool (.bool b)=some b:=rfl
theorem asStr_s(s:Str):asStr (.str s)=some s:=rfl
theorem okN_int(k:IntKind)(n:Int):okN 1 (.int k n)=true:=rfl
theorem okN_bool(b:Bool):okN 1 (.bool b)=true:=rfl
theorem okN_str(s:Str):okN 1 (.str s)=true:=rfl
theorem okN_sl(l:List V):okN 1 (.sl l)=true:=rfl
theorem okN_nm(n:Nm):okN 3 n.val=true:=rfl
theorem okN_num(a b c:V):okN 3 (.agg [a,b,c])=(a.one && (b.one && (c.one && true))):=rfl
theorem okN_tr(a b c d e f g h:V):okN 8 (.agg [a,b,c,d,e,f,g,h])=(a.one && (b.one && (c.one && (d.one && (e.one && (f.one && (g.one && (h.one && true)))))))):=rfl
theorem one_int(k:IntKind)(n:Int):(V.int k n).one=true:=rfl
theorem one_bool(b:Bool):(V.bool b).one=true:=rfl
theorem one_str(s:Str):(V.str s).one=true:=rfl
theorem one_sl(l:List V):(V.sl l).one=true:=rfl
theorem okN_tree(t:Tree):okN 8 t.val=true:=by rw[t.val_eq];rfl
theorem szOk_trs(l:List Tree):szOk 8 (trs l)=true:=by
 induction l with
 | nil=>rfl
 | cons t r ih=>show szOk 8 (t.val::trs r)=true;simp[szOk,okN_tree,ih]
theorem szOk_strs(l:List Str):szOk 1 (strs l)=true:=by
 induction l with
 | nil=>rfl
 | cons t r ih=>show szOk 1 (.str t::strs r)=true;simp[szOk,okN_str,ih]
theorem szOk_limbs(l:List Nat):szOk 1 (limbs l)=true:=by
 induction l with
 | nil=>rfl
 | cons t r ih=>show szOk 1 (.int .u32 t::limbs r)=true;simp[szOk,okN_int,ih]
theorem szOk_ints(l:List Int):szOk 1 (ints l)=true:=by
 induction l with
 | nil=>rfl
 | cons t r ih=>show szOk 1 (.int .i64 t::ints r)=true;simp[szOk,okN_int,ih]
theorem asSl_trs(l:List Tree):asSl 8 (.sl (trs l))=some (trs l):=by unfold asSl;simp only[szOk_trs]
theorem asSl_strs(l:List Str):asSl 1 (.sl (strs l))=some (strs l):=by unfold asSl;simp only[szOk_strs]
theorem asSl_limbs(l:List Nat):asSl 1 (.sl (limbs l))=some (limbs l):=by unfold asSl;simp only[szOk_limbs]
theorem asSl_ints(l:List Int):asSl 1 (.sl (ints l))=some (ints l):=by unfold asSl;simp only[szOk_ints]
theorem asSl_nil(n:Nat):asSl n (.sl [])=some []:=rfl
theorem asEl_trs(l:List Tree):asEl 8 (.sl (trs l))=some (trs l):=asSl_trs l
theorem asEl_strs(l:List Str):asEl 1 (.sl (strs l))=some (strs l):=asSl_strs l
theorem asEl_limbs(l:List Nat):asEl 1 (.sl (limbs l))=some (limbs l):=asSl_limbs l
theorem asEl_ints(l:List Int):asEl 1 (.sl (ints l))=some (ints l):=asSl_ints l
theorem fld_nm0(n:Nm):fldV n.val 0=some (.bool n.neg):=rfl
theorem fld_nm1(n:Nm):fldV n.val 1=some (.sl (limbs n.m)):=rfl
theorem fld_nm2(n:Nm):fldV n.val 2=some (.int .i64 n.e):=rfl
theorem fld0(t:Tree):fldV t.val 0=some (.int .i64 t.kind):=by rw[t.val_eq];rfl
theorem fld1(t:Tree):fldV t.val 1=some (.bool t.b):=by rw[t.val_eq];rfl
theorem fld2(t:Tree):fldV t.val 2=some (.bool t.n.neg):=by rw[t.val_eq];rfl
theorem fld3(t:Tree):fldV t.val 3=some (.sl (limbs t.n.m)):=by rw[t.val_eq];rfl
theorem fld4(t:Tree):fldV t.val 4=some (.int .i64 t.n.e):=by rw[t.val_eq];rfl
theorem fld5(t:Tree):fldV t.val 5=some (.str t.s):=by rw[t.val_eq];rfl
theorem fld6(t:Tree):fldV t.val 6=some (.sl (strs t.k)):=by rw[t.val_eq];rfl
theorem fld7(t:Tree):fldV t.val 7=some (.sl (trs t.v)):=by rw[t.val_eq];rfl
theorem fld_agg(l:List V)(i:Nat):fldV (.agg l) i=l[i]?:=rfl
theorem fld_str(s:Str):fldV (.str s) 0=some (.str s):=rfl
theorem fld_int(k:IntKind)(n:Int):fldV (.int k n) 0=some (.int k n):=rfl
theorem fld_bool(b:Bool):fldV (.bool b) 0=some (.bool b):=rfl
theorem fld_sl(l:List V):fldV (.sl l) 0=some (.sl l):=rfl
theorem lenV_sl(l:List V):lenV (.sl l)=some l.length:=rfl
theorem elems_sl(l:List V):V.elems (.sl l)=l:=rfl
theorem strs_len(l:List Str):(strs l).length=l.length:=by simp[strs]
theorem limbs_len(l:List Nat):(limbs l).length=l.length:=by simp[limbs]
theorem ints_len(l:List Int):(ints l).length=l.length:=by simp[ints]
theorem trs_len(l:List Tree):(trs l).length=l.length:=by simp[trs]
theorem strs_get(l:List Str)(i:Nat):(strs l)[i]?=l[i]?.map .str:=by simp[strs]
theorem limbs_get(l:List Nat)(i:Nat):(limbs l)[i]?=l[i]?.map (fun(x:Nat)=>V.int .u32 (x:Int)):=by simp[limbs]
theorem ints_get(l:List Int)(i:Nat):(ints l)[i]?=l[i]?.map (.int .i64):=by simp[ints]
theorem trs_get(l:List Tree)(i:Nat):(trs l)[i]?=l[i]?.map Tree.val:=by simp[trs]
theorem strs_gete(l:List Str)(i:Nat)(h:i<(strs l).length):(strs l)[i] = .str (l[i]'(by simpa[strs]using h)):=by simp[strs]
theorem limbs_gete(l:List Nat)(i:Nat)(h:i<(limbs l).length):(limbs l)[i] = .int .u32 ((l[i]'(by simpa[limbs]using h):Nat):Int):=by simp[limbs]
theorem ints_gete(l:List Int)(i:Nat)(h:i<(ints l).length):(ints l)[i] = .int .i64 (l[i]'(by simpa[ints]using h)):=by simp[ints]
theorem trs_gete(l:List Tree)(i:Nat)(h:i<(trs l).length):(trs l)[i]=(l[i]'(by simpa[trs]using h)).val:=by simp[trs]
theorem strs_drop(l:List Str)(i:Nat):(strs l).drop i=strs (l.drop i):=by simp[strs,List.map_drop]
theorem limbs_drop(l:List Nat)(i:Nat):(limbs l).drop i=limbs (l.drop i):=by simp[limbs,List.map_drop]
theorem ints_drop(l:List Int)(i:Nat):(ints l).drop i=ints (l.drop i):=by simp[ints,List.map_drop]
theorem trs_drop(l:List Tree)(i:Nat):(trs l).drop i=trs (l.drop i):=by simp[trs,List.map_drop]
theorem strs_take(l:List Str)(i:Nat):(strs l).take i=strs (l.take i):=by simp[strs,List.map_take]
theorem limbs_take(l:List Nat)(i:Nat):(limbs l).take i=limbs (l.take i):=by simp[limbs,List.map_take]
theorem ints_take(l:List Int)(i:Nat):(ints l).take i=ints (l.take i):=by simp[ints,List.map_take]
theorem trs_take(l:List Tree)(i:Nat):(trs l).take i=trs (l.take i):=by simp[trs,List.map_take]
theorem strs_app(l r:List Str):strs l++strs r=strs (l++r):=by simp[strs]
theorem limbs_app(l r:List Nat):limbs l++limbs r=limbs (l++r):=by simp[limbs]
theorem trs_app(l r:List Tree):trs l++trs r=trs (l++r):=by simp[trs]
theorem strs_set(l:List Str)(i:Nat)(x:Str):(strs l).set i (.str x)=strs (l.set i x):=by simp[strs,List.map_set]
theorem limbs_set(l:List Nat)(i:Nat)(x:Nat):(limbs l).set i (.int .u32 (x:Int))=limbs (l.set i x):=by simp[limbs,List.map_set]
theorem trs_set(l:List Tree)(i:Nat)(x:Tree):(trs l).set i x.val=trs (l.set i x):=by simp[trs,List.map_set]
section
variable (k:IntKind) (a b:Int)
theorem eql_i:binV .eql (.int k a) (.int k b)=some (.bool (decide (a=b))):=by simp[binV,intV,Bool.beq_eq_decide_eq]
theorem neq_i:binV .neq (.int k a) (.int k b)=some (.bool (!decide (a=b))):=by
 simp only[binV,intV,isShift,decide_true,Bool.or_true,if_pos,bne];congr 2
theorem lss_i:binV .lss (.int k a) (.int k b)=some (.bool (decide (a<b))):=by simp[binV,intV]
theorem leq_i:binV .leq (.int k a) (.int k b)=some (.bool (decide (a≤b))):=by simp[binV,intV]
theorem gtr_i:binV .gtr (.int k a) (.int k b)=some (.bool (decide (b<a))):=by simp[binV,intV]
theorem geq_i:binV .geq (.int k a) (.int k b)=some (.bool (decide (b≤a))):=by simp[binV,intV]
theorem add_i:binV .add (.int k a) (.int k b)=some (.int k (k.wrap (a+b))):=by simp[binV,intV]
theorem sub_i:binV .sub (.int k a) (.int k b)=some (.int k (k.wrap (a - b))):=by simp[binV,intV]
theorem mul_i:binV .mul (.int k a) (.int k b)=some (.int k (k.wrap (a * b))):=by simp[binV,intV]
theorem quo_i(h:b≠0):binV .quo (.int k a) (.int k b)=some (.int k (k.wrap (a.tdiv b))):=by simp[binV,intV,h]
theorem rem_i(h:b≠0):binV .rem (.int k a) (.int k b)=some (.int k (a.tmod b)):=by simp[binV,intV,h]
theorem shl_i(k':IntKind)(h:0≤b):binV .shl (.int k a) (.int k' b)=some (.int k (k.wrap (a * 2 ^ Nat.min b.toNat k.bits))):=by
 have : ¬ b<0:=by omega
 simp[binV,intV,isShift,this]
theorem cvi_i(k':IntKind):cviV k (.int k' a)=some (.int k (k.wrap a)):=rfl
theorem neg_i:unV .neg (.int k a)=some (.int k (k.wrap (0 - a))):=rfl
end
theorem w64{a:Int}(h : -9223372036854775808≤a∧a≤9223372036854775807):IntKind.i64.wrap a=a:=IntWalk.i64_in a h
theorem wu32{a:Int}(h:0≤a∧a≤4294967295):IntKind.u32.wrap a=a:=IntWalk.u32_in a h
theorem wu64{a:Int}(h:0≤a∧a≤18446744073709551615):IntKind.u64.wrap a=a:=IntWalk.u64_in a h
theorem eql_s(a b:Str):binV .eql (.str a) (.str b)=some (.bool (a == b)):=rfl
theorem neq_s(a b:Str):binV .neq (.str a) (.str b)=some (.bool (!(a == b))):=rfl
theorem lss_s(a b:Str):binV .lss (.str a) (.str b)=some (.bool (Op.bytesLess a b)):=rfl
theorem leq_s(a b:Str):binV .leq (.str a) (.str b)=some (.bool (Op.bytesLess a b || a == b)):=rfl
theorem gtr_s(a b:Str):binV .gtr (.str a) (.str b)=some (.bool !(Op.bytesLess a b || a == b)):=rfl
theorem geq_s(a b:Str):binV .geq (.str a) (.str b)=some (.bool !(Op.bytesLess a b)):=rfl
theorem not_b(b:Bool):unV .not (.bool b)=some (.bool !b):=rfl
theorem idx_i(k:IntKind)(i:Int)(n:Nat)(h:0≤i∧i<n):idxV (.int k i) n=some i.toNat:=if_pos h
theorem idx_0(k:IntKind)(n:Nat)(h:0<n):idxV (.int k 0) n=some 0:=if_pos ⟨Int.le_refl 0,by exact_mod_cast h⟩
theorem idx_nat(k:IntKind)(i n:Nat)(h:i<n):idxV (.int k (i:Int)) n=some i:=by
 rw[idx_i _ _ _ ⟨zY i,by exact_mod_cast h⟩];simp
theorem ext_tup(xs:List V)(i:Nat):extV (.tup xs) i=xs[i]?:=rfl
theorem bnd_to(k:IntKind)(i:Int)(n:Nat)(h:0≤i∧i≤n):bnd2 none (some (.int k i)) n=some (0,i.toNat):=by
 obtain⟨h1,h2⟩:=h
 obtain⟨j,rfl⟩:=Int.eq_ofNat_of_zero_le h1
 have:j≤n:=by exact_mod_cast h2
 simp[bnd2,bndV,this]
theorem bnd_from(k:IntKind)(i:Int)(n:Nat)(h:0≤i∧i≤n):bnd2 (some (.int k i)) none n=some (i.toNat,n):=by
 obtain⟨h1,h2⟩:=h
 obtain⟨j,rfl⟩:=Int.eq_ofNat_of_zero_le h1
 have:j≤n:=by exact_mod_cast h2
 simp[bnd2,bndV,this]
theorem mks_n(bytes n:Nat)(h:n * bytes≤140737488355328)(h2:n≤140737488355328):mksV bytes (.int .i64 n) (.int .i64 n)=some (n,n):=by
 have h1:(n:Int) * bytes≤((140737488355328:Nat):Int):=by rw[← Int.natCast_mul];exact Int.ofNat_le.2 h
 simp only[mksV]
 rw[if_pos ⟨zY n,Int.le_refl _,h1,by omega⟩];rfl
theorem app_ok(bytes n m:Nat)(h:(n+m) * bytes≤140737488355328)(h2:n+m≤140737488355328):appOk bytes n m=true:=by unfold appOk;rw[decide_eq_true h,decide_eq_true h2];rfl
theorem vec_0(x:V)(l:List V):vec (x::l) 0=x:=rfl
theorem vec_s(x:V)(l:List V)(i:Nat):vec (x::l) (i+1)=vec l i:=rfl
theorem loopL_inl{α β:Type}{f:α→Option (α ⊕ β)}{a a':α}(h:f a=some (.inl a')):loopL f a=loopL f a':=by rw[loopL_eq,h]
theorem loopL_inr{α β:Type}{f:α→Option (α ⊕ β)}{a:α}{b:β}(h:f a=some (.inr b)):loopL f a=some b:=by rw[loopL_eq,h]
theorem natv(k:IntKind)(n:Nat):natV (.int k (n:Int))=n:=by simp[natV]
attribute [simp] some_bind tst_t asBool_b asStr_s okN_int okN_bool okN_str okN_sl okN_nm okN_num okN_tr one_int one_bool one_str one_sl okN_tree szOk_trs szOk_strs szOk_limbs szOk_ints
attribute [simp] asSl_trs asSl_strs asSl_limbs asSl_ints asSl_nil asEl_trs asEl_strs asEl_limbs asEl_ints fld_nm0 fld_nm1 fld_nm2 fld0 fld1 fld2 fld3 fld4 fld5 fld6 fld7 fld_agg fld_str fld_int fld_bool fld_sl
attribute [simp] lenV_sl elems_sl strs_len limbs_len ints_len trs_len strs_get limbs_get ints_get trs_get strs_gete limbs_gete ints_gete trs_gete strs_drop limbs_drop ints_drop trs_drop strs_take limbs_take ints_take trs_take strs_app limbs_app trs_app strs_set limbs_set trs_set
attribute [simp] eql_i neq_i lss_i leq_i gtr_i geq_i add_i sub_i mul_i cvi_i neg_i eql_s neq_s lss_s leq_s gtr_s geq_s not_b ext_tup vec_0 vec_s natv
end Go.Ev
end
section
namespace Go.Ev
def B32:Nat:=4294967296
def U32(l:List Nat):Prop := ∀ x∈l,x<B32
def top(l:List Nat):Nat→Nat
 | 0=>0
 | n+1=>match l[n]? with | some 0=>top l n | _=>n+1
def norm(l:List Nat):List Nat:=l.take (top l l.length)
theorem top_le(l:List Nat)(n:Nat):top l n≤n:=by
 induction n with
 | zero=>simp[top]
 | succ n ih=>unfold top;split<;>omega
/-- by a small one, from the top: quotient and what is left -/
def small(d:Nat):List Nat→List Nat×Nat
 | []=>([],0)
 | x::r=>(((small d r).2 * B32+x) / d::(small d r).1,((small d r).2 * B32+x) % d)
theorem small_len(d:Nat)(l:List Nat):(small d l).1.length=l.length:=by induction l<;>simp_all [small]
theorem small_lt(d:Nat)(hd:0<d)(l:List Nat):(small d l).2<d:=by cases l<;>simp[small,hd,Nat.mod_lt]
def nval:List Nat→Nat
 | []=>0
 | x::r=>x+B32 * nval r
theorem small_val(d:Nat)(hd:0<d)(l:List Nat):nval (small d l).1=nval l / d∧(small d l).2=nval l % d:=by
 induction l with
 | nil=>simp[small,nval]
 | cons x r ih=>
  obtain⟨h1,h2⟩:=ih
  have e:x+B32 * nval r=(nval r % d * B32+x)+d * (B32 * (nval r / d)):=by
   have:=Nat.div_add_mod (nval r) d
   calc x+B32 * nval r=x+B32 * (d * (nval r / d)+nval r % d):=by rw[this]
    _=_:=by rw[Nat.mul_add];ac_rfl
  refine⟨?_,?_⟩
  ·simp only[small,nval,h1,h2]
   rw[e,Nat.add_mul_div_left _ _ hd]
  ·simp only[small,nval,h2]
   rw[e,Nat.add_mul_mod_self_left]
theorem small_u32(d:Nat)(hd:0<d)(l:List Nat)(hu:U32 l):U32 (small d l).1:=by
 induction l with
 | nil=>intro x hx;simp[small]at hx
 | cons x r ih=>
  intro y hy
  simp only[small,zS]at hy
  rcases hy with rfl | hy
  ·have h1:=small_lt d hd r
   have h2:=hu x (by simp)
   rw[Nat.div_lt_iff_lt_mul hd]
   have:(small d r).2 * B32+B32≤d * B32:=by rw[← Nat.succ_mul];exact zW _ h1
   rw[Nat.mul_comm B32 d];omega
  ·exact ih (fun z hz=>hu z (by simp[hz])) y hy
def Nrm(l:List Nat):Prop:=l[l.length - 1]?≠some 0
theorem top_last(l:List Nat)(n:Nat)(hn:n≤l.length):top l n=0∨l[top l n - 1]?≠some 0:=by
 induction n with
 | zero=>simp[top]
 | succ n ih=>
  unfold top
  split
  ·exact ih (by omega)
  ·next h=>exact .inr (by simpa using h)
theorem norm_len(l:List Nat):(norm l).length=top l l.length:=by
 have:=top_le l l.length;simp[norm];omega
theorem norm_nrm(l:List Nat):Nrm (norm l):=by
 have hle:=top_le l l.length
 unfold Nrm
 rw[norm_len]
 rcases top_last l l.length (zR _)with h | h
 ·have:norm l=[]:=by rw[norm,h];rfl
  rw[this];simp
 ·by_cases h0:top l l.length=0
  ·have:norm l=[]:=by rw[norm,h0];rfl
   rw[this];simp
  ·rw[norm,List.getElem?_take]
   rw[if_pos (by omega)];exact h
theorem norm_u32{l:List Nat}(h:U32 l):U32 (norm l):=fun x hx=>h x (List.mem_of_mem_take hx)
theorem top_zero(l:List Nat)(n i:Nat)(h1:top l n≤i)(h2:i<n):l[i]?=some 0:=by
 induction n with
 | zero=>omega
 | succ n ih=>
  unfold top at h1
  split at h1
  ·next h=>
   rcases Nat.lt_or_ge i n with h3 | h3
   ·exact ih h1 h3
   ·have:i=n:=by omega
    rw[this];exact h
  ·omega
theorem nval_take(l:List Nat)(t:Nat)(h : ∀ i,t≤i→i<l.length→l[i]?=some 0):nval (l.take t)=nval l:=by
 induction l generalizing t with
 | nil=>simp
 | cons x r ih=>
  cases t with
  | zero=>
   have h0:=h 0 (by omega) (by simp)
   have hr:=ih 0 (fun i hi hl=>by have:=h (i+1) (by omega) (by simp;omega);simpa using this)
   simp at h0 hr ⊢
   simp[nval,h0,← hr]
  | succ t=>
   have hr:=ih t (fun i hi hl=>by have:=h (i+1) (by omega) (by simp;omega);simpa using this)
   simp[nval,hr]
theorem nval_norm(l:List Nat):nval (norm l)=nval l:=nval_take l _ (fun i h1 h2=>top_zero l _ i h1 h2)
theorem nval_zero(l:List Nat)(h:nval l=0) : ∀ x∈l,x=0:=by
 induction l with
 | nil=>simp
 | cons x r ih=>
  simp only[nval,B32]at h
  intro y hy
  rcases List.mem_cons.1 hy with rfl | hy
  ·omega
  ·exact ih (by omega) y hy
theorem nrm_nil{l:List Nat}(h:Nrm l)(h0:nval l=0):l=[]:=by
 by_cases hl:l=[]
 ·exact hl
 ·exfalso
  have hlen:l.length - 1<l.length:=by cases l<;>simp_all
  apply h
  rw[zL hlen]
  rw[nval_zero l h0 _ (List.getElem_mem hlen)]
theorem nval_lt(l:List Nat)(h:U32 l):nval l<10 ^ (10 * l.length):=by
 induction l with
 | nil=>simp[nval]
 | cons x r ih=>
  have h1:=ih (fun y hy=>h y (by simp[hy]))
  have h2:=h x (by simp)
  have hB:B32≤10 ^ 10:=by decide
  simp only[nval,List.length_cons,Nat.mul_add,Nat.mul_one,Nat.pow_add]
  calc x+B32 * nval r<B32+B32 * nval r:=by omega
   _=B32 * (nval r+1):=by rw[Nat.mul_add];omega
   _≤10 ^ 10 * 10 ^ (10 * r.length):=Nat.mul_le_mul hB h1
   _=_:=Nat.mul_comm _ _
theorem set_rep(n:Nat)(q:List V)(x y:V):(List.replicate (n+1) x++q).set n y=List.replicate n x++y::q:=by
 rw[List.replicate_succ',List.append_assoc,List.set_append_right _ _ (by simp)];simp
end Go.Ev
end
section
namespace Go.Ev
/-- texts that are valid: some of them -/
def dec8:Str→Option (List Nat)
 | []=>some []
 | 195::169::r=>(dec8 r).map (233 :: ·)
 | b::r=>if b.toNat<128 then(dec8 r).map (b.toNat :: ·)else none
def Nm.ok(n:Nm):Prop:=(n.m=[]∧n.neg=false∧n.e=0)∨(n.m≠[]∧U32 n.m∧n.m.length≤90∧Nrm n.m ∧ -1200≤n.e∧n.e≤1200∧(small 10 n.m).2≠0)
abbrev lt(a b:Str):Bool:=Op.bytesLess a b
theorem lt_irrefl(a:Str):lt a a=false:=by
 induction a with
 | nil=>rfl
 | cons x r ih=>simp[lt,Op.bytesLess]at *;exact ih
theorem lt_trans : ∀ {a b c:Str},lt a b=true→lt b c=true→lt a c=true
 | _,[],_,h,_=>by simp[lt,Op.bytesLess]at h
 | _,_::_,[],_,h=>by simp[lt,Op.bytesLess]at h
 | [],_::_,_::_,_,_=>by simp[lt,Op.bytesLess]
 | x::a,y::b,z::c,h,k=>by
  simp only[lt,Op.bytesLess,Bool.or_eq_true,zG,decide_eq_true_eq,beq_iff_eq]at h k ⊢
  rcases h with h | ⟨rfl,h⟩
  ·rcases k with k | ⟨rfl,k⟩
   ·exact .inl (UInt8.lt_trans h k)
   ·exact .inl h
  ·rcases k with k | ⟨rfl,k⟩
   ·exact .inl k
   ·exact .inr ⟨rfl,lt_trans h k⟩
theorem lt_total : ∀ {a b:Str},a≠b→lt a b=false→lt b a=true
 | [],[],h,_=>(h rfl).elim
 | [],_::_,_,h=>by simp[lt,Op.bytesLess]at h
 | _::_,[],_,_=>by simp[lt,Op.bytesLess]
 | x::a,y::b,h,k=>by
  simp only[lt,Op.bytesLess,Bool.or_eq_false_iff,Bool.and_eq_false_iff,decide_eq_false_iff_not,beq_eq_false_iff_ne,Bool.or_eq_true,zG,decide_eq_true_eq,beq_iff_eq]at k ⊢
  by_cases hxy:x=y
  ·subst hxy
   right
   refine⟨rfl,lt_total (fun e=>h (by rw[e])) ?_⟩
   exact k.2.resolve_left (fun e=>e rfl)
  ·left
   rcases UInt8.lt_or_eq_of_le (UInt8.not_lt.1 k.1)with h1 | h1
   ·exact h1
   ·exact(hxy h1.symm).elim
theorem lt_ne{a b:Str}(h:lt a b=true):a≠b:=by rintro rfl;rw[lt_irrefl]at h;contradiction
theorem lt_asymm{a b:Str}(h:lt a b=true):lt b a=false:=by
 cases hb:lt b a with
 | false=>rfl
 | true=>have:=lt_trans h hb;rw[lt_irrefl]at this;contradiction
/-- the first place of a name -/
def pos(s:Str):List Str→Option Nat
 | []=>none
 | x::r=>if x=s then some 0 else(pos s r).map (· + 1)
theorem pos_lt{s:Str}{l:List Str}{i:Nat}(h:pos s l=some i):i<l.length:=by
 induction l generalizing i with
 | nil=>simp[pos]at h
 | cons x r ih=>
  simp only[pos]at h
  split at h
  ·injection h with h;subst h;simp
  ·rw[zB]at h
   obtain⟨j,hj,rfl⟩:=h
   have:=ih hj;simp;omega
abbrev AL:=List (Str×Tree)
def lk(n:Str):AL→Option Tree
 | []=>none
 | (k,v)::r=>if k=n then some v else lk n r
def names(l:AL):List Str:=l.map Prod.fst
def valsL(l:AL):List Tree:=l.map Prod.snd
/-- with a name, in its place -/
def setA(n:Str)(v:Tree):AL→AL
 | []=>[(n,v)]
 | (k,w)::r=>if k=n then(n,v)::r else if lt n k then(n,v)::(k,w)::r else(k,w)::setA n v r
def delA(n:Str):AL→AL
 | []=>[]
 | (k,w)::r=>if k=n then r else(k,w)::delA n r
/-- names in order, none twice -/
def Srt:List Str→Prop
 | []=>True
 | x::r=>(∀ y∈r,lt x y=true)∧Srt r
def SrtA(l:AL):Prop:=Srt (names l)
theorem srt_cons{k:Str}{v:Tree}{r:AL}:SrtA ((k,v)::r)↔(∀ y∈names r,lt k y=true)∧SrtA r:=Iff.rfl
theorem lk_names{n:Str}{l:AL}:lk n l=none↔n ∉ names l:=by
 induction l with
 | nil=>simp[lk,names]
 | cons p r ih=>
  obtain⟨k,v⟩:=p
  simp only[lk,names,List.map_cons,zS,not_or]
  split
  ·next h=>subst h;simp
  ·next h=>rw[ih];exact⟨fun h2=>⟨fun e=>h e.symm,h2⟩,fun h2=>h2.2⟩
theorem lk_mem{n:Str}{l:AL}{v:Tree}(h:lk n l=some v):(n,v)∈l:=by
 induction l with
 | nil=>simp[lk]at h
 | cons p r ih=>
  obtain⟨k,w⟩:=p
  simp only[lk]at h
  split at h
  ·next e=>subst e;injection h with h;subst h;simp
  ·exact zP _ (ih h)
theorem mem_lk{n:Str}{l:AL}{v:Tree}(hs:SrtA l)(h:(n,v)∈l):lk n l=some v:=by
 induction l with
 | nil=>simp at h
 | cons p r ih=>
  obtain⟨k,w⟩:=p
  obtain⟨h1,h2⟩:=srt_cons.1 hs
  rcases List.mem_cons.1 h with h | h
  ·injection h with h3 h4;subst h3;subst h4;simp[lk]
  ·have:n∈names r:=List.mem_map.2 ⟨_,h,rfl⟩
   have hne:k≠n:=lt_ne (h1 n this)
   simp only[lk,if_neg hne];exact ih h2 h
theorem names_set_sub(n:Str)(v:Tree)(l:AL) : ∀ y∈names (setA n v l),y=n∨y∈names l:=by
 induction l with
 | nil=>intro y hy;simp[setA,names]at hy;exact .inl hy
 | cons p r ih=>
  obtain⟨k,w⟩:=p
  intro y hy
  simp only[setA]at hy
  split at hy
  ·simp only[names,List.map_cons,zS]at hy ⊢
   rcases hy with h | h
   ·exact .inl h
   ·exact .inr (.inr h)
  ·split at hy
   ·simp only[names,List.map_cons,zS]at hy ⊢
    rcases hy with h | h | h
    ·exact .inl h
    ·exact .inr (.inl h)
    ·exact .inr (.inr h)
   ·simp only[names,List.map_cons,zS]at hy ⊢
    rcases hy with h | h
    ·exact .inr (.inl h)
    ·exact(ih y h).imp id .inr
theorem srt_set{n:Str}{v:Tree}{l:AL}(h:SrtA l):SrtA (setA n v l):=by
 induction l with
 | nil=>exact⟨fun y hy=>by simp at hy,trivial⟩
 | cons p r ih=>
  obtain⟨k,w⟩:=p
  obtain⟨h1,h2⟩:=srt_cons.1 h
  simp only[setA]
  split
  ·next e=>subst e;exact⟨h1,h2⟩
  ·next hne=>
   split
   ·next hlt=>
    refine⟨fun y hy => ?_,h1,h2⟩
    have hy:y∈k::names r:=hy
    rcases List.mem_cons.1 hy with e | hy
    ·rw[e];exact hlt
    ·exact lt_trans hlt (h1 y hy)
   ·next hlt=>
    refine⟨fun y hy => ?_,ih h2⟩
    rcases names_set_sub n v r y hy with rfl | hy
    ·exact lt_total (fun e=>hne e.symm) (by simpa using hlt)
    ·exact h1 y hy
theorem names_del_sub(n:Str)(l:AL) : ∀ y∈names (delA n l),y∈names l:=by
 induction l with
 | nil=>intro y hy;exact hy
 | cons p r ih=>
  obtain⟨k,w⟩:=p
  intro y hy
  simp only[delA]at hy
  split at hy
  ·exact zP _ hy
  ·rcases List.mem_cons.1 hy with rfl | hy
   ·exact List.mem_cons_self
   ·exact zP _ (ih y hy)
theorem srt_del{n:Str}{l:AL}(h:SrtA l):SrtA (delA n l):=by
 induction l with
 | nil=>exact h
 | cons p r ih=>
  obtain⟨k,w⟩:=p
  obtain⟨h1,h2⟩:=srt_cons.1 h
  simp only[delA]
  split
  ·exact h2
  ·exact⟨fun y hy=>h1 y (names_del_sub n r y hy),ih h2⟩
theorem lk_set{n m:Str}{v:Tree}{l:AL}(h:SrtA l):lk m (setA n v l)=if n=m then some v else lk m l:=by
 induction l with
 | nil=>rfl
 | cons p r ih=>
  obtain⟨k,w⟩:=p
  obtain⟨h1,h2⟩:=srt_cons.1 h
  simp only[setA]
  split
  ·next e=>subst e;simp only[lk];split<;>rfl
  ·next hne=>
   split
   ·simp only[lk]
   ·simp only[lk]
    split
    ·next e=>subst e;rw[if_neg (fun e=>hne e.symm)]
    ·exact ih h2
theorem lk_del{n m:Str}{l:AL}(h:SrtA l):lk m (delA n l)=if n=m then none else lk m l:=by
 induction l with
 | nil=>simp[delA,lk]
 | cons p r ih=>
  obtain⟨k,w⟩:=p
  obtain⟨h1,h2⟩:=srt_cons.1 h
  simp only[delA]
  split
  ·next e=>
   subst e
   split
   ·next e=>subst e;exact lk_names.2 (fun hm=>lt_ne (h1 _ hm) rfl)
   ·next hne=>simp only[lk,if_neg hne]
  ·next hne=>
   simp only[lk]
   split
   ·next e=>subst e;rw[if_neg (fun e=>hne e.symm)]
   ·exact ih h2
theorem len_set(n:Str)(v:Tree)(l:AL):(setA n v l).length≤l.length+1:=by
 induction l with
 | nil=>simp[setA]
 | cons p r ih=>
  obtain⟨k,w⟩:=p
  simp only[setA]
  split
  ·simp
  ·split
   ·simp
   ·simp;omega
theorem len_del(n:Str)(l:AL):(delA n l).length≤l.length:=by
 induction l with
 | nil=>simp[delA]
 | cons p r ih=>obtain⟨k,w⟩:=p;simp only[delA];split<;>simp<;>omega
theorem mem_set{n:Str}{v:Tree}{l:AL}{q:Str×Tree}(h:q∈setA n v l):q=(n,v)∨q∈l:=by
 induction l with
 | nil=>simp[setA]at h;exact .inl h
 | cons p r ih=>
  obtain⟨k,w⟩:=p
  simp only[setA]at h
  split at h
  ·rcases List.mem_cons.1 h with h | h
   ·exact .inl h
   ·exact .inr (zP _ h)
  ·split at h
   ·rcases List.mem_cons.1 h with h | h
    ·exact .inl h
    ·exact .inr h
   ·rcases List.mem_cons.1 h with h | h
    ·exact .inr (by rw[h];exact List.mem_cons_self)
    ·exact(ih h).imp id (zP _)
theorem mem_del{n:Str}{l:AL}{q:Str×Tree}(h:q∈delA n l):q∈l:=by
 induction l with
 | nil=>exact h
 | cons p r ih=>
  obtain⟨k,w⟩:=p
  simp only[delA]at h
  split at h
  ·exact zP _ h
  ·rcases List.mem_cons.1 h with h | h
   ·rw[h];exact List.mem_cons_self
   ·exact zP _ (ih h)
/-- an object -/
def obj(l:AL):Tree := .mk 7 false .zero [] (names l) (valsL l)
def null:Tree := .mk 1 false .zero [] [] []
theorem names_len(l:AL):(names l).length=l.length:=by simp[names]
theorem valsL_len(l:AL):(valsL l).length=l.length:=by simp[valsL]
/-- its members -/
def al(t:Tree):AL:=if t.kind=7 then t.k.zip t.v else[]
theorem zip_un(l:AL):(names l).zip (valsL l)=l:=by
 induction l with
 | nil=>rfl
 | cons p r ih=>
  show(p.1,p.2)::(names r).zip (valsL r)=_
  rw[ih]
theorem al_obj(l:AL):al (obj l)=l:=by
 show(if(7:Int)=7 then(names l).zip (valsL l)else[])=l
 rw[if_pos rfl];exact zip_un l
theorem al_of{t:Tree}(h:t.kind≠7):al t=[]:=if_neg h
end Go.Ev
end
section
namespace Go.Ev
def toLf:Nat→Nat→List Nat
 | 0,_=>[]
 | f+1,n=>if n=0 then[]else n % B32::toLf f (n / B32)
def toL(n:Nat):List Nat:=toLf n n
theorem toLf_fuel(f:Nat) : ∀ g n,n≤f→n≤g→toLf f n=toLf g n:=by
 induction f with
 | zero=>
   intro g n h1 h2;have:n=0:=by omega
   subst this;cases g<;>simp[toLf]
 | succ f ih=>
  intro g n h1 h2
  cases g with
  | zero=>
    have:n=0:=by omega
    subst this;simp[toLf]
  | succ g=>
   simp only[toLf]
   by_cases h:n=0
   ·simp[h]
   ·rw[if_neg h,if_neg h]
    have:n / B32<n:=Nat.div_lt_self (by omega) (by decide)
    rw[ih g (n / B32) (by omega) (by omega)]
theorem toL_zero:toL 0=[]:=rfl
theorem toL_step(n:Nat)(h:n≠0):toL n=n % B32::toL (n / B32):=by
 unfold toL
 cases n with
 | zero=>exact(h rfl).elim
 | succ n=>
  rw[toLf,if_neg h]
  have:(n+1) / B32<n+1:=Nat.div_lt_self (by omega) (by decide)
  rw[toLf_fuel n ((n+1) / B32) _ (by omega) (zR _)]
theorem toL_u32(n:Nat):U32 (toL n):=by
 induction n using Nat.strongRecOn with
 | _ n ih=>
  by_cases h:n=0
  ·subst h;intro x hx;simp[toL_zero]at hx
  ·rw[toL_step n h]
   intro x hx
   rcases List.mem_cons.1 hx with rfl | hx
   ·exact Nat.mod_lt _ (by decide)
   ·exact ih (n / B32) (Nat.div_lt_self (by omega) (by decide)) x hx
theorem nval_toL(n:Nat):nval (toL n)=n:=by
 induction n using Nat.strongRecOn with
 | _ n ih=>
  by_cases h:n=0
  ·subst h;rfl
  ·rw[toL_step n h,nval,ih _ (Nat.div_lt_self (by omega) (by decide))]
   exact Nat.mod_add_div n B32
theorem toL_nil{n:Nat}:toL n=[]↔n=0:=by
 constructor
 ·intro h;have:=nval_toL n;rw[h]at this;exact this.symm
 ·rintro rfl;rfl
theorem nrm_cons{x:Nat}{r:List Nat}(h:Nrm (x::r)):Nrm r:=by
 cases r with
 | nil=>simp[Nrm]
 | cons y s=>simpa[Nrm]using h
/-- normal lists are the naturals' own -/
theorem nrm_toL(l:List Nat)(h:Nrm l)(hu:U32 l):l=toL (nval l):=by
 induction l with
 | nil=>rfl
 | cons x r ih=>
  have hx:x<B32:=hu x (by simp)
  have hr:=ih (nrm_cons h) (fun y hy=>hu y (by simp[hy]))
  have h0:nval (x::r)≠0:=by
   intro h0
   have:=nrm_nil h h0
   simp at this
  have hd:(x+B32 * nval r) / B32=nval r:=by rw[Nat.add_mul_div_left _ _ (by decide),Nat.div_eq_of_lt hx,Nat.zero_add]
  have hm:(x+B32 * nval r) % B32=x:=by rw[Nat.add_mul_mod_self_left,Nat.mod_eq_of_lt hx]
  rw[toL_step _ h0]
  simp only[nval]
  rw[hd,hm,← hr]
theorem norm_toL{l:List Nat}(hu:U32 l):norm l=toL (nval l):=by
 rw[nrm_toL (norm l) (norm_nrm l) (norm_u32 hu),nval_norm]
theorem toL_nrm(n:Nat):Nrm (toL n):=by
 have h:=norm_toL (toL_u32 n)
 rw[nval_toL]at h
 rw[← h];exact norm_nrm _
theorem nval_append(a b:List Nat):nval (a++b)=nval a+B32 ^ a.length * nval b:=by
 induction a with
 | nil=>simp[nval]
 | cons x r ih=>simp only[List.cons_append,nval,ih,List.length_cons,Nat.pow_succ,Nat.mul_add];rw[Nat.mul_comm (B32 ^ r.length) B32,Nat.mul_assoc];omega
theorem nval_lt'(l:List Nat)(h:U32 l):nval l<B32 ^ l.length:=by
 induction l with
 | nil=>simp[nval]
 | cons x r ih=>
  have h1:=ih (fun y hy=>h y (by simp[hy]))
  have h2:=h x (by simp)
  simp only[nval,List.length_cons,Nat.pow_succ]
  calc x+B32 * nval r<B32 * (nval r+1):=by rw[Nat.mul_add];omega
   _≤B32 * B32 ^ r.length:=Nat.mul_le_mul_left _ h1
   _=_:=Nat.mul_comm _ _
theorem toL_len{n k:Nat}(h:n<B32 ^ k):(toL n).length≤k:=by
 rcases Nat.lt_or_ge k (toL n).length with h1 | h1
 ·exfalso
  have hl:(toL n).length - 1<(toL n).length:=by omega
  have hne:(toL n)[(toL n).length - 1]≠0:=by
   intro h0;apply toL_nrm n;rw[zL hl,h0]
  have:nval ((toL n).take ((toL n).length - 1)++(toL n).drop ((toL n).length - 1))=n:=by rw[List.take_append_drop];exact nval_toL n
  rw[nval_append,zO hl]at this
  simp only[nval,List.length_take]at this
  have h2:B32 ^ k≤B32 ^ ((toL n).length - 1):=Nat.pow_le_pow_right (by decide) (by omega)
  have h3:B32 ^ ((toL n).length - 1) * 1≤B32 ^ ((toL n).length - 1) * (toL n)[(toL n).length - 1]:=Nat.mul_le_mul_left _ (by omega)
  rw[Nat.min_eq_left (by omega),Nat.mul_add]at this
  omega
 ·exact h1
/-- the limb at a place, nought above -/
def lat(l:List Nat)(i:Nat):Nat:=l[i]?.getD 0
end Go.Ev
end
section
namespace Go.Ev
theorem setL_full{α:Type}(xs ys:List α)(h:xs.length=ys.length):setL xs 0 ys=ys:=by
 unfold setL;simp[h]
end Go.Ev
end
section
namespace Go.Ev
/-- without the tens that divide it, and how many they were (so many looks) -/
def trimf:Nat→Nat→Nat×Nat
 | 0,n=>(n,0)
 | f+1,n=>if n≠0∧n % 10=0 then((trimf f (n / 10)).1,(trimf f (n / 10)).2+1)else(n,0)
theorem trimf_fuel(f:Nat) : ∀ g n,n<10 ^ f→n<10 ^ g→trimf f n=trimf g n:=by
 induction f with
 | zero=>
  intro g n h1 h2
  have:n=0:=by simpa using h1
  subst this
  cases g<;>simp[trimf]
 | succ f ih=>
  intro g n h1 h2
  cases g with
  | zero=>
   have:n=0:=by simpa using h2
   subst this;simp[trimf]
  | succ g=>
   simp only[trimf]
   by_cases h:n≠0∧n % 10=0
   ·rw[if_pos h,if_pos h]
    rw[ih g (n / 10) (by rw[Nat.div_lt_iff_lt_mul (by decide)];rw[Nat.pow_succ]at h1;exact h1) (by rw[Nat.div_lt_iff_lt_mul (by decide)];rw[Nat.pow_succ]at h2;exact h2)]
   ·rw[if_neg h,if_neg h]
def trim(n:Nat):Nat×Nat:=trimf n n
theorem lt_ten_pow(n:Nat):n<10 ^ n:=Nat.lt_pow_self (by decide)
theorem trim_eq(n f:Nat)(h:n<10 ^ f):trim n=trimf f n:=trimf_fuel n f n (lt_ten_pow n) h
theorem trim_step{n:Nat}(h:n≠0)(h2:n % 10=0):trim n=((trim (n / 10)).1,(trim (n / 10)).2+1):=by
 have h3:n / 10<10 ^ n:=Nat.lt_of_le_of_lt (Nat.div_le_self _ _) (lt_ten_pow n)
 rw[trim_eq n (n+1) (Nat.lt_trans (lt_ten_pow n) (Nat.pow_lt_pow_succ (by decide))),trimf,if_pos ⟨h,h2⟩,trim_eq (n / 10) n h3]
theorem trim_stop{n:Nat}(h:n=0∨n % 10≠0):trim n=(n,0):=by
 rw[trim_eq n (n+1) (Nat.lt_trans (lt_ten_pow n) (Nat.pow_lt_pow_succ (by decide))),trimf,if_neg]
 rintro⟨h1,h2⟩
 rcases h with h | h
 ·exact h1 h
 ·exact h h2
theorem trim_zero:trim 0=(0,0):=rfl
/-- the number of a sign, a natural, tens -/
def mk(neg:Bool)(n:Nat)(e:Int):Nm×Bool:=
 if n=0 then(.zero,true)
 else if 90<(toL (trim n).1).length∨e+(trim n).2 < -1200∨1200<e+(trim n).2 then(.zero,false)
 else(⟨neg,toL (trim n).1,e+(trim n).2⟩,true)
end Go.Ev
end
section
namespace Go.Ev
inductive OkT:Tree→Prop
 | null:OkT null
 | bool (b:Bool):OkT (.mk 2 b .zero [] [] [])
 | num (n:Nm) (h:n.ok):OkT (.mk 3 false n [] [] [])
 | text (s:Str) (h:(dec8 s).isSome=true) (hl:s.length≤2000):OkT (.mk 4 false .zero s [] [])
 | bytes (s:Str) (hl:s.length≤2000):OkT (.mk 5 false .zero s [] [])
 | arr (v:List Tree) (hl:v.length≤300) (hv : ∀ x,x∈v→OkT x):OkT (.mk 6 false .zero [] [] v)
 | obj (l:AL) (hs:SrtA l) (hl:l.length≤300) (hn : ∀ x,x∈names l→(dec8 x).isSome=true∧x.length≤2000) (hv : ∀ q,q∈l→OkT q.2):OkT (obj l)
mutual
def mrg:Tree→Tree→Tree
 | t,.mk kind b n s k v=>if kind=7 then obj (mrgA (al t) k v)else .mk kind b n s k v
def mrgA:AL→List Str→List Tree→AL
 | u,ks,[]=>u
 | u,[],_::_=>u
 | u,k::ks,v::vs=>mrgA (if v.kind=1 then delA k u else setA k (mrg ((lk k u).getD null) v) u) ks vs
end
theorem mrg_obj(t:Tree)(l:AL):mrg t (obj l)=obj (mrgA (al t) (names l) (valsL l)):=by
 unfold obj;rw[mrg,if_pos rfl];rfl
theorem mrg_no{t p:Tree}(h:p.kind≠7):mrg t p=p:=by
 cases p with
 | mk kind b n s k v=>
  have h : ¬ kind=7:=h
  rw[mrg,if_neg h]
theorem srt_mrgA(l:AL) : ∀ u,SrtA u→SrtA (mrgA u (names l) (valsL l)):=by
 induction l with
 | nil=>intro u h;simpa[names,valsL,mrgA]using h
 | cons p r ih=>
  obtain⟨k,v⟩:=p
  intro u h
  show SrtA (mrgA u (k::names r) (v::valsL r))
  rw[mrgA]
  apply ih
  split
  ·exact srt_del h
  ·exact srt_set h
theorem lk_mrgA(l:AL)(hl:SrtA l)(m:Str) : ∀ u,SrtA u→lk m (mrgA u (names l) (valsL l))=match lk m l with
  | none=>lk m u
  | some y=>if y.kind=1 then none else some (mrg ((lk m u).getD null) y):=by
 induction l with
 | nil=>intro u h;simp[names,valsL,mrgA,lk]
 | cons p r ih=>
  obtain⟨k,v⟩:=p
  obtain⟨h1,h2⟩:=srt_cons.1 hl
  intro u h
  show lk m (mrgA u (k::names r) (v::valsL r))=_
  have hu:SrtA (if v.kind=1 then delA k u else setA k (mrg ((lk k u).getD null) v) u):=by
   split
   ·exact srt_del h
   ·exact srt_set h
  rw[mrgA,ih h2 _ hu]
  by_cases hkm:k=m
  ·subst hkm
   have:lk k r=none:=lk_names.2 (fun hm=>lt_ne (h1 _ hm) rfl)
   rw[this]
   simp only[lk,if_true]
   split
   ·rw[lk_del h,if_pos rfl]
   ·rw[lk_set h,if_pos rfl]
  ·simp only[lk,if_neg hkm]
   have:lk m (if v.kind=1 then delA k u else setA k (mrg ((lk k u).getD null) v) u)=lk m u:=by
    split
    ·rw[lk_del h,if_neg hkm]
    ·rw[lk_set h,if_neg hkm]
   rw[this]
/-- in order everywhere -/
inductive SrtT:Tree→Prop
 | mk (t:Tree) (h:SrtA (al t)) (hv : ∀ q,q∈al t→SrtT q.2):SrtT t
theorem SrtT.no{t:Tree}(h:t.kind≠7):SrtT t := .mk t (by rw[al_of h];trivial) (fun q hq=>by rw[al_of h]at hq;simp at hq)
theorem SrtT.null:SrtT null := .no (by simp[Tree.kind,Ev.null])
theorem OkT.srt{t:Tree}(h:OkT t):SrtT t:=by
 induction h with
 | obj l hs hl hn hv ih=>exact .mk _ (by rw[al_obj];exact hs) (fun q hq=>by rw[al_obj]at hq;exact ih q hq)
 | _=>exact .no (by simp[Tree.kind,Ev.null])
theorem SrtT.lk{t:Tree}(h:SrtT t)(m:Str):SrtT ((lk m (al t)).getD Ev.null):=by
 cases h with
 | mk _ h hv=>
  cases hx:Ev.lk m (al t)with
  | none=>exact .null
  | some x=>exact hv _ (lk_mem hx)
mutual
def cln:Tree→Bool
 | .mk kind _ _ _ _ v=>if kind=7 then clnL v else true
def clnL:List Tree→Bool
 | []=>true
 | x::r=>if x.kind=1 then false else if cln x then clnL r else false
end
/-- at most so many in each, so deep -/
inductive Bnd(c:Nat):Nat→Tree→Prop
 | mk (d:Nat) (t:Tree) (hl:t.v.length≤c) (hv : ∀ x,x∈t.v→Bnd c d x):Bnd c (d+1) t
theorem Bnd.mono{c c' d:Nat}(h:c≤c'){t:Tree}(ht:Bnd c d t):Bnd c' d t:=by
 induction ht with
 | mk d t hl hv ih=>exact .mk d t (Nat.le_trans hl h) ih
theorem Bnd.null(c d:Nat):Bnd c (d+1) null := .mk d _ (Nat.zero_le _) (fun x hx=>by simp[Ev.null,Tree.v]at hx)
theorem len_mrgA(l:AL) : ∀ u,(mrgA u (names l) (valsL l)).length≤u.length+l.length:=by
 induction l with
 | nil=>intro u;simp[names,valsL,mrgA]
 | cons p r ih=>
  obtain⟨k,v⟩:=p
  intro u
  show(mrgA u (k::names r) (v::valsL r)).length≤_
  rw[mrgA]
  refine Nat.le_trans (ih _) ?_
  have:(if v.kind=1 then delA k u else setA k (mrg ((lk k u).getD null) v) u).length≤u.length+1:=by
   split
   ·exact Nat.le_trans (len_del _ _) (Nat.le_succ _)
   ·exact len_set _ _ _
  simp only[List.length_cons];omega
theorem obj_v(l:AL):(obj l).v=valsL l:=rfl
theorem al_v{t:Tree}{q:Str×Tree}(h:q∈al t):q.2∈t.v:=by
 unfold al at h
 split at h
 ·obtain⟨k,v⟩:=q;exact(List.of_mem_zip h).2
 ·simp at h
theorem al_len(t:Tree):(al t).length≤t.v.length:=by
 unfold al
 split
 ·rw[List.length_zip];exact Nat.min_le_right _ _
 ·simp
theorem mrg_bnd{c1 c2:Nat}{p:Tree}(hp:OkT p) : ∀ d t,SrtT t→Bnd c1 d t→Bnd c2 d p→Bnd (c1+c2) d (mrg t p):=by
 induction hp with
 | obj l hs hl hn hv ih=>
  intro d t hst ht hpb
  have hst':=hst
  cases hst' with
  | mk _ s1 s2=>
  cases ht with
  | mk d _ h1 h2=>
  cases hpb with
  | mk _ _ h3 h4=>
  rw[mrg_obj]
  have hsr:=srt_mrgA l (al t) s1
  rw[obj_v,valsL_len]at h3
  refine .mk d _ ?_ (fun z hz => ?_)
  ·rw[obj_v,valsL_len]
   have:=len_mrgA l (al t)
   have:=al_len t
   omega
  ·rw[obj_v]at hz
   obtain⟨⟨m,z'⟩,hq,rfl⟩:=List.mem_map.1 hz
   have:=mem_lk hsr hq
   rw[lk_mrgA l hs m _ s1]at this
   split at this
   ·exact(h2 _ (al_v (lk_mem this))).mono (Nat.le_add_right _ _)
   ·next y hy=>
    split at this
    ·cases this
    ·injection this with this
     show Bnd (c1+c2) d z'
     rw[← this]
     have hyb:Bnd c2 d y:=h4 _ (List.mem_map.2 ⟨_,lk_mem hy,rfl⟩)
     refine ih _ (lk_mem hy) d _ (hst.lk m) ?_ hyb
     cases hx:lk m (al t)with
     | none=>
      cases hyb with
      | mk d' _ _ _=>exact Bnd.null c1 d'
     | some x=>exact h2 _ (al_v (lk_mem hx))
 | _=>intro d t _ _ hpb;rw[mrg_no (by simp[Tree.kind,Ev.null])];exact hpb.mono (Nat.le_add_left _ _)
mutual
def nodes:Tree→Nat
 | .mk _ _ _ _ _ v=>1+nodesL v
def nodesL:List Tree→Nat
 | []=>0
 | x::r=>nodes x+nodesL r
end
theorem nodes_eq(t:Tree):nodes t=1+nodesL t.v:=by cases t;rw[nodes];rfl
end Go.Ev
end
section
namespace Go.Ev
theorem ty_int{P:Program}{n:Nat}{t:TypeId}{k:IntKind}{xs:List V}(hu:P.underlying t=some (.int k))(h:Ty P n t xs) : ∃ z,(Lit.int k z).wf=true∧mkV P t xs = .int k z:=by
 cases n with
 | zero=>exact h.elim
 | succ n=>
  unfold Ty at h
  rw[hu]at h
  obtain⟨z,hz,rfl⟩:=h
  refine⟨z,hz,?_⟩
  unfold mkV isAggT
  rw[hu];rfl
end Go.Ev
end
