/- Values and plain facts that the specifications lean on. -/
import Derived.Test.YtfodpklkdecpkaaKEvE
import Derived.IntWalk
import Derived.Laws.BitsAllLaws
import Derived.Laws.BitsLemmas
set_option linter.all false
open Option renaming bind_some->zD
open List renaming getElem?_eq_getElem->zL,getElem?_cons_succ->zN,drop_eq_getElem_cons->zO,mem_cons->zS,take_of_length_le->zV
open Nat renaming le_refl->zR,mul_le_mul_right->zW
open Int renaming natCast_nonneg->zY
namespace Go.Ev
section
abbrev Str:=List UInt8
structure Nm where
 neg:Bool
 m:List Nat
 e:Int
inductive Tree where
 | mk (kind:Int) (b:Bool) (n:Nm) (s:Str) (k:List Str) (v:List Tree)
def strs(l:List Str):List V:=l.map .str
def limbs(l:List Nat):List V:=l.map fun(x:Nat)=>V.int .u32 (x:Int)
def ints(l:List Int):List V:=l.map (.int .i64)
def Nm.val(n:Nm):V := .agg [.bool n.neg,.sl (limbs n.m),.int .i64 n.e]
mutual
def Tree.val:Tree->V
 | .mk kind b n s k v => .agg [.int .i64 kind,.bool b,.bool n.neg,.sl (limbs n.m),.int .i64 n.e,.str s,.sl (strs k),.sl (vals v)]
def vals:List Tree->List V
 | []=>[]
 | t::r=>t.val::vals r
end
theorem vals_map(l:List Tree):vals l=l.map Tree.val:=by induction l<;>simp_all [vals]
def trs(l:List Tree):List V:=l.map Tree.val
def Tree.kind:Tree->Int | .mk k _ _ _ _ _=>k
def Tree.b:Tree->Bool | .mk _ b _ _ _ _=>b
def Tree.n:Tree->Nm | .mk _ _ n _ _ _=>n
def Tree.s:Tree->Str | .mk _ _ _ s _ _=>s
def Tree.k:Tree->List Str | .mk _ _ _ _ k _=>k
def Tree.v:Tree->List Tree | .mk _ _ _ _ _ v=>v
theorem Tree.val_eq(t:Tree):t.val = .agg [.int .i64 t.kind,.bool t.b,.bool t.n.neg,.sl (limbs t.n.m),.int .i64 t.n.e,.str t.s,.sl (strs t.k),.sl (trs t.v)]:=by cases t;simp[Tree.val,vals_map,trs,kind,b,n,s,k,v]
def Nm.zero:Nm:=⟨false,[],0⟩
def Tree.zero:Tree := .mk 0 false .zero [] [] []
theorem some_bind{α β:Type}(a:α)(f:α->Option β):(some a).bind f=f a:=by rw[zD]
theorem tst_t{ρ:Type}(k:Option ρ):tst true k=k:=by unfold tst;split<;>simp_all
def tick:Prop:=True
@[simp] theorem tick_eq:tick=True:=propext ⟨fun _=>trivial,fun _=>trivial⟩
@[congr] theorem bind_head{α β:Type}{x y:Option α}{f:α->Option β}{p:Prop}(_:tick=p)(h:x=y):x.bind f=y.bind f:=by rw[h]
@[congr] theorem tst_head{ρ:Type}{b c:Bool}{k:Option ρ}{p:Prop}(_:tick=p)(h:b=c):tst b k=tst c k:=by rw[h]
@[congr] theorem ite_head{α:Sort _}{c d:Prop}{s:Decidable c}[Decidable d]{a b:α}{p:Prop}(_:tick=p)(h:c=d):ite c a b=ite d a b:=by subst h;congr
def Yes{α:Type}(x:Option α)(r:α):Prop:=x=some r
@[simp] theorem Yes_some{α:Type}(a b:α):Yes (some a) b↔a=b:=by simp[Yes]
theorem yes{α:Type}{x:Option α}{r:α}(h:Yes x r):x=some r:=h
theorem asBool_b(b:Bool):asBool (.bool b)=some b:=rfl
theorem asStr_s(s:Str):asStr (.str s)=some s:=rfl
theorem okN_int(k:IntKind)(n:Int):okN 1 (.int k n)=true:=rfl
theorem okN_bool(b:Bool):okN 1 (.bool b)=true:=rfl
theorem okN_str(s:Str):okN 1 (.str s)=true:=rfl
theorem okN_sl(l:List V):okN 1 (.sl l)=true:=rfl
theorem okN_nm(n:Nm):okN 3 n.val=true:=rfl
theorem okN_num(a b c:V):okN 3 (.agg [a,b,c])=(a.one&&(b.one&&(c.one&&true))):=rfl
theorem okN_tr(a b c d e f g h:V):okN 8 (.agg [a,b,c,d,e,f,g,h])=(a.one&&(b.one&&(c.one&&(d.one&&(e.one&&(f.one&&(g.one&&(h.one&&true)))))))):=rfl
theorem one_int(k:IntKind)(n:Int):(V.int k n).one=true:=rfl
theorem one_bool(b:Bool):(V.bool b).one=true:=rfl
theorem one_str(s:Str):(V.str s).one=true:=rfl
theorem one_sl(l:List V):(V.sl l).one=true:=rfl
theorem okN_tree(t:Tree):okN 8 t.val=true:=by rw[t.val_eq];rfl
theorem szOk_trs(l:List Tree):szOk 8 (trs l)=true:=by
 induction l with
 | nil=>rfl
 | cons t r ih=>show szOk 8 (t.val::trs r)=true;simp[szOk,okN_tree,ih]
theorem szOk_strs(l:List Str):szOk 1 (strs l)=true:=by
 induction l with
 | nil=>rfl
 | cons t r ih=>show szOk 1 (.str t::strs r)=true;simp[szOk,okN_str,ih]
theorem szOk_limbs(l:List Nat):szOk 1 (limbs l)=true:=by
 induction l with
 | nil=>rfl
 | cons t r ih=>show szOk 1 (.int .u32 t::limbs r)=true;simp[szOk,okN_int,ih]
theorem szOk_ints(l:List Int):szOk 1 (ints l)=true:=by
 induction l with
 | nil=>rfl
 | cons t r ih=>show szOk 1 (.int .i64 t::ints r)=true;simp[szOk,okN_int,ih]
theorem asSl_trs(l:List Tree):asSl 8 (.sl (trs l))=some (trs l):=by unfold asSl;simp only[szOk_trs]
theorem asSl_strs(l:List Str):asSl 1 (.sl (strs l))=some (strs l):=by unfold asSl;simp only[szOk_strs]
theorem asSl_limbs(l:List Nat):asSl 1 (.sl (limbs l))=some (limbs l):=by unfold asSl;simp only[szOk_limbs]
theorem asSl_ints(l:List Int):asSl 1 (.sl (ints l))=some (ints l):=by unfold asSl;simp only[szOk_ints]
theorem asSl_nil(n:Nat):asSl n (.sl [])=some []:=rfl
theorem asEl_trs(l:List Tree):asEl 8 (.sl (trs l))=some (trs l):=asSl_trs l
theorem asEl_strs(l:List Str):asEl 1 (.sl (strs l))=some (strs l):=asSl_strs l
theorem asEl_limbs(l:List Nat):asEl 1 (.sl (limbs l))=some (limbs l):=asSl_limbs l
theorem asEl_ints(l:List Int):asEl 1 (.sl (ints l))=some (ints l):=asSl_ints l
theorem fld_nm0(n:Nm):fldV n.val 0=some (.bool n.neg):=rfl
theorem fld_nm1(n:Nm):fldV n.val 1=some (.sl (limbs n.m)):=rfl
theorem fld_nm2(n:Nm):fldV n.val 2=some (.int .i64 n.e):=rfl
theorem fld0(t:Tree):fldV t.val 0=some (.int .i64 t.kind):=by rw[t.val_eq];rfl
theorem fld1(t:Tree):fldV t.val 1=some (.bool t.b):=by rw[t.val_eq];rfl
theorem fld2(t:Tree):fldV t.val 2=some (.bool t.n.neg):=by rw[t.val_eq];rfl
theorem fld3(t:Tree):fldV t.val 3=some (.sl (limbs t.n.m)):=by rw[t.val_eq];rfl
theorem fld4(t:Tree):fldV t.val 4=some (.int .i64 t.n.e):=by rw[t.val_eq];rfl
theorem fld5(t:Tree):fldV t.val 5=some (.str t.s):=by rw[t.val_eq];rfl
theorem fld6(t:Tree):fldV t.val 6=some (.sl (strs t.k)):=by rw[t.val_eq];rfl
theorem fld7(t:Tree):fldV t.val 7=some (.sl (trs t.v)):=by rw[t.val_eq];rfl
theorem fld_agg(l:List V)(i:Nat):fldV (.agg l) i=l[i]?:=rfl
theorem fld_str(s:Str):fldV (.str s) 0=some (.str s):=rfl
theorem fld_int(k:IntKind)(n:Int):fldV (.int k n) 0=some (.int k n):=rfl
theorem fld_bool(b:Bool):fldV (.bool b) 0=some (.bool b):=rfl
theorem fld_sl(l:List V):fldV (.sl l) 0=some (.sl l):=rfl
theorem lenV_sl(l:List V):lenV (.sl l)=some l.length:=rfl
theorem elems_sl(l:List V):V.elems (.sl l)=l:=rfl
theorem strs_len(l:List Str):(strs l).length=l.length:=by simp[strs]
theorem limbs_len(l:List Nat):(limbs l).length=l.length:=by simp[limbs]
theorem ints_len(l:List Int):(ints l).length=l.length:=by simp[ints]
theorem trs_len(l:List Tree):(trs l).length=l.length:=by simp[trs]
theorem strs_get(l:List Str)(i:Nat):(strs l)[i]?=l[i]?.map .str:=by simp[strs]
theorem limbs_get(l:List Nat)(i:Nat):(limbs l)[i]?=l[i]?.map (fun(x:Nat)=>V.int .u32 (x:Int)):=by simp[limbs]
theorem ints_get(l:List Int)(i:Nat):(ints l)[i]?=l[i]?.map (.int .i64):=by simp[ints]
theorem trs_get(l:List Tree)(i:Nat):(trs l)[i]?=l[i]?.map Tree.val:=by simp[trs]
theorem strs_gete(l:List Str)(i:Nat)(h:i<(strs l).length):(strs l)[i] = .str (l[i]'(by simpa[strs]using h)):=by simp[strs]
theorem limbs_gete(l:List Nat)(i:Nat)(h:i<(limbs l).length):(limbs l)[i] = .int .u32 ((l[i]'(by simpa[limbs]using h):Nat):Int):=by simp[limbs]
theorem ints_gete(l:List Int)(i:Nat)(h:i<(ints l).length):(ints l)[i] = .int .i64 (l[i]'(by simpa[ints]using h)):=by simp[ints]
theorem trs_gete(l:List Tree)(i:Nat)(h:i<(trs l).length):(trs l)[i]=(l[i]'(by simpa[trs]using h)).val:=by simp[trs]
theorem strs_drop(l:List Str)(i:Nat):(strs l).drop i=strs (l.drop i):=by simp[strs,List.map_drop]
theorem limbs_drop(l:List Nat)(i:Nat):(limbs l).drop i=limbs (l.drop i):=by simp[limbs,List.map_drop]
theorem ints_drop(l:List Int)(i:Nat):(ints l).drop i=ints (l.drop i):=by simp[ints,List.map_drop]
theorem trs_drop(l:List Tree)(i:Nat):(trs l).drop i=trs (l.drop i):=by simp[trs,List.map_drop]
theorem strs_take(l:List Str)(i:Nat):(strs l).take i=strs (l.take i):=by simp[strs,List.map_take]
theorem limbs_take(l:List Nat)(i:Nat):(limbs l).take i=limbs (l.take i):=by simp[limbs,List.map_take]
theorem ints_take(l:List Int)(i:Nat):(ints l).take i=ints (l.take i):=by simp[ints,List.map_take]
theorem trs_take(l:List Tree)(i:Nat):(trs l).take i=trs (l.take i):=by simp[trs,List.map_take]
theorem strs_app(l r:List Str):strs l++strs r=strs (l++r):=by simp[strs]
theorem limbs_app(l r:List Nat):limbs l++limbs r=limbs (l++r):=by simp[limbs]
theorem trs_app(l r:List Tree):trs l++trs r=trs (l++r):=by simp[trs]
theorem strs_set(l:List Str)(i:Nat)(x:Str):(strs l).set i (.str x)=strs (l.set i x):=by simp[strs,List.map_set]
theorem limbs_set(l:List Nat)(i:Nat)(x:Nat):(limbs l).set i (.int .u32 (x:Int))=limbs (l.set i x):=by simp[limbs,List.map_set]
theorem trs_set(l:List Tree)(i:Nat)(x:Tree):(trs l).set i x.val=trs (l.set i x):=by simp[trs,List.map_set]
section
variable (k:IntKind) (a b:Int)
theorem eql_i:binV .eql (.int k a) (.int k b)=some (.bool (decide (a=b))):=by simp[binV,intV,Bool.beq_eq_decide_eq]
theorem neq_i:binV .neq (.int k a) (.int k b)=some (.bool (!decide (a=b))):=by simp only[binV,intV,isShift,ze,Bool.or_true,zb,bne];congr 2
theorem lss_i:binV .lss (.int k a) (.int k b)=some (.bool (decide (a<b))):=by simp[binV,intV]
theorem leq_i:binV .leq (.int k a) (.int k b)=some (.bool (decide (a<=b))):=by simp[binV,intV]
theorem gtr_i:binV .gtr (.int k a) (.int k b)=some (.bool (decide (b<a))):=by simp[binV,intV]
theorem geq_i:binV .geq (.int k a) (.int k b)=some (.bool (decide (b<=a))):=by simp[binV,intV]
theorem add_i:binV .add (.int k a) (.int k b)=some (.int k (k.wrap (a+b))):=by simp[binV,intV]
theorem sub_i:binV .sub (.int k a) (.int k b)=some (.int k (k.wrap (a-b))):=by simp[binV,intV]
theorem mul_i:binV .mul (.int k a) (.int k b)=some (.int k (k.wrap (a*b))):=by simp[binV,intV]
theorem quo_i(h:b≠0):binV .quo (.int k a) (.int k b)=some (.int k (k.wrap (a.tdiv b))):=by simp[binV,intV,h]
theorem rem_i(h:b≠0):binV .rem (.int k a) (.int k b)=some (.int k (a.tmod b)):=by simp[binV,intV,h]
theorem shl_i(k':IntKind)(h:0<=b):binV .shl (.int k a) (.int k' b)=some (.int k (k.wrap (a*2^Nat.min b.toNat k.bits))):=by
 have : ¬ b<0:=by omega
 simp[binV,intV,isShift,this]
theorem shr_i(k':IntKind)(h:0<=b):binV .shr (.int k a) (.int k' b)=some (.int k (a.fdiv (2^Nat.min b.toNat k.bits))):=by
 have : ¬ b<0:=by omega
 simp[binV,intV,isShift,this]
theorem cvi_i(k':IntKind):cviV k (.int k' a)=some (.int k (k.wrap a)):=rfl
theorem neg_i:unV .neg (.int k a)=some (.int k (k.wrap (0-a))):=rfl
end
theorem w64{a:Int}(h : -9223372036854775808<=a/\a<=9223372036854775807):IntKind.i64.wrap a=a:=IntWalk.i64_in a h
theorem wu32{a:Int}(h:0<=a/\a<=4294967295):IntKind.u32.wrap a=a:=IntWalk.u32_in a h
theorem wu64{a:Int}(h:0<=a/\a<=18446744073709551615):IntKind.u64.wrap a=a:=IntWalk.u64_in a h
theorem eql_s(a b:Str):binV .eql (.str a) (.str b)=some (.bool (a==b)):=rfl
theorem neq_s(a b:Str):binV .neq (.str a) (.str b)=some (.bool (!(a==b))):=rfl
theorem lss_s(a b:Str):binV .lss (.str a) (.str b)=some (.bool (Op.bytesLess a b)):=rfl
theorem leq_s(a b:Str):binV .leq (.str a) (.str b)=some (.bool (Op.bytesLess a b||a==b)):=rfl
theorem gtr_s(a b:Str):binV .gtr (.str a) (.str b)=some (.bool !(Op.bytesLess a b||a==b)):=rfl
theorem geq_s(a b:Str):binV .geq (.str a) (.str b)=some (.bool !(Op.bytesLess a b)):=rfl
theorem not_b(b:Bool):unV .not (.bool b)=some (.bool !b):=rfl
theorem idx_i(k:IntKind)(i:Int)(n:Nat)(h:0<=i/\i<n):idxV (.int k i) n=some i.toNat:=zb h
theorem idx_nat(k:IntKind)(i n:Nat)(h:i<n):idxV (.int k (i:Int)) n=some i:=by rw[idx_i _ _ _ ⟨zY i,by exact_mod_cast h⟩];simp
theorem ext_tup(xs:List V)(i:Nat):extV (.tup xs) i=xs[i]?:=rfl
theorem bnd_to(k:IntKind)(i:Int)(n:Nat)(h:0<=i/\i<=n):bnd2 none (some (.int k i)) n=some (0,i.toNat):=by
 obtain⟨h1,h2⟩:=h;obtain⟨j,rfl⟩:=Int.eq_ofNat_of_zero_le h1;have:j<=n:=by exact_mod_cast h2
 simp[bnd2,bndV,this]
theorem mks_n(bytes n:Nat)(h:n*bytes<=140737488355328)(h2:n<=140737488355328):mksV bytes (.int .i64 n) (.int .i64 n)=some (n,n):=by
 have h1:(n:Int)*bytes<=((140737488355328:Nat):Int):=by rw[<- Int.natCast_mul];exact Int.ofNat_le.2 h
 simp only[mksV];rw[zb ⟨zY n,Int.le_refl _,h1,by omega⟩];rfl
theorem app_ok(bytes n m:Nat)(h:(n+m)*bytes<=140737488355328)(h2:n+m<=140737488355328):appOk bytes n m=true:=by unfold appOk;rw[zg h,zg h2];rfl
theorem vec_0(x:V)(l:List V):vec (x::l) 0=x:=rfl
theorem vec_s(x:V)(l:List V)(i:Nat):vec (x::l) (i+1)=vec l i:=rfl
theorem loopL_inl{α β:Type}{f:α->Option (α ⊕ β)}{a a':α}(h:f a=some (.inl a')):loopL f a=loopL f a':=by rw[loopL_eq,h]
theorem loopL_inr{α β:Type}{f:α->Option (α ⊕ β)}{a:α}{b:β}(h:f a=some (.inr b)):loopL f a=some b:=by rw[loopL_eq,h]
theorem natv(k:IntKind)(n:Nat):natV (.int k (n:Int))=n:=by simp[natV]
attribute [simp] some_bind tst_t asBool_b asStr_s okN_int okN_bool okN_str okN_sl okN_nm okN_num okN_tr one_int one_bool one_str one_sl okN_tree szOk_trs szOk_strs szOk_limbs szOk_ints
attribute [simp] asSl_trs asSl_strs asSl_limbs asSl_ints asSl_nil asEl_trs asEl_strs asEl_limbs asEl_ints fld_nm0 fld_nm1 fld_nm2 fld0 fld1 fld2 fld3 fld4 fld5 fld6 fld7 fld_agg fld_str fld_int fld_bool fld_sl
attribute [simp] lenV_sl elems_sl strs_len limbs_len ints_len trs_len strs_get limbs_get ints_get trs_get strs_gete limbs_gete ints_gete trs_gete strs_drop limbs_drop ints_drop trs_drop strs_take limbs_take ints_take trs_take strs_app limbs_app trs_app strs_set limbs_set trs_set
attribute [simp] eql_i neq_i lss_i leq_i gtr_i geq_i add_i sub_i mul_i cvi_i neg_i eql_s neq_s lss_s leq_s gtr_s geq_s not_b ext_tup vec_0 vec_s natv
end
section
def B32:Nat:=4294967296
def U32(l:List Nat):Prop := ∀ x∈l,x<B32
def top(l:List Nat):Nat->Nat
 | 0=>0
 | n+1=>match l[n]? with | some 0=>top l n | _=>n+1
def norm(l:List Nat):List Nat:=l.take (top l l.length)
theorem top_le(l:List Nat)(n:Nat):top l n<=n:=by
 induction n with
 | zero=>simp[top]
 | succ n ih=>unfold top;split<;>omega
def small(d:Nat):List Nat->List Nat×Nat
 | []=>([],0)
 | x::r=>(((small d r).2*B32+x)/d::(small d r).1,((small d r).2*B32+x)%d)
theorem small_len(d:Nat)(l:List Nat):(small d l).1.length=l.length:=by induction l<;>simp_all [small]
theorem small_lt(d:Nat)(hd:0<d)(l:List Nat):(small d l).2<d:=by cases l<;>simp[small,hd,Nat.mod_lt]
def nval:List Nat->Nat
 | []=>0
 | x::r=>x+B32*nval r
theorem small_val(d:Nat)(hd:0<d)(l:List Nat):nval (small d l).1=nval l/d/\(small d l).2=nval l%d:=by
 induction l with
 | nil=>simp[small,nval]
 | cons x r ih=>
  obtain⟨h1,h2⟩:=ih;have e:x+B32*nval r=(nval r%d*B32+x)+d*(B32*(nval r/d)):=by
   have:=Nat.div_add_mod (nval r) d
   calc x+B32*nval r=x+B32*(d*(nval r/d)+nval r%d):=by rw[this]
    _=_:=by rw[Nat.mul_add];ac_rfl
  refine⟨?_,?_⟩
  ·simp only[small,nval,h1,h2];rw[e,Nat.add_mul_div_left _ _ hd]
  ·simp only[small,nval,h2];rw[e,Nat.add_mul_mod_self_left]
theorem small_u32(d:Nat)(hd:0<d)(l:List Nat)(hu:U32 l):U32 (small d l).1:=by
 induction l with
 | nil=>intro x hx;simp[small]at hx
 | cons x r ih=>
  intro y hy;simp only[small,zS]at hy;rcases hy with rfl | hy
  ·have h1:=small_lt d hd r;have h2:=hu x (by simp);rw[Nat.div_lt_iff_lt_mul hd];have:(small d r).2*B32+B32<=d*B32:=by rw[<- Nat.succ_mul];exact zW _ h1
   rw[Nat.mul_comm B32 d];omega
  ·exact ih (fun z hz=>hu z (by simp[hz])) y hy
def Nrm(l:List Nat):Prop:=l[l.length-1]?≠some 0
theorem top_last(l:List Nat)(n:Nat)(hn:n<=l.length):top l n=0\/l[top l n-1]?≠some 0:=by
 induction n with
 | zero=>simp[top]
 | succ n ih=>
  unfold top;split
  ·exact ih (by omega)
  ·next h=>exact .inr (by simpa using h)
theorem norm_len(l:List Nat):(norm l).length=top l l.length:=by have:=top_le l l.length;simp[norm];omega
theorem norm_nrm(l:List Nat):Nrm (norm l):=by
 have hle:=top_le l l.length;unfold Nrm;rw[norm_len];rcases top_last l l.length (zR _)with h | h
 ·have:norm l=[]:=by rw[norm,h];rfl
  rw[this];simp
 ·by_cases h0:top l l.length=0
  ·have:norm l=[]:=by rw[norm,h0];rfl
   rw[this];simp
  ·rw[norm,zv];rw[zb (by omega)];exact h
theorem norm_u32{l:List Nat}(h:U32 l):U32 (norm l):=fun x hx=>h x (List.mem_of_mem_take hx)
theorem top_zero(l:List Nat)(n i:Nat)(h1:top l n<=i)(h2:i<n):l[i]?=some 0:=by
 induction n with
 | zero=>omega
 | succ n ih=>
  unfold top at h1;split at h1
  ·next h=>
   rcases zj i n with h3 | h3
   ·exact ih h1 h3
   ·have:i=n:=by omega
    rw[this];exact h
  ·omega
theorem nval_take(l:List Nat)(t:Nat)(h : ∀ i,t<=i->i<l.length->l[i]?=some 0):nval (l.take t)=nval l:=by
 induction l generalizing t with
 | nil=>simp
 | cons x r ih=>
  cases t with
  | zero=>have h0:=h 0 (by omega) (by simp);have hr:=ih 0 (fun i hi hl=>by have:=h (i+1) (by omega) (by simp;omega);simpa using this);simp at h0 hr ⊢;simp[nval,h0,<- hr]
  | succ t=>have hr:=ih t (fun i hi hl=>by have:=h (i+1) (by omega) (by simp;omega);simpa using this);simp[nval,hr]
theorem nval_norm(l:List Nat):nval (norm l)=nval l:=nval_take l _ (fun i h1 h2=>top_zero l _ i h1 h2)
theorem nval_zero(l:List Nat)(h:nval l=0) : ∀ x∈l,x=0:=by
 induction l with
 | nil=>simp
 | cons x r ih=>
  simp only[nval,B32]at h;intro y hy;rcases List.mem_cons.1 hy with rfl | hy
  ·omega
  ·exact ih (by omega) y hy
theorem nrm_nil{l:List Nat}(h:Nrm l)(h0:nval l=0):l=[]:=by
 by_cases hl:l=[]
 ·exact hl
 ·exfalso;have hlen:l.length-1<l.length:=by cases l<;>simp_all
  apply h;rw[zL hlen];rw[nval_zero l h0 _ (List.getElem_mem hlen)]
theorem nval_lt(l:List Nat)(h:U32 l):nval l<10^(10*l.length):=by
 induction l with
 | nil=>simp[nval]
 | cons x r ih=>
  have h1:=ih (fun y hy=>h y (by simp[hy]));have h2:=h x (by simp);have hB:B32<=10^10:=by decide
  simp only[nval,zm,Nat.mul_add,Nat.mul_one,Nat.pow_add]
  calc x+B32*nval r<B32+B32*nval r:=by omega
   _=B32*(nval r+1):=by rw[Nat.mul_add];omega
   _<=10^10*10^(10*r.length):=Nat.mul_le_mul hB h1
   _=_:=Nat.mul_comm _ _
theorem set_rep(n:Nat)(q:List V)(x y:V):(List.replicate (n+1) x++q).set n y=List.replicate n x++y::q:=by rw[List.replicate_succ',zq,List.set_append_right _ _ (by simp)];simp
end
section
def toLf:Nat->Nat->List Nat
 | 0,_=>[]
 | f+1,n=>if n=0 then[]else n%B32::toLf f (n/B32)
def toL(n:Nat):List Nat:=toLf n n
theorem toLf_fuel(f:Nat) : ∀ g n,n<=f->n<=g->toLf f n=toLf g n:=by
 induction f with
 | zero=>
   intro g n h1 h2;have:n=0:=by omega
   subst this;cases g<;>simp[toLf]
 | succ f ih=>
  intro g n h1 h2;cases g with
  | zero=>
    have:n=0:=by omega
    subst this;simp[toLf]
  | succ g=>
   simp only[toLf];by_cases h:n=0
   ·simp[h]
   ·rw[za h,za h];have:n/B32<n:=Nat.div_lt_self (by omega) (by decide);rw[ih g (n/B32) (by omega) (by omega)]
theorem toL_zero:toL 0=[]:=rfl
theorem toL_step(n:Nat)(h:n≠0):toL n=n%B32::toL (n/B32):=by
 unfold toL;cases n with
 | zero=>exact(h rfl).elim
 | succ n=>rw[toLf,za h];have:(n+1)/B32<n+1:=Nat.div_lt_self (by omega) (by decide);rw[toLf_fuel n ((n+1)/B32) _ (by omega) (zR _)]
theorem toL_u32(n:Nat):U32 (toL n):=by
 induction n using Nat.strongRecOn with
 | _ n ih=>
  by_cases h:n=0
  ·subst h;intro x hx;simp[toL_zero]at hx
  ·rw[toL_step n h];intro x hx;rcases List.mem_cons.1 hx with rfl | hx
   ·exact Nat.mod_lt _ (by decide)
   ·exact ih (n/B32) (Nat.div_lt_self (by omega) (by decide)) x hx
theorem nval_toL(n:Nat):nval (toL n)=n:=by
 induction n using Nat.strongRecOn with
 | _ n ih=>
  by_cases h:n=0
  ·subst h;rfl
  ·rw[toL_step n h,nval,ih _ (Nat.div_lt_self (by omega) (by decide))];exact Nat.mod_add_div n B32
theorem toL_nil{n:Nat}:toL n=[]↔n=0:=by
 constructor
 ·intro h;have:=nval_toL n;rw[h]at this;exact this.symm
 ·rintro rfl;rfl
theorem nrm_cons{x:Nat}{r:List Nat}(h:Nrm (x::r)):Nrm r:=by
 cases r with
 | nil=>simp[Nrm]
 | cons y s=>simpa[Nrm]using h
theorem nrm_toL(l:List Nat)(h:Nrm l)(hu:U32 l):l=toL (nval l):=by
 induction l with
 | nil=>rfl
 | cons x r ih=>
  have hx:x<B32:=hu x (by simp);have hr:=ih (nrm_cons h) (fun y hy=>hu y (by simp[hy]));have h0:nval (x::r)≠0:=by intro h0;have:=nrm_nil h h0;simp at this
  have hd:(x+B32*nval r)/B32=nval r:=by rw[Nat.add_mul_div_left _ _ (by decide),Nat.div_eq_of_lt hx,zk]
  have hm:(x+B32*nval r)%B32=x:=by rw[Nat.add_mul_mod_self_left,Nat.mod_eq_of_lt hx]
  rw[toL_step _ h0];simp only[nval];rw[hd,hm,<- hr]
theorem norm_toL{l:List Nat}(hu:U32 l):norm l=toL (nval l):=by rw[nrm_toL (norm l) (norm_nrm l) (norm_u32 hu),nval_norm]
theorem toL_nrm(n:Nat):Nrm (toL n):=by have h:=norm_toL (toL_u32 n);rw[nval_toL]at h;rw[<- h];exact norm_nrm _
theorem nval_append(a b:List Nat):nval (a++b)=nval a+B32^a.length*nval b:=by
 induction a with
 | nil=>simp[nval]
 | cons x r ih=>simp only[List.cons_append,nval,ih,zm,Nat.pow_succ,Nat.mul_add];rw[Nat.mul_comm (B32^r.length) B32,Nat.mul_assoc];omega
theorem nval_lt'(l:List Nat)(h:U32 l):nval l<B32^l.length:=by
 induction l with
 | nil=>simp[nval]
 | cons x r ih=>
  have h1:=ih (fun y hy=>h y (by simp[hy]));have h2:=h x (by simp);simp only[nval,zm,Nat.pow_succ]
  calc x+B32*nval r<B32*(nval r+1):=by rw[Nat.mul_add];omega
   _<=B32*B32^r.length:=Nat.mul_le_mul_left _ h1
   _=_:=Nat.mul_comm _ _
theorem toL_len{n k:Nat}(h:n<B32^k):(toL n).length<=k:=by
 rcases zj k (toL n).length with h1 | h1
 ·exfalso;have hl:(toL n).length-1<(toL n).length:=by omega
  have hne:(toL n)[(toL n).length-1]≠0:=by intro h0;apply toL_nrm n;rw[zL hl,h0]
  have:nval ((toL n).take ((toL n).length-1)++(toL n).drop ((toL n).length-1))=n:=by rw[List.take_append_drop];exact nval_toL n
  rw[nval_append,zO hl]at this;simp only[nval,zn]at this;have h2:B32^k<=B32^((toL n).length-1):=Nat.pow_le_pow_right (by decide) (by omega);have h3:B32^((toL n).length-1)*1<=B32^((toL n).length-1)*(toL n)[(toL n).length-1]:=Nat.mul_le_mul_left _ (by omega);rw[Nat.min_eq_left (by omega),Nat.mul_add]at this;omega
 ·exact h1
theorem nval_rep(n:Nat):nval (List.replicate n 0)=0:=by
 induction n with
 | zero=>rfl
 | succ n ih=>simp[List.replicate_succ,nval,ih]
def lat(l:List Nat)(i:Nat):Nat:=l[i]?.getD 0
theorem lat_lt{l:List Nat}(h:U32 l)(i:Nat):lat l i<B32:=by
 unfold lat;cases hx:l[i]? with
 | none=>simp[B32]
 | some x=>exact h x (List.mem_of_getElem? hx)
theorem nval_take_succ(l:List Nat)(i:Nat):nval (l.take (i+1))=nval (l.take i)+B32^i*lat l i:=by
 unfold lat;rcases zj i l.length with h | h
 ·rw[List.take_add_one,zL h,nval_append,zn,Nat.min_eq_left (by omega)];simp[nval]
 ·rw[zV (by omega),zV h,zu h];simp
end
section
theorem setL_full{α:Type}(xs ys:List α)(h:xs.length=ys.length):setL xs 0 ys=ys:=by unfold setL;simp[h]
theorem nval_set(l:List Nat)(i y:Nat)(h:i<l.length):nval (l.set i y)+B32^i*lat l i=nval l+B32^i*y:=by
 induction l generalizing i with
 | nil=>simp at h
 | cons x r ih=>
  cases i with
  | zero=>simp[nval,lat];omega
  | succ i=>
   have:=ih i (by simpa using h);simp only[List.set_cons_succ,nval,lat,zN]at this ⊢;have e:B32^(i+1)=B32*B32^i:=by rw[Nat.pow_succ,Nat.mul_comm]
   rw[e,Nat.mul_assoc,Nat.mul_assoc];have h2:=congrArg (B32 * ·) this;simp only[Nat.mul_add]at h2;omega
theorem u32_set{l:List Nat}(h:U32 l){y:Nat}(hy:y<B32)(i:Nat):U32 (l.set i y):=by
 intro z hz;rcases List.mem_or_eq_of_mem_set hz with h1 | h1
 ·exact h z h1
 ·rw[h1];exact hy
theorem lat_set_ne(l:List Nat)(i j y:Nat)(h:i≠j):lat (l.set i y) j=lat l j:=by unfold lat;rw[yc h]
theorem u32_rep(n:Nat):U32 (List.replicate n 0):=fun x hx=>by rw[List.eq_of_mem_replicate hx];decide
theorem lat_rep(n i:Nat):lat (List.replicate n 0) i=0:=by unfold lat;rw[List.getElem?_replicate];split<;>rfl
theorem mul_step{o o' P i x y z v:Nat}(h1:o+P*v=i)(_h:o'+P*z=o+P*((v+x*y+z)%B32)) :
  o'+P*B32*((v+x*y+z)/B32)=i+P*(x*y):=by
 have h3:=Nat.div_add_mod (v+x*y+z) B32;generalize (v+x*y+z)%B32=r at *;generalize (v+x*y+z)/B32=q at *;have h4:P*(B32*q)+P*r=P*v+P*(x*y)+P*z:=by rw[<- Nat.mul_add,h3,Nat.mul_add,Nat.mul_add]
 rw[Nat.mul_assoc];omega
theorem prod_lt{x y:Nat}(hx:x<B32)(hy:y<B32):x*y+2*(B32-1)<B32*B32:=by
 have h:x*y<=(B32-1)*(B32-1):=Nat.mul_le_mul (by omega) (by omega);have e:(B32-1)*(B32-1)+2*(B32-1)<B32*B32:=by decide
 omega
theorem i64_and1(n:Int):bits .and .i64 n 1=n%2:=by
 have h1:(BitVec.ofInt 64 1).toNat=2^1-1:=by decide
 have key:(BitVec.ofInt 64 n &&& BitVec.ofInt 64 1).toNat=(n%((2^64:Nat):Int)).toNat%2^1:=by rw[BitVec.toNat_and,BitVec.toNat_ofInt,h1,Nat.and_two_pow_sub_one_eq_mod]
 show IntKind.i64.wrap ((BitVec.ofInt 64 n &&& BitVec.ofInt 64 1).toNat:Nat)=n%2;rw[key,IntKind.wrap_i64];omega
theorem and_one(n:Nat):binV .and (.int .i64 (n:Int)) (.int .i64 1)=some (.int .i64 ((n%2:Nat):Int)):=by simp only[binV,intV,isShift,ze,Bool.or_true,zb,i64_and1];rfl
theorem and_mask(a M k:Nat)(hM:M+1=2^k)(ha:a<18446744073709551616)(hM2:M<18446744073709551616):binV .and (.int .u64 (a:Int)) (.int .u64 (M:Int))=some (.int .u64 ((a%2^k:Nat):Int)):=by
 have h:=u64_and_nat a M ha hM2;have e:M=2^k-1:=by omega
 simp only[binV,intV,isShift,ze,Bool.or_true,zb,h];rw[e,Nat.and_two_pow_sub_one_eq_mod]
theorem shr_u64(a:Nat)(k:IntKind)(n:Nat)(h:n<64):binV .shr (.int .u64 (a:Int)) (.int k (n:Int))=some (.int .u64 ((a/2^n:Nat):Int)):=by
 rw[shr_i _ _ _ _ (zY n),Int.toNat_natCast];have e:Nat.min n (IntKind.bits .u64)=n:=Nat.min_eq_left (by show n<=64;omega);rw[e,Int.fdiv_eq_ediv_of_nonneg _ (Int.le_of_lt (Int.pow_pos (by decide)))];have e2:((2:Int)^n)=((2^n:Nat):Int):=by simp
 rw[e2,<- Int.natCast_ediv]
end
section
def trimf:Nat->Nat->Nat×Nat
 | 0,n=>(n,0)
 | f+1,n=>if n≠0/\n%10=0 then((trimf f (n/10)).1,(trimf f (n/10)).2+1)else(n,0)
theorem trimf_fuel(f:Nat) : ∀ g n,n<10^f->n<10^g->trimf f n=trimf g n:=by
 induction f with
 | zero=>
  intro g n h1 h2;have:n=0:=by simpa using h1
  subst this;cases g<;>simp[trimf]
 | succ f ih=>
  intro g n h1 h2;cases g with
  | zero=>
   have:n=0:=by simpa using h2
   subst this;simp[trimf]
  | succ g=>
   simp only[trimf];by_cases h:n≠0/\n%10=0
   ·rw[zb h,zb h];rw[ih g (n/10) (by rw[Nat.div_lt_iff_lt_mul (by decide)];rw[Nat.pow_succ]at h1;exact h1) (by rw[Nat.div_lt_iff_lt_mul (by decide)];rw[Nat.pow_succ]at h2;exact h2)]
   ·rw[za h,za h]
def trim(n:Nat):Nat×Nat:=trimf n n
theorem lt_ten_pow(n:Nat):n<10^n:=Nat.lt_pow_self (by decide)
theorem trim_eq(n f:Nat)(h:n<10^f):trim n=trimf f n:=trimf_fuel n f n (lt_ten_pow n) h
theorem trim_step{n:Nat}(h:n≠0)(h2:n%10=0):trim n=((trim (n/10)).1,(trim (n/10)).2+1):=by have h3:n/10<10^n:=Nat.lt_of_le_of_lt (Nat.div_le_self _ _) (lt_ten_pow n);rw[trim_eq n (n+1) (Nat.lt_trans (lt_ten_pow n) (Nat.pow_lt_pow_succ (by decide))),trimf,zb ⟨h,h2⟩,trim_eq (n/10) n h3]
theorem trim_stop{n:Nat}(h:n=0\/n%10≠0):trim n=(n,0):=by
 rw[trim_eq n (n+1) (Nat.lt_trans (lt_ten_pow n) (Nat.pow_lt_pow_succ (by decide))),trimf,za];rintro⟨h1,h2⟩;rcases h with h | h
 ·exact h1 h
 ·exact h h2
theorem trim_ind{C:Nat->Prop}(h0 : ∀ n,(n=0\/n%10≠0)->C n)(h1 : ∀ n,n≠0->n%10=0->C (n/10)->C n)(n:Nat):C n:=by
 induction n using Nat.strongRecOn with
 | _ n ih=>
  by_cases h:n≠0/\n%10=0
  ·exact h1 n h.1 h.2 (ih (n/10) (Nat.div_lt_self (by omega) (by decide)))
  ·exact h0 n (by omega)
theorem trim_val(n:Nat):(trim n).1*10^(trim n).2=n:=by
 induction n using trim_ind with
 | h0 n h=>rw[trim_stop h];simp
 | h1 n h h2 ih=>rw[trim_step h h2];simp only[Nat.pow_succ,<- Nat.mul_assoc,ih];omega
theorem trim_zero:trim 0=(0,0):=rfl
theorem trim_ne{n:Nat}(h:n≠0):(trim n).1≠0:=by intro h0;have:=trim_val n;rw[h0]at this;omega
theorem trim_tens{n f:Nat}(h:n<10^f):(trim n).2<=f:=by
 by_cases h0:n=0
 ·subst h0;simp[trim_zero]
 ·have h1:=trim_val n;have h2:=trim_ne h0;rcases zj f (trim n).2 with h3 | h3
  ·have h4:10^f<=10^(trim n).2:=Nat.pow_le_pow_right (by decide) (by omega);have h5:1*10^(trim n).2<=(trim n).1*10^(trim n).2:=zW _ (by omega);omega
  ·exact h3
def mk(neg:Bool)(n:Nat)(e:Int):Nm×Bool:=
 if n=0 then(.zero,true)
 else if 90<(toL (trim n).1).length\/e+(trim n).2 < -1200\/1200<e+(trim n).2 then(.zero,false)
 else(⟨neg,toL (trim n).1,e+(trim n).2⟩,true)
end
section
def bl(n:Nat):Nat:=if n=0 then 0 else Nat.log2 n+1
end
section
end
section
def cutN(ex fr b:Nat):Bool:=decide (b/2^(ex+fr)%2≠0)
def cutE(ex fr b:Nat):Nat:=b/2^fr%2^ex
def cutM(fr b:Nat):Nat:=b%2^fr
def leastI(ex fr:Nat):Int:=2-2^(ex-1)-fr
def bitsM(fr e m:Nat):Nat:=if e=0 then m else m+2^fr
def bitsT(ex fr e:Nat):Int:=(if e=0 then 0 else(e:Int)-1)+leastI ex fr
end
section
end
end Go.Ev
