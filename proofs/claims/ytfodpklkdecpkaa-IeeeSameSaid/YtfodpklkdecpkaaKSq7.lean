/- The program's numbers that are made; floats' parts. -/
import Derived.Test.YtfodpklkdecpkaaKSq6
import Derived.Test.YtfodpklkdecpkaaKSp
set_option linter.all false
namespace Go.Ev
attribute [local irreducible] P0
theorem num_zero:V.agg [.bool false,.sl [],.int .i64 0]=Nm.zero.val:=rfl
theorem nmake_ok(neg:Bool)(n:Nat)(e:Int)(hl:(toL n).length<=100000)(he : -1000000<=e/\e<=1000000) :
  P0 f_num_Make [.v (.bool neg),.v (.sl (limbs (toL n))),.v (.int .i64 e)] []=some (.tup [(mk neg n e).1.val,.bool (mk neg n e).2],[]):=by
 rw[eq_num_Make];unfold F_num_Make;have ht:=ntrim_ok (toL n) (toL_u32 n) hl;rw[nval_toL]at ht;unfold mk;by_cases h0:n=0
 ·subst h0;simp only[trim_zero,toL_zero]at ht;apply yes;simp[ht,toL_zero,num_zero]
 ·have hne:toL (trim n).1≠[]:=fun h=>trim_ne h0 (toL_nil.1 h)
  have hk:(trim n).2<=1000000:=by have:=trim_tens (n:=n) (f:=10*(toL n).length) (by have:=nval_lt (toL n) (toL_u32 n);rwa [nval_toL]at this);omega
  have hlen : ¬ (((toL (trim n).1).length:Int)=0):=by have:=List.length_pos_iff.2 hne;omega
  have w1:=w64 (a:=1200-((trim n).2:Int)) (by omega);have w2:=w64 (a := -1200-((trim n).2:Int)) (by omega);have w3:=w64 (a:=e+((trim n).2:Int)) (by omega);rw[za h0];by_cases hb:90<(toL (trim n).1).length\/e+(trim n).2 < -1200\/1200<e+(trim n).2
  ·rw[zb hb];by_cases c1:90<(toL (trim n).1).length
   ·have c1' : ¬ ((toL (trim n).1).length:Int)<=90/\90<((toL (trim n).1).length:Int):=by omega
    apply yes;simp[ht,hne,c1',num_zero]
   ·have c1':((toL (trim n).1).length:Int)<=90 /\ ¬ 90<((toL (trim n).1).length:Int):=by omega
    by_cases c2:1200-((trim n).2:Int)<e
    ·apply yes;simp[ht,hne,c1',c2,w1,num_zero]
    ·have c3:e < -1200-((trim n).2:Int):=by omega
     apply yes;simp[ht,hne,c1',c2,c3,w1,w2,num_zero]
  ·rw[za hb];have c1':((toL (trim n).1).length:Int)<=90 /\ ¬ 90<((toL (trim n).1).length:Int):=by omega
   have c2 : ¬ (1200-((trim n).2:Int)<e):=by omega
   have c3 : ¬ (e < -1200-((trim n).2:Int)):=by omega
   apply yes;simp[ht,hne,c1',c2,c3,w1,w2,w3,Nm.val]
inductive Fm:Int->Nat->Nat->Prop
 | w16:Fm 16 5 10
 | w32:Fm 32 8 23
 | w64:Fm 64 11 52
def fmV(ex fr:Nat):V := .agg [.int .i64 (ex:Int),.int .i64 (fr:Int)]
theorem okN_fm(ex fr:Nat):okN 2 (fmV ex fr)=true:=rfl
theorem fm0(ex fr:Nat):fldV (fmV ex fr) 0=some (.int .i64 (ex:Int)):=rfl
theorem fm1(ex fr:Nat):fldV (fmV ex fr) 1=some (.int .i64 (fr:Int)):=rfl
theorem of_w{w:Int}{ex fr:Nat}(h:Fm w ex fr):P0 f_ieee_of [.v (.int .i64 w)] []=some (.tup [fmV ex fr,.bool true],[]):=by rw[eq_ieee_of];unfold F_ieee_of;cases h<;>(apply yes;simp[fmV])
theorem cut_ok{w:Int}{ex fr:Nat}(h:Fm w ex fr)(b:Nat)(hb:b<18446744073709551616) :
  P0 f_ieee_form_cut [.v (fmV ex fr),.v (.int .u64 (b:Int))] []=some (.tup [.bool (cutN ex fr b),.int .i64 (cutE ex fr b:Int),.int .u64 (cutM fr b:Int)],[]):=by
 rw[eq_ieee_form_cut];unfold F_ieee_form_cut;have key : ∀ (M k:Nat) (a:Nat),M+1=2^k->M<18446744073709551616->a<18446744073709551616->binV .and (.int .u64 (a:Int)) (.int .u64 (M:Int))=some (.int .u64 ((a%2^k:Nat):Int)):=fun M k a h1 h2 h3=>and_mask a M k h1 h3 h2
 have hdiv : ∀ n,b/n<18446744073709551616:=fun n=>Nat.lt_of_le_of_lt (Nat.div_le_self _ _) hb
 have fin : ∀ (s f:Nat) (k:IntKind),binV .add (.int .i64 (s:Int)) (.int .i64 (f:Int))=some (.int .i64 (IntKind.i64.wrap ((s:Int)+(f:Int)))):=fun s f k=>add_i _ _ _
 have sh : ∀ n:Nat,n<64->binV .shr (.int .u64 (b:Int)) (.int .i64 (n:Int))=some (.int .u64 ((b/2^n:Nat):Int)):=fun n h=>shr_u64 b .i64 n h
 have one:=fun a h=>key 1 1 a (by decide) (by decide) h
 have neg : ∀ a:Nat,(!decide (((a:Nat):Int)=0))=decide (a≠0):=fun a=>by simp
 have fit : ∀ a:Nat,a<9223372036854775808->IntKind.i64.wrap (a:Int)=(a:Int):=fun a h=>w64 (by omega)
 unfold cutN cutE cutM;cases h with
 | w16=>
  have e1:binV .add (.int .i64 ((5:Nat):Int)) (.int .i64 ((10:Nat):Int))=some (.int .i64 ((15:Nat):Int)):=by kernel_rfl
  have e2:binV .shl (.int .u64 1) (.int .i64 ((5:Nat):Int))=some (.int .u64 32):=by kernel_rfl
  have e3:binV .shl (.int .u64 1) (.int .i64 ((10:Nat):Int))=some (.int .u64 1024):=by kernel_rfl
  have e4:binV .sub (.int .u64 32) (.int .u64 1)=some (.int .u64 ((31:Nat):Int)):=by kernel_rfl
  have e5:binV .sub (.int .u64 1024) (.int .u64 1)=some (.int .u64 ((1023:Nat):Int)):=by kernel_rfl
  have m1:=key 31 5 (b/2^10) (by decide) (by decide) (hdiv _);have m2:=key 1023 10 b (by decide) (by decide) hb;have m3:=one (b/2^15) (hdiv _);have f1:=fit (b/2^10%2^5) (Nat.lt_trans (Nat.mod_lt _ (by decide)) (by decide));rw[show((1:Nat):Int)=1 from rfl]at m3;simp only[okN_fm,tst_t,fm0,fm1,some_bind,e1,sh 15 (by decide),sh 10 (by decide),m3,neq_i,e2,e3,e4,e5,m1,m2,cvi_i,f1];rw[neg]
 | w32=>
  have e1:binV .add (.int .i64 ((8:Nat):Int)) (.int .i64 ((23:Nat):Int))=some (.int .i64 ((31:Nat):Int)):=by kernel_rfl
  have e2:binV .shl (.int .u64 1) (.int .i64 ((8:Nat):Int))=some (.int .u64 256):=by kernel_rfl
  have e3:binV .shl (.int .u64 1) (.int .i64 ((23:Nat):Int))=some (.int .u64 8388608):=by kernel_rfl
  have e4:binV .sub (.int .u64 256) (.int .u64 1)=some (.int .u64 ((255:Nat):Int)):=by kernel_rfl
  have e5:binV .sub (.int .u64 8388608) (.int .u64 1)=some (.int .u64 ((8388607:Nat):Int)):=by kernel_rfl
  have m1:=key 255 8 (b/2^23) (by decide) (by decide) (hdiv _);have m2:=key 8388607 23 b (by decide) (by decide) hb;have m3:=one (b/2^31) (hdiv _);have f1:=fit (b/2^23%2^8) (Nat.lt_trans (Nat.mod_lt _ (by decide)) (by decide));rw[show((1:Nat):Int)=1 from rfl]at m3;simp only[okN_fm,tst_t,fm0,fm1,some_bind,e1,sh 31 (by decide),sh 23 (by decide),m3,neq_i,e2,e3,e4,e5,m1,m2,cvi_i,f1];rw[neg]
 | w64=>
  have e1:binV .add (.int .i64 ((11:Nat):Int)) (.int .i64 ((52:Nat):Int))=some (.int .i64 ((63:Nat):Int)):=by kernel_rfl
  have e2:binV .shl (.int .u64 1) (.int .i64 ((11:Nat):Int))=some (.int .u64 2048):=by kernel_rfl
  have e3:binV .shl (.int .u64 1) (.int .i64 ((52:Nat):Int))=some (.int .u64 4503599627370496):=by kernel_rfl
  have e4:binV .sub (.int .u64 2048) (.int .u64 1)=some (.int .u64 ((2047:Nat):Int)):=by kernel_rfl
  have e5:binV .sub (.int .u64 4503599627370496) (.int .u64 1)=some (.int .u64 ((4503599627370495:Nat):Int)):=by kernel_rfl
  have m1:=key 2047 11 (b/2^52) (by decide) (by decide) (hdiv _);have m2:=key 4503599627370495 52 b (by decide) (by decide) hb;have m3:=one (b/2^63) (hdiv _);have f1:=fit (b/2^52%2^11) (Nat.lt_trans (Nat.mod_lt _ (by decide)) (by decide));rw[show((1:Nat):Int)=1 from rfl]at m3;simp only[okN_fm,tst_t,fm0,fm1,some_bind,e1,sh 63 (by decide),sh 52 (by decide),m3,neq_i,e2,e3,e4,e5,m1,m2,cvi_i,f1];rw[neg]
def kindN(ex e m:Nat):Int:=if e=2^ex-1/\m≠0 then 4 else if e=2^ex-1 then 3 else if e=0/\m=0 then 2 else 1
theorem kind_ok{w:Int}{ex fr:Nat}(h:Fm w ex fr)(b:Nat)(hb:b<18446744073709551616) :
  P0 f_ieee_Kind [.v (.int .i64 w),.v (.int .u64 (b:Int))] []=some (.int .i64 (kindN ex (cutE ex fr b) (cutM fr b)),[]):=by
 rw[eq_ieee_Kind];unfold F_ieee_Kind;have hof:=of_w h;have hcut:=cut_ok h b hb;obtain⟨Q,e2,e3⟩ : ∃ Q:Int,binV .shl (.int .i64 1) (.int .i64 (ex:Int))=some (.int .i64 Q)/\IntKind.i64.wrap (Q-1)=((2^ex-1:Nat):Int):=by
  cases h
  ·exact⟨32,by kernel_rfl,by decide⟩
  ·exact⟨256,by kernel_rfl,by decide⟩
  ·exact⟨2048,by kernel_rfl,by decide⟩
 generalize cutE ex fr b=e at *;generalize cutM fr b=m at *;generalize cutN ex fr b=neg at *;generalize hM:2^ex-1=M at *;have ee:((e:Int)=(M:Int))↔e=M:=by omega
 have em:((m:Int)=0)↔m=0:=by omega
 have e0:((e:Int)=0)↔e=0:=by omega
 unfold kindN;rw[hM];by_cases c1:e=M
 ·by_cases c2:m=0
  ·apply yes;simp[hof,hcut,okN_fm,fm0,e2,e3,c1,c2]
  ·apply yes;simp[hof,hcut,okN_fm,fm0,e2,e3,c1,c2]
 ·have c1' : ¬ ((e:Int)=(M:Int)):=by omega
  by_cases c2:e=0
  ·subst c2;have c4 : ¬ ((0:Int)=(M:Int)):=by omega
   by_cases c3:m=0
   ·apply yes;simp[hof,hcut,okN_fm,fm0,e2,e3,c1,c4,c3]
   ·apply yes;simp[hof,hcut,okN_fm,fm0,e2,e3,c1,c4,c3]
  ·have c2' : ¬ ((e:Int)=0):=by omega
   apply yes;simp[hof,hcut,okN_fm,fm0,e2,e3,c1,c1',c2,c2']
end Go.Ev
