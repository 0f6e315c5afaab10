/- Naturals: powers, tens; the program's numbers that are made. -/
import Derived.Test.YtfodpklkdecpkaaKSq5
import Derived.Test.YtfodpklkdecpkaaKSp
set_option linter.all false
open Bool renaming not_false->zI
open List renaming getElem?_cons_zero->zM,getElem?_cons_succ->zN
namespace Go.Ev
attribute [local irreducible] P0
theorem npow_loop(m:Nat) : ∀ (n o s t u:Nat),n<2^m->n<=2000->t*n+u<=100000->s<B32^t->o<B32^u ->
  loopL L_nat_Pow_1 (vec [.int .i64 (n:Int),.sl (limbs (toL o)),.sl (limbs (toL s))])=some (0,vec [.sl (limbs (toL (o*s^n)))]):=by
 induction m with
 | zero=>
  intro n o s t u hn _ _ _ _;have:n=0:=by simpa using hn
  subst this;apply loopL_inr;unfold L_nat_Pow_1;apply yes;simp
 | succ m ih=>
  intro n o s t u hn hn2 htu hs ho;by_cases h0:n=0
  ·subst h0;apply loopL_inr;unfold L_nat_Pow_1;apply yes;simp
  have hpos:(0:Int)<(n:Int):=by omega
  have htn:t<=t*n:=Nat.le_mul_of_pos_right _ (by omega);have hls:=toL_len hs;have hlo:=toL_len ho;have hsq:=nmul_ok (toL s) (toL s) (toL_u32 s) (toL_u32 s) (by omega);have hos:=nmul_ok (toL o) (toL s) (toL_u32 o) (toL_u32 s) (by omega);rw[nval_toL]at hsq;rw[nval_toL,nval_toL]at hos;have hsh:(n:Int).fdiv 2=((n/2:Nat):Int):=by rw[Int.fdiv_eq_ediv_of_nonneg _ (by decide)];omega
  have hp2:(2:Int)^Nat.min (1:Int).toNat (IntKind.bits .i64)=2:=by decide
  have hss:s*s<B32^(2*t):=by rw[Nat.two_mul,Nat.pow_add];exact Nat.mul_lt_mul'' hs hs
  have hn':n/2<2^m:=by rw[Nat.div_lt_iff_lt_mul (by decide)];rw[Nat.pow_succ]at hn;exact hn
  have h2t:2*t*(n/2)<=t*n:=by rw[Nat.mul_comm 2 t,Nat.mul_assoc];exact Nat.mul_le_mul_left _ (Nat.mul_div_le n 2)
  have hand:=and_one n;rcases Nat.mod_two_eq_zero_or_one n with h | h
  ·have hpw:o*s^n=o*(s*s)^(n/2):=by rw[<- Nat.pow_two,<- Nat.pow_mul,show 2*(n/2)=n by omega]
   rw[hpw,<- ih (n/2) o (s*s) (2*t) u hn' (by omega) (by omega) hss ho];apply loopL_inl;unfold L_nat_Pow_1;rw[h]at hand;apply yes;simp only[vec_0,vec_s,gtr_i,some_bind,hpos,ze,asBool_b,zb,hand,neq_i,hsq,shr_i _ _ _ _ (show(0:Int)<=1 by decide),hp2,hsh];simp
  ·have hpw:o*s^n=o*s*(s*s)^(n/2):=by rw[<- Nat.pow_two,<- Nat.pow_mul,Nat.mul_assoc,<- Nat.pow_succ',show(2*(n/2)).succ=n by omega]
   have ho':o*s<B32^(u+t):=by rw[Nat.pow_add];exact Nat.mul_lt_mul'' ho hs
   have h2t':2*t*(n/2)+t=t*n:=by rw[Nat.mul_comm 2 t,Nat.mul_assoc,<- Nat.mul_succ,show(2*(n/2)).succ=n by omega]
   rw[hpw,<- ih (n/2) (o*s) (s*s) (2*t) (u+t) hn' (by omega) (by omega) hss ho'];apply loopL_inl;unfold L_nat_Pow_1;rw[h]at hand;apply yes;simp only[vec_0,vec_s,gtr_i,some_bind,hpos,ze,asBool_b,zb,hand,neq_i,hsq,hos,shr_i _ _ _ _ (show(0:Int)<=1 by decide),hp2,hsh];simp[hsq]
theorem limbs_one(x:Nat):[V.int .u32 (x:Int)]=limbs [x]:=rfl
theorem npow_ok(b n:Nat)(hb:b<B32)(hn:n<=1300):P0 f_nat_Pow [.v (.int .u32 (b:Int)),.v (.int .i64 (n:Int))] []=some (.sl (limbs (toL (b^n))),[]):=by
 rw[eq_nat_Pow];unfold F_nat_Pow;have hnm:=nnorm_ok [b] (by simp) (fun x hx=>by simp at hx;rw[hx];exact hb);have hmin:minV (.int .i64 (n:Int)) [.int .i64 1300]=some (.int .i64 (n:Int)):=by simp only[minV,zb];congr 2;rw[za (by omega)]
 have hmax:maxV (.int .i64 0) [.int .i64 (n:Int)]=some (.int .i64 (n:Int)):=by simp only[maxV,zb];congr 2;split<;>omega
 have hb1:nval [b]=b:=by simp[nval]
 have hl:=npow_loop 11 n 1 b 1 1 (by
   have:(2:Nat)^11=2048:=by decide
   omega) (by omega) (by omega) (by simpa using hb) (by decide)
 have h1:[V.int .u32 1]=limbs (toL 1):=rfl;rw[hb1]at hnm;simp only[okN_int,tst_t,fld_int,some_bind,limbs_one,hnm,hmin,hmax];rw[h1,hl];simp
theorem ntrim_loop(f:Nat) : ∀ (n k:Nat),n<10^f->(toL n).length<=1000000->k+f<=1000000000 ->
  loopL L_nat_Trim_1 (vec [.sl (limbs (toL n)),.int .i64 (k:Int)])=some (0,vec [.sl (limbs (toL (trim n).1)),.int .i64 ((k+(trim n).2:Nat):Int)]):=by
 induction f with
 | zero=>
  intro n k h _ _;have:n=0:=by simpa using h
  subst this;apply loopL_inr;unfold L_nat_Trim_1;apply yes;simp[toL_zero,trim_zero,limbs]
 | succ f ih=>
  intro n k h hl hk;by_cases h0:n=0
  ·subst h0;apply loopL_inr;unfold L_nat_Trim_1;apply yes;simp[toL_zero,trim_zero,limbs]
  have hne:toL n≠[]:=fun e=>h0 (toL_nil.1 e)
  have hlen:(0:Int)<((toL n).length:Int):=by have:0<(toL n).length:=List.length_pos_iff.2 hne;omega
  have hs:P0 f_nat_small [.v (.sl (limbs (toL n))),.v (.int .u32 10)] []=_:=nsmall_ok (toL n) 10 (by decide) (by decide) hl (toL_u32 n);rw[nval_toL]at hs;by_cases h2:n%10=0
  ·have hl':(toL (n/10)).length<=(toL n).length:=by
    apply toL_len
    calc n/10<=n:=Nat.div_le_self _ _
     _=nval (toL n):=(nval_toL n).symm
     _<_:=nval_lt' _ (toL_u32 n)
   have:=ih (n/10) (k+1) (by rw[Nat.div_lt_iff_lt_mul (by decide)];rw[Nat.pow_succ]at h;exact h) (by omega) (by omega);rw[trim_step h0 h2,show k+((trim (n/10)).2+1)=k+1+(trim (n/10)).2 by omega,<- this];apply loopL_inl;unfold L_nat_Trim_1;have w:=w64 (a:=(k:Int)+1) (by omega);apply yes;simp only[vec_0,vec_s,lenV_sl,some_bind,limbs_len,gt_iff_lt,hlen,ze,zb,hs,ext_tup,h2];simp[w]
  ·rw[trim_stop (.inr h2)];apply loopL_inr;unfold L_nat_Trim_1;have h2' : ¬ ((n%10:Nat):Int)=0:=by omega
   apply yes;simp only[vec_0,vec_s,lenV_sl,some_bind,limbs_len,gt_iff_lt,hlen,ze,zb,hs,ext_tup];simp only[zM,zN,some_bind,neq_i,h2',zf,asBool_b,zI,zb];simp
theorem ntrim_ok(l:List Nat)(hu:U32 l)(hl:l.length<=100000) :
  P0 f_nat_Trim [.v (.sl (limbs l))] []=some (.tup [.sl (limbs (toL (trim (nval l)).1)),.int .i64 ((trim (nval l)).2:Int)],[]):=by
 rw[eq_nat_Trim];unfold F_nat_Trim;have hlt:=nval_lt l hu;have h:=ntrim_loop (10*l.length) (nval l) 0 hlt (zp (toL_len (nval_lt' l hu)) (by omega)) (by omega);rw[show((0:Nat):Int)=0 from rfl,zk]at h;simp only[nnorm_ok l (by omega) hu,some_bind];rw[h];rfl
end Go.Ev
