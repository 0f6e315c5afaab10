/- The reference's naturals and numbers, by value. -/
import Derived.Test.YtfodpklkdecpkaaKSq1
import Derived.Test.YtfodpklkdecpkaaKSp
set_option linter.all false
open Bool renaming not_false->zI
open List renaming getElem?_cons_zero->zM,getElem?_cons_succ->zN
namespace Go.Ev
attribute [local irreducible] P0
theorem rnorm_ok(l:List Nat)(hl:l.length<=1000000)(hu:U32 l):P0 f_ref01_Norm [.v (.sl (limbs l))] []=some (.sl (limbs (toL (nval l))),[]):=by rw[norm_ok l hl,norm_toL hu]
theorem rsmall_ok(l:List Nat)(d:Nat)(hd:0<d)(hd2:d<B32)(hl:l.length<=1000000)(hu:U32 l) :
  P0 f_ref01_Small [.v (.sl (limbs l)),.v (.int .u32 (d:Int))] []=some (.tup [.sl (limbs (toL (nval l/d))),.int .u32 ((nval l%d:Nat):Int)],[]):=by
 obtain⟨h1,h2⟩:=small_val d hd l;rw[small_ok l d hd hd2 hl hu,norm_toL (small_u32 d hd l hu),h1,h2]
theorem rtrim_loop(f:Nat) : ∀ (n k:Nat),n<10^f->(toL n).length<=1000000->k+f<=1000000000 ->
  loopL L_ref01_Trim_1 (vec [.sl (limbs (toL n)),.int .i64 (k:Int)])=some (0,vec [.sl (limbs (toL (trim n).1)),.int .i64 ((k+(trim n).2:Nat):Int)]):=by
 induction f with
 | zero=>
  intro n k h _ _;have:n=0:=by simpa using h
  subst this;apply loopL_inr;unfold L_ref01_Trim_1;apply yes;simp[toL_zero,trim_zero,limbs]
 | succ f ih=>
  intro n k h hl hk;by_cases h0:n=0
  ·subst h0;apply loopL_inr;unfold L_ref01_Trim_1;apply yes;simp[toL_zero,trim_zero,limbs]
  have hne:toL n≠[]:=fun e=>h0 (toL_nil.1 e)
  have hlen:(0:Int)<((toL n).length:Int):=by have:0<(toL n).length:=List.length_pos_iff.2 hne;omega
  have hs:P0 f_ref01_Small [.v (.sl (limbs (toL n))),.v (.int .u32 10)] []=_:=rsmall_ok (toL n) 10 (by decide) (by decide) hl (toL_u32 n);rw[nval_toL]at hs;by_cases h2:n%10=0
  ·have hl':(toL (n/10)).length<=(toL n).length:=by
    apply toL_len
    calc n/10<=n:=Nat.div_le_self _ _
     _=nval (toL n):=(nval_toL n).symm
     _<_:=nval_lt' _ (toL_u32 n)
   have:=ih (n/10) (k+1) (by rw[Nat.div_lt_iff_lt_mul (by decide)];rw[Nat.pow_succ]at h;exact h) (by omega) (by omega);rw[trim_step h0 h2,show k+((trim (n/10)).2+1)=k+1+(trim (n/10)).2 by omega,<- this];apply loopL_inl;unfold L_ref01_Trim_1;have w:=w64 (a:=(k:Int)+1) (by omega);apply yes;simp only[vec_0,vec_s,lenV_sl,some_bind,limbs_len,gt_iff_lt,hlen,ze,zb,hs,ext_tup,h2];simp[w]
  ·rw[trim_stop (.inr h2)];apply loopL_inr;unfold L_ref01_Trim_1;have h2' : ¬ ((n%10:Nat):Int)=0:=by omega
   apply yes;simp only[vec_0,vec_s,lenV_sl,some_bind,limbs_len,gt_iff_lt,hlen,ze,zb,hs,ext_tup];simp only[zM,zN,some_bind,neq_i,h2',zf,asBool_b,zI,zb];simp
theorem rtrim_ok(l:List Nat)(hu:U32 l)(hl:l.length<=100000) :
  P0 f_ref01_Trim [.v (.sl (limbs l))] []=some (.tup [.sl (limbs (toL (trim (nval l)).1)),.int .i64 ((trim (nval l)).2:Int)],[]):=by
 rw[eq_ref01_Trim];unfold F_ref01_Trim;have hlt:=nval_lt l hu;have h:=rtrim_loop (10*l.length) (nval l) 0 hlt (zp (toL_len (nval_lt' l hu)) (by omega)) (by omega);rw[show((0:Nat):Int)=0 from rfl,zk]at h;simp only[rnorm_ok l (by omega) hu,some_bind];rw[h];rfl
theorem rmake_ok(neg:Bool)(l:List Nat)(e:Int)(hu:U32 l)(hl:l.length<=100000)(he : -1000000<=e/\e<=1000000) :
  P0 f_ref02_Make [.v (.bool neg),.v (.sl (limbs l)),.v (.int .i64 e)] []=some (.tup [(mk neg (nval l) e).1.val,.bool (mk neg (nval l) e).2],[]):=by
 rw[eq_ref02_Make];unfold F_ref02_Make;have ht:=rtrim_ok l hu hl;have hlt:=nval_lt l hu;have z:V.agg [.bool false,.sl [],.int .i64 0]=Nm.zero.val:=rfl;generalize nval l=n at *;unfold mk;by_cases h0:n=0
 ·subst h0;simp only[trim_zero,toL_zero]at ht;apply yes;simp[ht,toL_zero,z]
 ·have hne:toL (trim n).1≠[]:=fun h=>trim_ne h0 (toL_nil.1 h)
  have hk:(trim n).2<=1000000:=by have:=trim_tens (n:=n) (f:=10*l.length) hlt;omega
  have e2 : ¬ (e < -1099511627776) /\ -1099511627776<=e:=by omega
  have e3 : ¬ (1099511627776<e)/\e<=1099511627776:=by omega
  have e4 : ¬ (1099511627776<((trim n).2:Int))/\((trim n).2:Int)<=1099511627776:=by omega
  have e7:=w64 (a:=e+(trim n).2) (by omega);rw[za h0];by_cases hb:90<(toL (trim n).1).length\/e+(trim n).2 < -1200\/1200<e+(trim n).2
  ·rw[zb hb];by_cases c1:90<(toL (trim n).1).length
   ·have c1' : ¬ ((toL (trim n).1).length:Int)<=90/\90<((toL (trim n).1).length:Int):=by omega
    apply yes;simp[ht,hne,c1',z]
   ·have c1':((toL (trim n).1).length:Int)<=90 /\ ¬ 90<((toL (trim n).1).length:Int):=by omega
    by_cases c2:e+(trim n).2 < -1200
    ·apply yes;simp[ht,hne,c1',e2,e3,e4,e7,c2,z]
    ·have c3:1200<e+(trim n).2:=by omega
     apply yes;simp[ht,hne,c1',e2,e3,e4,e7,c2,c3,z]
  ·rw[za hb];have c1':((toL (trim n).1).length:Int)<=90 /\ ¬ 90<((toL (trim n).1).length:Int):=by omega
   have c2 : ¬ (e+(trim n).2 < -1200) /\ -1200<=e+(trim n).2:=by omega
   have c3 : ¬ (1200<e+(trim n).2)/\e+(trim n).2<=1200:=by omega
   apply yes;simp[ht,hne,c1',e2,e3,e4,e7,c2,c3,Nm.val]
end Go.Ev
