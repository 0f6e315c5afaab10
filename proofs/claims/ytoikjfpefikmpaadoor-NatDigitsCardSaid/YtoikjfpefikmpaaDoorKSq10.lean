/- Naturals: comparison, differences, doubles, bits, quotients. -/
import Derived.Test.YtoikjfpefikmpaaDoorKSq6
import Derived.Test.YtoikjfpefikmpaaDoorKSp
set_option linter.all false
open List renaming take_of_length_le→zV
namespace Go.Ev
attribute [local irreducible] P0
theorem compare_ok(x y:Nat):P0 f_cmp_Compare_uint64 [.v (.int .u64 (x:Int)),.v (.int .u64 (y:Int))] []=some (.int .i64 (cmpN x y),[]):=by
 rw[eq_cmp_Compare_uint64];unfold F_cmp_Compare_uint64
 have hn : ∀ z:Int,P0 f_cmp_isNaN_uint64 [.v (.int .u64 z)] []=some (.bool false,[]):=fun z=>by
  rw[eq_cmp_isNaN_uint64];unfold F_cmp_isNaN_uint64
  apply yes;simp
 unfold cmpN
 by_cases c1:x<y
 ·have c1':(x:Int)<(y:Int):=by omega
  apply yes;simp[hn,c1,c1']
 ·have c1' : ¬ (x:Int)<(y:Int):=by omega
  by_cases c2:y<x
  ·have c2':(y:Int)<(x:Int):=by omega
   apply yes;simp[hn,c1,c1',c2,c2']
  ·have c2' : ¬ (y:Int)<(x:Int):=by omega
   apply yes;simp[hn,c1,c1',c2,c2']
theorem ncmp_loop(a b:List Nat)(ha:U32 a)(hb:U32 b)(n:Nat)(hn:n≤1000000) :
  ∃ j xs,loopL (L_nat_Cmp_1 (.sl (limbs a)) (.sl (limbs b))) (vec [.int .i64 ((n:Int) - 1)])=some (j,xs)∧(if j=0 then V.int .i64 0 else xs 0) = .int .i64 (cmpT a b n):=by
 induction n with
 | zero=>
  refine⟨0,vec [],?_,rfl⟩
  apply loopL_inr
  unfold L_nat_Cmp_1
  apply yes;simp
 | succ n ih=>
  obtain⟨j,xs,h1,h2⟩:=ih (by omega)
  have e1:((n+1:Nat):Int) - 1=n:=by omega
  have e2:(0:Int)≤n:=by omega
  rw[e1]
  have l1:=nat_ok a n ha
  have l2:=nat_ok b n hb
  have hc:=compare_ok (lat a n) (lat b n)
  have w:=w64 (a:=(n:Int) - 1) (by omega)
  simp only[cmpT]
  by_cases c1:lat a n<lat b n
  ·have e3:cmpN (lat a n) (lat b n) = -1:=by unfold cmpN;rw[if_pos c1]
   rw[e3]at hc
   refine⟨1,vec [.int .i64 (-1)],?_,by simp[c1]⟩
   apply loopL_inr
   unfold L_nat_Cmp_1
   apply yes;simp[l1,l2,e2,hc]
  by_cases c2:lat b n<lat a n
  ·have e3:cmpN (lat a n) (lat b n)=1:=by unfold cmpN;rw[if_neg c1,if_pos c2]
   rw[e3]at hc
   refine⟨1,vec [.int .i64 1],?_,by simp[c1,c2]⟩
   apply loopL_inr
   unfold L_nat_Cmp_1
   apply yes;simp[l1,l2,e2,hc]
  ·have e3:cmpN (lat a n) (lat b n)=0:=by unfold cmpN;rw[if_neg c1,if_neg c2]
   rw[e3]at hc
   refine⟨j,xs,?_,by rw[h2,if_neg c1,if_neg c2]⟩
   rw[← h1]
   apply loopL_inl
   unfold L_nat_Cmp_1
   apply yes;simp[l1,l2,e2,hc,w]
theorem ncmp_ok(a b:List Nat)(hla:a.length≤1000000)(hlb:b.length≤1000000)(ha:U32 a)(hb:U32 b) :
  P0 f_nat_Cmp [.v (.sl (limbs a)),.v (.sl (limbs b))] []=some (.int .i64 (cmpN (nval a) (nval b)),[]):=by
 rw[eq_nat_Cmp];unfold F_nat_Cmp
 obtain⟨j,xs,h1,h2⟩:=ncmp_loop a b ha hb (max a.length b.length) (by omega)
 have e:maxV (.int .i64 (a.length:Int)) [.int .i64 (b.length:Int)]=some (.int .i64 ((max a.length b.length:Nat):Int)):=by
  simp only[maxV,if_pos];congr 2;split<;>omega
 have w:=w64 (a:=((max a.length b.length:Nat):Int) - 1) (by omega)
 rw[cmpT_eq a b ha hb,zV (by omega),zV (by omega)]at h2
 simp only[lenV_sl,some_bind,limbs_len,e,sub_i,w,h1]
 rw[← h2]
 by_cases hj:j=0<;>simp[hj]
end Go.Ev
