/- Numbers, part 3: small ones, numbers by a number, sameness. -/
import Derived.Test.YtdhfnobijejpcaaDoorKSq2
set_option linter.all false
namespace Go.Ev
attribute [local irreducible] P0
def cmpL(a b:List Nat):Nat→Int
 | 0=>0
 | n+1=>if a[n]?.getD 0<b[n]?.getD 0 then -1 else if b[n]?.getD 0<a[n]?.getD 0 then 1 else cmpL a b n
theorem cmp_loop(a b:List Nat)(ha:a.length≤1000000)(hb:b.length≤1000000)(hua:U32 a)(hub:U32 b)(n:Nat)(hn:n≤1000000) :
  ∃ j xs,loopL (L_ref01_Cmp_1 (.sl (limbs a)) (.sl (limbs b))) (vec [.int .i64 ((n:Int) - 1)])=some (j,xs)∧(if j=0 then V.int .i64 0 else xs 0) = .int .i64 (cmpL a b n):=by
 induction n with
 | zero=>
  refine⟨0,vec [],?_,rfl⟩
  apply loopL_inr
  unfold L_ref01_Cmp_1
  apply yes;simp
 | succ n ih=>
  obtain⟨j,xs,h1,h2⟩:=ih (by omega)
  have e1:((n+1:Nat):Int) - 1=n:=by omega
  have e2:(0:Int)≤n:=by omega
  rw[e1]
  have l1:=limb_ok a n ha hua
  have l2:=limb_ok b n hb hub
  have w:=w64 (a:=(n:Int) - 1) (by omega)
  simp only[cmpL]
  by_cases c1:a[n]?.getD 0<b[n]?.getD 0
  ·refine⟨1,vec [.int .i64 (-1)],?_,by simp[c1]⟩
   apply loopL_inr
   unfold L_ref01_Cmp_1
   apply yes;simp[l1,l2,e2,c1]
  by_cases c2:b[n]?.getD 0<a[n]?.getD 0
  ·refine⟨1,vec [.int .i64 1],?_,by simp[c1,c2]⟩
   apply loopL_inr
   unfold L_ref01_Cmp_1
   apply yes;simp[l1,l2,e2,c1,c2]
  ·refine⟨j,xs,?_,by rw[h2,if_neg c1,if_neg c2]⟩
   rw[← h1]
   apply loopL_inl
   unfold L_ref01_Cmp_1
   apply yes;simp[l1,l2,e2,c1,c2,w]
theorem cmp_ok(a b:List Nat)(ha:a.length≤1000000)(hb:b.length≤1000000)(hua:U32 a)(hub:U32 b) :
  P0 f_ref01_Cmp [.v (.sl (limbs a)),.v (.sl (limbs b))] []=some (.int .i64 (cmpL a b (max a.length b.length)),[]):=by
 rw[eq_ref01_Cmp];unfold F_ref01_Cmp
 obtain⟨j,xs,h1,h2⟩:=cmp_loop a b ha hb hua hub (max a.length b.length) (by omega)
 have e:maxV (.int .i64 (a.length:Int)) [.int .i64 (b.length:Int)]=some (.int .i64 ((max a.length b.length:Nat):Int)):=by
  simp only[maxV,if_pos];congr 2;split<;>omega
 have w:=w64 (a:=((max a.length b.length:Nat):Int) - 1) (by omega)
 simp only[lenV_sl,some_bind,limbs_len,e,sub_i,w,h1]
 rw[← h2]
 by_cases hj:j=0<;>simp[hj]
theorem cmpL_zero(a b:List Nat)(n:Nat):cmpL a b n=0 ↔ ∀ i,i<n→a[i]?.getD 0=b[i]?.getD 0:=by
 induction n with
 | zero=>simp[cmpL]
 | succ n ih=>
  simp only[cmpL]
  by_cases c1:a[n]?.getD 0<b[n]?.getD 0
  ·rw[if_pos c1]
   constructor
   ·intro h;exact absurd h (by decide)
   ·intro h;have:=h n (by omega);omega
  by_cases c2:b[n]?.getD 0<a[n]?.getD 0
  ·rw[if_neg c1,if_pos c2]
   constructor
   ·intro h;exact absurd h (by decide)
   ·intro h;have:=h n (by omega);omega
  ·rw[if_neg c1,if_neg c2,ih]
   constructor
   ·intro h i hi
    rcases Nat.lt_or_ge i n with h' | h'
    ·exact h i h'
    ·have:i=n:=by omega
     subst this;omega
   ·intro h i hi;exact h i (by omega)
instance:DecidableEq Nm:=fun a b=>by
 cases a;cases b
 simp only[Nm.mk.injEq]
 infer_instance
theorem nm_u32{n:Nm}(h:n.ok):U32 n.m∧Nrm n.m∧n.m.length≤90:=by
 rcases h with⟨h1,_⟩ | ⟨_,h2,h3,h4,_⟩
 ·rw[h1];exact⟨fun x hx=>by simp at hx,by simp[Nrm],by simp⟩
 ·exact⟨h2,h4,h3⟩
end Go.Ev
