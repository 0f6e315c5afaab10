/- Floats: the signs' law. -/
import Derived.Test.YtoikjfpefikmpaaDoorKSq8
import Derived.Test.YtoikjfpefikmpaaDoorKSr1
set_option linter.all false
open Bool renaming false_eq_true→zF,not_true→zH,not_false→zI
open List renaming getElem?_eq_getElem→zL,drop_eq_getElem_cons→zO,drop_eq_nil_of_le→zQ,drop_zero→zU
namespace Go.Ev
attribute [local irreducible] P0
theorem same_loop(a b:List Nat)(hl:a.length=b.length)(hl2:a.length≤1000000)(k:Nat) : ∀ i,i+k=a.length →
  ∃ j xs,loopL (L_law00_SameLimbs_1 (.sl (limbs a)) (.sl (limbs b))) (vec [.int .i64 (i:Int)])=some (j,xs)∧(if j=0 then V.bool true else xs 0) = .bool (decide (a.drop i=b.drop i)):=by
 induction k with
 | zero=>
  intro i hi
  refine⟨0,vec [],?_,?_⟩
  ·apply loopL_inr
   unfold L_law00_SameLimbs_1
   have : ¬ i<a.length:=by omega
   apply yes;simp[this]
  ·simp[zQ (show a.length≤i by omega),zQ (show b.length≤i by omega)]
 | succ k ih=>
  intro i hi
  have h1:i<a.length:=by omega
  have h2:i<b.length:=by omega
  have c1:(i:Int)<(a.length:Int):=by omega
  have ex:(limbs a)[i]?=some (.int .u32 (a[i]:Int)):=by rw[limbs_get,zL h1];rfl
  have ey:(limbs b)[i]?=some (.int .u32 (b[i]:Int)):=by rw[limbs_get,zL h2];rfl
  rw[zO h1,zO h2]
  by_cases hxy:a[i]=b[i]
  ·obtain⟨j,xs,g1,g2⟩:=ih (i+1) (by omega)
   refine⟨j,xs,?_,by rw[g2];congr 1;simp only[hxy,List.cons.injEq,true_and]⟩
   rw[← g1]
   apply loopL_inl
   unfold L_law00_SameLimbs_1
   have w:=w64 (a:=(i:Int)+1) (by omega)
   have e1:((i+1:Nat):Int)=(i:Int)+1:=by omega
   have c2:((a[i]:Nat):Int)=((b[i]:Nat):Int):=by omega
   simp only[vec_0,lenV_sl,some_bind,limbs_len,lss_i,c1,decide_true,asBool_b,if_true,asSl_limbs,idx_nat _ i a.length h1,idx_nat _ i b.length h2,ex,ey,fld_int,neq_i,c2,zH,zF,if_false,add_i,w,e1]
  ·refine⟨1,vec [.bool false],?_,by simp only[hxy,List.cons.injEq,false_and,decide_false];rfl⟩
   apply loopL_inr
   unfold L_law00_SameLimbs_1
   have c2 : ¬ ((a[i]:Nat):Int)=((b[i]:Nat):Int):=by omega
   simp only[vec_0,lenV_sl,some_bind,limbs_len,lss_i,c1,decide_true,asBool_b,if_true,asSl_limbs,idx_nat _ i a.length h1,idx_nat _ i b.length h2,ex,ey,fld_int,neq_i,c2,decide_false,zI]
theorem samelimbs_ok(a b:List Nat)(hl2:a.length≤1000000):P0 f_law00_SameLimbs [.v (.sl (limbs a)),.v (.sl (limbs b))] []=some (.bool (decide (a=b)),[]):=by
 rw[eq_law00_SameLimbs];unfold F_law00_SameLimbs
 by_cases hl:a.length=b.length
 ·obtain⟨j,xs,g1,g2⟩:=same_loop a b hl hl2 a.length 0 (by omega)
  simp only[zU]at g2
  rw[show((0:Nat):Int)=0 from rfl]at g1
  have c:(((a.length:Nat):Int) != ((b.length:Nat):Int))=false:=by rw[hl];simp
  simp only[lenV_sl,some_bind,limbs_len,c,zF,if_false,g1]
  rw[← g2]
  by_cases hj:j=0<;>simp[hj]
 ·have hne:a≠b:=fun h=>hl (by rw[h])
  have c:(((a.length:Nat):Int) != ((b.length:Nat):Int))=true:=by simp;omega
  simp only[lenV_sl,some_bind,limbs_len,c,if_true,hne,decide_false]
end Go.Ev
