/- Naturals: sums. -/
import Derived.Test.YtoikjfpefikmpaaDoorKSq12
import Derived.Test.YtoikjfpefikmpaaDoorKSq13
set_option linter.all false
open Bool renaming false_eq_true→zF
open Nat renaming lt_of_lt_of_le→zK
open List renaming take_of_length_le→zV
namespace Go.Ev
attribute [local irreducible] P0
theorem add_limb(x y c:Nat)(hx:x<B32)(hy:y<B32)(hc:c≤1) :
  ∃ d c':Nat,d<B32∧c'≤1∧c+(x+y)=d+B32 * c'∧IntKind.u64.wrap ((x:Int)+y)=((x+y:Nat):Int)∧IntKind.u64.wrap ((c:Int)+((x+y:Nat):Int))=((c+(x+y):Nat):Int)∧IntKind.u32.wrap ((c+(x+y):Nat):Int)=(d:Int)∧(c+(x+y)) / 2 ^ 32=c':=by
 have hB:B32=4294967296:=rfl
 rw[hB]at hx hy ⊢
 refine⟨(c+(x+y)) % 4294967296,(c+(x+y)) / 4294967296,Nat.mod_lt _ (by decide),by omega,by omega,wu64 (by omega),wu64 (by omega),?_,by omega⟩
 rw[IntKind.wrap_u32];omega
theorem nadd_loop(a b:List Nat)(n:Nat)(ha:U32 a)(hb:U32 b)(hn:n≤1000001)(k:Nat) : ∀ (i c:Nat) (o:List Nat),i+k=n→c≤1→o.length=i→U32 o→nval o+B32 ^ i * c=nval (a.take i)+nval (b.take i) →
  ∃ (o':List Nat) (c':Nat),loopL (L_nat_Add_1 (.int .i64 (n:Int)) (.sl (limbs a)) (.sl (limbs b))) (vec [.sl (limbs o),.int .u64 (c:Int),.int .i64 (i:Int)])=some (0,vec [.sl (limbs o')])∧U32 o'∧o'.length=n∧nval o'+B32 ^ n * c'=nval (a.take n)+nval (b.take n):=by
 induction k with
 | zero=>
  intro i c o hi hc ho hu hv
  have e:i=n:=by omega
  subst e
  refine⟨o,c,?_,hu,ho,hv⟩
  apply loopL_inr
  unfold L_nat_Add_1
  apply yes;simp
 | succ k ih=>
  intro i c o hi hc ho hu hv
  obtain⟨d,c',h1,h2,h3,h4,h5,h6,h7⟩:=add_limb (lat a i) (lat b i) c (lat_lt ha i) (lat_lt hb i) hc
  obtain⟨o',c'',g1,g2⟩:=ih (i+1) c' (o++[d]) (by omega) h2 (by simp[ho]) (by
   intro x hx;rcases List.mem_append.1 hx with h | h
   ·exact hu x h
   ·simp at h;rw[h];exact h1) (by
   rw[nval_take_succ,nval_take_succ,nval_append,ho,Nat.pow_succ]
   simp only[nval,Nat.mul_zero,Nat.add_zero]
   have h8:=congrArg (B32 ^ i * ·) h3
   simp only[Nat.mul_add]at h8
   rw[Nat.mul_assoc]
   omega)
  refine⟨o',c'',?_,g2⟩
  rw[← g1]
  apply loopL_inl
  unfold L_nat_Add_1
  have c1:(i:Int)<(n:Int):=by omega
  have l1:=nat_ok a i ha
  have l2:=nat_ok b i hb
  have w:=w64 (a:=(i:Int)+1) (by omega)
  have hs:=shr_u64 (c+(lat a i+lat b i)) .u64 32 (by decide)
  have happ:appOk 4 o.length 1=true:=app_ok _ _ _ (by omega) (by omega)
  have e1:((i+1:Nat):Int)=(i:Int)+1:=by omega
  rw[h7,show((32:Nat):Int)=32 from rfl]at hs
  have hsz:szOk 1 [V.int .u32 (d:Int)]=true:=rfl
  have hap:limbs o++[V.int .u32 (d:Int)]=limbs (o++[d]):=limbs_app o [d]
  simp only[tick_eq,vec_0,vec_s,lss_i,c1,decide_true,some_bind,asBool_b,if_true,l1,l2,add_i,h4,h5,cvi_i,h6,okN_int,tst_t,hsz,fld_int,elems_sl,hs,w,limbs_len,List.length_cons,List.length_nil,Nat.zero_add,happ,e1,hap]
theorem no_carry'{P Q x y o c:Nat}(hQ:2≤Q)(h1:x<P)(h2:y<P)(h:o+P * Q * c=x+y):o=x+y:=by
 cases c with
 | zero=>rw[Nat.mul_zero,Nat.add_zero]at h;exact h
 | succ c=>
  exfalso
  have h7:P * Q * 1≤P * Q * (c+1):=Nat.mul_le_mul_left _ (Nat.succ_le_succ (Nat.zero_le c))
  have h8:P * 2≤P * Q:=Nat.mul_le_mul_left _ hQ
  rw[Nat.mul_one]at h7
  omega
theorem two_B32:2≤B32:=by unfold B32;omega
theorem no_carry{P x y o c:Nat}(h1:x<P)(h2:y<P)(h:o+P * B32 * c=x+y):o=x+y:=no_carry' two_B32 h1 h2 h
theorem nadd_ok(a b:List Nat)(hla:a.length≤900000)(hlb:b.length≤900000)(ha:U32 a)(hb:U32 b) :
  P0 f_nat_Add [.v (.sl (limbs a)),.v (.sl (limbs b))] []=some (.sl (limbs (toL (nval a+nval b))),[]):=by
 rw[eq_nat_Add];unfold F_nat_Add
 obtain⟨o',c',h1,h2,h3,h4⟩:=nadd_loop a b (max a.length b.length+1) ha hb (by omega) (max a.length b.length+1) 0 0 [] (by omega) (by decide) rfl (fun x hx=>by simp at hx) (by simp[nval])
 rw[zV (by omega),zV (by omega)]at h4
 have g3:B32 ^ a.length≤B32 ^ (max a.length b.length):=Nat.pow_le_pow_right (by decide) (by omega)
 have g4:B32 ^ b.length≤B32 ^ (max a.length b.length):=Nat.pow_le_pow_right (by decide) (by omega)
 rw[Nat.pow_succ]at h4
 have hc':nval o'=nval a+nval b:=no_carry (zK (nval_lt' a ha) g3) (zK (nval_lt' b hb) g4) h4
 have em:maxV (.int .i64 (a.length:Int)) [.int .i64 (b.length:Int)]=some (.int .i64 ((max a.length b.length:Nat):Int)):=by
  simp only[maxV,if_pos];congr 2;split<;>omega
 have hn:=nnorm_ok o' (by omega) h2
 rw[hc']at hn
 have w:=w64 (a:=((max a.length b.length:Nat):Int)+1) (by omega)
 have e1:((max a.length b.length+1:Nat):Int)=((max a.length b.length:Nat):Int)+1:=by omega
 rw[show limbs []=[]from rfl,show((0:Nat):Int)=0 from rfl,e1]at h1
 simp only[tick_eq,lenV_sl,limbs_len,some_bind,em,add_i,w,h1,vec_0,elems_sl,hn]
theorem ndiv_zero(a b:List Nat)(hb:U32 b)(hlb:b.length≤10000)(h0:nval b=0) :
  P0 f_nat_Div [.v (.sl (limbs a)),.v (.sl (limbs b))] []=some (.tup [.sl [],.sl []],[]):=by
 rw[eq_nat_Div];unfold F_nat_Div
 have hnm:=nnorm_ok b (by omega) hb
 rw[h0,toL_zero]at hnm
 simp only[tick_eq,hnm,some_bind,lenV_sl,limbs_len,List.length_nil]
 rfl
theorem few_ok'(a b:List Nat):P0 f_law01_few [.v (.sl (limbs a)),.v (.sl (limbs b))] []=some (.bool (decide (a.length≤25∧b.length≤25)),[]):=by
 rw[eq_law01_few];unfold F_law01_few
 by_cases h1:a.length≤25
 ·have c1:((a.length:Nat):Int)≤25:=by omega
  by_cases h2:b.length≤25
  ·have c2:((b.length:Nat):Int)≤25:=by omega
   simp only[tick_eq,lenV_sl,limbs_len,some_bind,c1,c2,decide_true,if_true,h1,h2,and_self]
  ·have c2 : ¬ ((b.length:Nat):Int)≤25:=by omega
   simp only[tick_eq,lenV_sl,limbs_len,some_bind,c1,c2,decide_true,decide_false,if_true,h1,h2,and_false]
 ·have c1 : ¬ ((a.length:Nat):Int)≤25:=by omega
  simp only[tick_eq,lenV_sl,limbs_len,some_bind,c1,decide_false,zF,if_false,h1,false_and]
end Go.Ev
