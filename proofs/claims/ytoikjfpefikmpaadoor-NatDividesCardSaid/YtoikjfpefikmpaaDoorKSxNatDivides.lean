/- The law: quotients. -/
import Derived.Test.YtoikjfpefikmpaaDoorKSn3
import Derived.Test.YtoikjfpefikmpaaDoorRows
set_option linter.all false
open Bool renaming false_eq_true→zF,not_true→zH,not_false→zI
open List renaming getElem?_cons_zero→zM,getElem?_cons_succ→zN
namespace Go.Ev
attribute [local irreducible] P0
theorem bl_zero_iff(n:Nat):bl n=0↔n=0:=by
 constructor
 ·intro h
  rcases Nat.eq_zero_or_pos n with h0 | h0
  ·exact h0
  ·have:=bl_pos (n:=n) (by omega);omega
 ·rintro rfl;exact bl_zero
theorem divides_ok(a b:List Nat)(ha:U32 a)(hb:U32 b):P0 f_law01_NatDivides [.v (.sl (limbs a)),.v (.sl (limbs b))] []=some (.bool true,[]):=by
 rw[eq_law01_NatDivides];unfold F_law01_NatDivides
 by_cases hf:a.length≤25∧b.length≤25
 ·have va:=nval_lt' a ha
  have vb:=nval_lt' b hb
  have hbits:=nbits_ok b hb (by omega)
  by_cases h0:nval b=0
  ·have h1:=ndiv_zero a b hb (by omega) h0
   rw[h0,bl_zero,show((0:Nat):Int)=0 from rfl]at hbits
   have e0:lenV (.sl [])=some 0:=rfl
   have e1:(((0:Nat):Int) == 0)=true:=rfl
   simp only[tick_eq,few_ok',hf,and_self,decide_true,some_bind,not_b,zH,asBool_b,zF,if_false,h1,ext_tup,zM,zN,hbits,eql_i,if_true,e0,e1,awake01]
  ·have h1:=ndiv_ok a b ha hb (by omega) (by omega) h0
   have hbl : ¬ ((bl (nval b):Nat):Int)=0:=fun h=>h0 ((bl_zero_iff _).1 (by omega))
   have hm:nval a % nval b<nval b:=Nat.mod_lt _ (by omega)
   have vq:nval a / nval b<B32 ^ a.length:=Nat.lt_of_le_of_lt (Nat.div_le_self _ _) va
   have vr:nval a % nval b<B32 ^ b.length:=Nat.lt_trans hm vb
   have l1:=len_of' (m:=1000) vq (by omega)
   have l2:=len_of' (m:=1000) vr (by omega)
   have vm:=mul_lt vq vb
   have l3:=len_of' (m:=1000) vm (by omega)
   have h2:=nmul_ok (toL (nval a / nval b)) b (u32_of _) hb (by omega)
   rw[nval_toL]at h2
   have h3:=nadd_ok (toL (nval a / nval b * nval b)) (toL (nval a % nval b)) (by omega) (by omega) (u32_of _) (u32_of _)
   have e1:nval a / nval b * nval b+nval a % nval b=nval a:=by rw[Nat.mul_comm];exact Nat.div_add_mod _ _
   rw[nval_toL,nval_toL,e1]at h3
   have l4:=len_of' (m:=1000) va (by omega)
   have h4:=ncmp_ok (toL (nval a)) a (by omega) (by omega) (u32_of _) ha
   rw[nval_toL,cmpN_self]at h4
   have h5:=ncmp_ok (toL (nval a % nval b)) b (by omega) (by omega) (u32_of _) hb
   rw[nval_toL,cmpN_lt hm]at h5
   have c1:(-1:Int)<0:=by decide
   simp only[tick_eq,few_ok',hf,and_self,decide_true,some_bind,not_b,zH,asBool_b,zF,if_false,h1,ext_tup,zM,zN,hbits,eql_i,hbl,decide_false,h2,h3,h4,if_true,h5,lss_i,c1,awake01]
 ·simp only[tick_eq,few_ok',hf,decide_false,some_bind,not_b,zI,asBool_b,if_true,awake01]
theorem pure_NatDivides{n0 n1:Nat}{xs ys:List V}(hx:Ty Go.Proofs.Tryd.prog n0 22 xs)(hy:Ty Go.Proofs.Tryd.prog n1 22 ys) :
  P0 f_law01_NatDivides ([mkV Go.Proofs.Tryd.prog 22 xs,mkV Go.Proofs.Tryd.prog 22 ys].map .v) []=some (.bool true,[]):=by
 obtain⟨a,ea,ha⟩:=ty_u32s Go.Proofs.Tryd.underlying22 Go.Proofs.Tryd.underlying32 hx
 obtain⟨b,eb,hb⟩:=ty_u32s Go.Proofs.Tryd.underlying22 Go.Proofs.Tryd.underlying32 hy
 rw[ea,eb]
 exact divides_ok a b ha hb
end Go.Ev
