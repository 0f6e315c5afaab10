/- The law: powers of two. -/
import Derived.Test.YtoikjfpefikmpaaDoorKSn3
import Derived.Test.YtoikjfpefikmpaaDoorRows
set_option linter.all false
open Bool renaming false_eq_true→zF,not_true→zH
open List renaming getElem?_cons_zero→zM,getElem?_cons_succ→zN
open Nat renaming le_refl→zR
namespace Go.Ev
attribute [local irreducible] P0
theorem bl_pow(a:Nat):bl (2 ^ a)=a+1:=by
 refine bl_eq (Nat.pow_lt_pow_right (by decide) (by omega)) (fun _=>by rw[Nat.add_sub_cancel];exact zR _) (fun h => ?_)
 exact absurd h (Nat.ne_of_gt (Nat.two_pow_pos a))
theorem bl_pow1(a:Nat):bl (2 ^ a - 1)=a:=by
 have hp:=Nat.two_pow_pos a
 refine bl_eq (by omega) (fun h => ?_) (fun h => ?_)
 ·cases a with
  | zero=>exact absurd rfl h
  | succ a=>rw[Nat.add_sub_cancel,Nat.pow_succ];have:=Nat.two_pow_pos a;omega
 ·cases a with
  | zero=>rfl
  | succ a=>rw[Nat.pow_succ]at h;have:=Nat.two_pow_pos a;omega
theorem powers_ok(p q:Int)(hp : -9223372036854775808≤p∧p≤9223372036854775807)(hq : -9223372036854775808≤q∧q≤9223372036854775807):P0 f_law01_NatPowers [.v (.int .i64 p),.v (.int .i64 q)] []=some (.bool true,[]):=by
 rw[eq_law01_NatPowers];unfold F_law01_NatPowers
 obtain⟨a,ha,h1⟩:=placeK p 300 (by decide) (by decide) hp
 obtain⟨b,hb,h2⟩:=placeK q 300 (by decide) (by decide) hq
 rw[show((300:Nat):Int)=300 from rfl]at h1 h2
 have h2B:2<B32:=by unfold B32;omega
 have pw:=fun n (hn:n≤1300)=>npow_ok 2 n h2B hn
 have ln : ∀ n,n≤700→(toL (2 ^ n)).length≤1000:=fun n hn=>len_of' (pow_lt h2B n) (by omega)
 have h3:P0 f_nat_Pow [.v (.int .u32 2),.v (.int .i64 (a:Int))] []=_:=pw a (by omega)
 have h4:P0 f_nat_Pow [.v (.int .u32 2),.v (.int .i64 (b:Int))] []=_:=pw b (by omega)
 have hpa:=Nat.two_pow_pos a
 have hpb:=Nat.two_pow_pos b
 have h5:=ndiv_ok (toL (2 ^ a)) (toL (2 ^ b)) (u32_of _) (u32_of _) (by have:=ln a (by omega);omega) (by have:=ln b (by omega);omega) (by rw[nval_toL];omega)
 rw[nval_toL,nval_toL]at h5
 have h6:=nbits_ok (toL (2 ^ a)) (u32_of _) (by have:=ln a (by omega);omega)
 rw[nval_toL,bl_pow]at h6
 have h7:=nmul_ok (toL (2 ^ a)) (toL (2 ^ b)) (u32_of _) (u32_of _) (by have:=ln a (by omega);have:=ln b (by omega);omega)
 rw[nval_toL,nval_toL,← Nat.pow_add]at h7
 have h8:P0 f_nat_Pow [.v (.int .u32 2),.v (.int .i64 ((a+b:Nat):Int))] []=_:=pw (a+b) (by omega)
 have h9:=ncmp_ok (toL (2 ^ (a+b))) (toL (2 ^ (a+b))) (by have:=ln (a+b) (by omega);omega) (by have:=ln (a+b) (by omega);omega) (u32_of _) (u32_of _)
 rw[cmpN_self]at h9
 have h10:=nsub_ok (toL (2 ^ a)) [1] (by have:=ln a (by omega);omega) (by simp) (u32_of _) (u32_one (by unfold B32;omega))
 rw[nval_toL,nval_one]at h10
 have h10:P0 f_nat_Sub [.v (.sl (limbs (toL (2 ^ a)))),.v (.sl [.int .u32 1])] []=some (.sl (limbs (toL (2 ^ a - 1))),[]):=h10
 have lm:(toL (2 ^ a - 1)).length≤1000:=len_of' (Nat.lt_of_le_of_lt (Nat.sub_le _ _) (pow_lt h2B a)) (by omega)
 have h11:=nbits_ok (toL (2 ^ a - 1)) (u32_of _) (by omega)
 rw[nval_toL,bl_pow1]at h11
 have w1:IntKind.i64.wrap ((a:Int)+1)=((a+1:Nat):Int):=by rw[w64 (by omega)];omega
 have w2:IntKind.i64.wrap ((a:Int)+(b:Int))=((a+b:Nat):Int):=by rw[w64 (by omega)];omega
 by_cases hab:a<b
 ·have c1:(a:Int)<(b:Int):=by omega
  have hlt:2 ^ a<2 ^ b:=Nat.pow_lt_pow_right (by decide) hab
  rw[Nat.div_eq_of_lt hlt,Nat.mod_eq_of_lt hlt,toL_zero]at h5
  have h12:=ncmp_ok (toL (2 ^ a)) (toL (2 ^ a)) (by have:=ln a (by omega);omega) (by have:=ln a (by omega);omega) (u32_of _) (u32_of _)
  rw[cmpN_self]at h12
  have e0:lenV (.sl (limbs []))=some 0:=rfl
  have e1:(((0:Nat):Int) == 0)=true:=rfl
  simp only[tick_eq,h1,h2,h3,h4,h5,some_bind,ext_tup,zM,zN,h6,add_i,w1,w2,neq_i,decide_true,zH,asBool_b,if_true,h7,h8,h9,h10,h11,zF,if_false,lss_i,c1,e0,e1,h12,eql_i,awake01]
 ·have c1 : ¬ (a:Int)<(b:Int):=by omega
  obtain⟨k,rfl⟩ : ∃ k,a=b+k:=⟨a - b,by omega⟩
  have w3:IntKind.i64.wrap (((b+k:Nat):Int) - (b:Int))=(k:Int):=by rw[w64 (by omega)];omega
  have e5:2 ^ (b+k) / 2 ^ b=2 ^ k:=by rw[Nat.pow_add];exact Nat.mul_div_cancel_left _ hpb
  have e6:2 ^ (b+k) % 2 ^ b=0:=by rw[Nat.pow_add];exact Nat.mul_mod_right _ _
  rw[e5,e6,toL_zero]at h5
  have h12:P0 f_nat_Pow [.v (.int .u32 2),.v (.int .i64 (k:Int))] []=_:=pw k (by omega)
  have h13:=ncmp_ok (toL (2 ^ k)) (toL (2 ^ k)) (by have:=ln k (by omega);omega) (by have:=ln k (by omega);omega) (u32_of _) (u32_of _)
  rw[cmpN_self]at h13
  have e0:lenV (.sl (limbs []))=some 0:=rfl
  have e1:(((0:Nat):Int) == 0)=true:=rfl
  simp only[tick_eq,h1,h2,h3,h4,h5,some_bind,ext_tup,zM,zN,h6,add_i,w1,w2,neq_i,decide_true,zH,asBool_b,if_true,h7,h8,h9,h10,h11,zF,if_false,lss_i,c1,decide_false,sub_i,w3,h12,h13,eql_i,e0,e1,awake01]
theorem pure_NatPowers{n0 n1:Nat}{xs ys:List V}(hx:Ty Go.Proofs.Tryd.prog n0 3 xs)(hy:Ty Go.Proofs.Tryd.prog n1 3 ys) :
  P0 f_law01_NatPowers ([mkV Go.Proofs.Tryd.prog 3 xs,mkV Go.Proofs.Tryd.prog 3 ys].map .v) []=some (.bool true,[]):=by
 obtain⟨a,ha,ea⟩:=ty_int Go.Proofs.Tryd.underlying3 hx
 obtain⟨b,hb,eb⟩:=ty_int Go.Proofs.Tryd.underlying3 hy
 rw[ea,eb]
 exact powers_ok a b (wf_i64 ha) (wf_i64 hb)
end Go.Ev
