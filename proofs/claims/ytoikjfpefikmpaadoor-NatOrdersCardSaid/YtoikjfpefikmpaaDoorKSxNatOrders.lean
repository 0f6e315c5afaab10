/- The law: an order. -/
import Derived.Test.YtoikjfpefikmpaaDoorKSn3
import Derived.Test.YtoikjfpefikmpaaDoorRows
set_option linter.all false
open Bool renaming false_eq_true→zF,not_true→zH,not_false→zI,true_eq_false→zX
open Nat renaming lt_of_lt_of_le→zK
open List renaming length_append→zZ
namespace Go.Ev
attribute [local irreducible] P0
theorem pcs_fuel(f:Nat) : ∀ g n,n<1000000000 ^ f→n<1000000000 ^ g→pcs f n=pcs g n:=by
 induction f with
 | zero=>
  intro g n h1 h2
  have h0:n=0:=by simpa using h1
  subst h0
  cases g with
  | zero=>rfl
  | succ g=>simp[pcs]
 | succ f ih=>
  intro g n h1 h2
  cases g with
  | zero=>
   have h0:n=0:=by simpa using h2
   subst h0;simp[pcs]
  | succ g=>
   simp only[pcs]
   by_cases h0:n=0
   ·rw[if_pos h0,if_pos h0]
   ·rw[if_neg h0,if_neg h0]
    rw[Nat.pow_succ,Nat.mul_comm]at h1 h2
    rw[ih g _ (Nat.div_lt_of_lt_mul h1) (Nat.div_lt_of_lt_mul h2)]
theorem lim9{l:List Nat}(hu:U32 l):nval l<1000000000 ^ (2 * l.length):=by
 refine zK (nval_lt' l hu) ?_
 rw[Nat.pow_mul]
 exact Nat.pow_le_pow_left (by unfold B32;omega) _
theorem cmpN_neg(x y:Nat):cmpN y x = - cmpN x y:=by unfold cmpN;repeat' split<;>omega
theorem cmpN_add(x y w:Nat):cmpN (x+w) (w+y)=cmpN x y:=by
 unfold cmpN
 by_cases h:x<y
 ·rw[if_pos h,if_pos (by omega)]
 ·rw[if_neg h,if_neg (by omega)]
  by_cases h2:y<x
  ·rw[if_pos h2,if_pos (by omega)]
  ·rw[if_neg h2,if_neg (by omega)]
theorem cmpN_rng(x y:Nat) : -1≤cmpN x y∧cmpN x y≤1:=by
 unfold cmpN
 by_cases h:x<y
 ·rw[if_pos h];omega
 ·rw[if_neg h]
  by_cases h2:y<x
  ·rw[if_pos h2];omega
  ·rw[if_neg h2];omega
theorem cmpN_pos{x y:Nat}(h : ¬ cmpN x y > 0):x - y=0:=by
 unfold cmpN at h
 by_cases h1:x<y
 ·omega
 ·rw[if_neg h1]at h
  by_cases h2:y<x
  ·rw[if_pos h2]at h;omega
  ·omega
theorem limbs_own'(l:List Nat)(hl:l.length≤1000000):P0 f_law00_Limbs [.g,.v (.sl (limbs l))] []=some (.sl (limbs l),[]):=by
 rw[eq_law00_Limbs];unfold F_law00_Limbs
 have ha:appOk 4 0 l.length=true:=app_ok _ _ _ (by omega) (by omega)
 simp only[tick_eq,asEl_limbs,some_bind,List.length_nil,limbs_len,ha,tst_t,List.nil_append]
theorem u32_pad{l:List Nat}(h:U32 l)(m:Nat):U32 (l++List.replicate m 0):=by
 intro x hx
 rcases List.mem_append.1 hx with hx | hx
 ·exact h x hx
 ·exact u32_rep m x hx
theorem nval_pad(l:List Nat)(m:Nat):nval (l++List.replicate m 0)=nval l:=by rw[nval_append,nval_rep,Nat.mul_zero,Nat.add_zero]
theorem orders_ok(a b c:List Nat)(n:Int)(ha:U32 a)(hb:U32 b)(hc:U32 c)(hn : -9223372036854775808≤n∧n≤9223372036854775807) :
  P0 f_law01_NatOrders [.v (.sl (limbs a)),.v (.sl (limbs b)),.v (.sl (limbs c)),.v (.int .i64 n)] []=some (.bool true,[]):=by
 rw[eq_law01_NatOrders];unfold F_law01_NatOrders
 by_cases hf:a.length≤25∧b.length≤25
 ·by_cases hcl:((c.length:Nat):Int) > 25
  ·simp only[tick_eq,few_ok',hf,and_self,decide_true,some_bind,not_b,zH,asBool_b,if_true,lenV_sl,limbs_len,hcl,awake01]
  ·obtain⟨m,hm,hpl⟩:=placeK n 5 (by decide) (by decide) hn
   rw[show((5:Nat):Int)=5 from rfl]at hpl
   have hcl':c.length≤25:=by omega
   have va:=nval_lt' a ha
   have vb:=nval_lt' b hb
   have vc:=nval_lt' c hc
   have l1:=len_of' (m:=1000) (add_lt va vc) (by omega)
   have l2:=len_of' (m:=1000) (add_lt vc vb) (by omega)
   have l3:=len_of' (m:=1000) va (by omega)
   have h1:=ncmp_ok a b (by omega) (by omega) ha hb
   have h2:=ncmp_ok b a (by omega) (by omega) hb ha
   rw[cmpN_neg (nval a) (nval b)]at h2
   have hr:=cmpN_rng (nval a) (nval b)
   have w0:unV .neg (.int .i64 (cmpN (nval a) (nval b)))=some (.int .i64 (- cmpN (nval a) (nval b))):=by
    show some (V.int .i64 (IntKind.i64.wrap (0 - cmpN (nval a) (nval b))))=_
    rw[w64 (by omega),Int.zero_sub]
   have h3:=limbs_own' a (by omega)
   have hslv:slV (.sl (limbs a))=some (limbs a):=rfl
   have hapz:apzV 4 (.int .i64 (m:Int))=some m:=by
    show(if 0≤(m:Int)∧(m:Int)≤140737488355328∧(m:Int).toNat * 4≤140737488355328 then some (m:Int).toNat else none)=some m
    rw[if_pos ⟨by omega,by omega,by rw[Int.toNat_natCast];omega⟩,Int.toNat_natCast]
   have happ:appOk 4 a.length (List.replicate (α:=V) m (.int .u32 0)).length=true:=by rw[List.length_replicate];exact app_ok _ _ _ (by omega) (by omega)
   have hz:limbs a++List.replicate m (V.int .u32 0)=limbs (a++List.replicate m 0):=by simp[limbs]
   have uz:=u32_pad ha m
   have vz:=nval_pad a m
   have lz:(a++List.replicate m 0).length≤30:=by rw[zZ,List.length_replicate];omega
   have h4:=nadd_ok a c (by omega) (by omega) ha hc
   have h5:=nadd_ok c b (by omega) (by omega) hc hb
   have h6:=ncmp_ok (toL (nval a+nval c)) (toL (nval c+nval b)) (by omega) (by omega) (u32_of _) (u32_of _)
   rw[nval_toL,nval_toL,cmpN_add]at h6
   have h7:=ncmp_ok (a++List.replicate m 0) a (by omega) (by omega) uz ha
   rw[vz,cmpN_self]at h7
   have h8:=nnorm_ok (a++List.replicate m 0) (by omega) uz
   rw[vz]at h8
   have h9:=nnorm_ok a (by omega) ha
   have h10:=samelimbs_ok (toL (nval a)) (toL (nval a)) (by omega)
   rw[decide_eq_true rfl]at h10
   have h11:=nbits_ok (a++List.replicate m 0) uz (by omega)
   rw[vz]at h11
   have h12:=nbits_ok a ha (by omega)
   have h13:=ndigits_ok (a++List.replicate m 0) uz (by omega)
   have h14:=ndigits_ok a ha (by omega)
   have hd:digitsF (2 * (a++List.replicate m 0).length) (nval (a++List.replicate m 0))=digitsF (2 * a.length) (nval a):=by
    unfold digitsF
    rw[pcs_fuel _ (2 * a.length) _ (lim9 uz) (by rw[vz];exact lim9 ha),vz]
   rw[hd]at h13
   have h15:=nsub_ok a b (by omega) (by omega) ha hb
   by_cases hk:cmpN (nval a) (nval b) > 0
   ·simp only[tick_eq,few_ok',hf,and_self,decide_true,some_bind,not_b,zH,asBool_b,if_true,lenV_sl,limbs_len,hcl,decide_false,zF,if_false,h1,h3,hslv,hpl,hapz,happ,tst_t,h2,w0,eql_i,h4,h5,h6,hz,h7,h8,h9,h10,h11,h12,h13,h14,eql_s,beq_self_eq_true,gtr_i,hk,zX,awake01]
   ·rw[cmpN_pos hk,toL_zero]at h15
    have e0:lenV (.sl (limbs []))=some 0:=rfl
    have e1:(((0:Nat):Int) == 0)=true:=rfl
    simp only[tick_eq,few_ok',hf,and_self,decide_true,some_bind,not_b,zH,asBool_b,if_true,lenV_sl,limbs_len,hcl,decide_false,zF,if_false,h1,h3,hslv,hpl,hapz,happ,tst_t,h2,w0,eql_i,h4,h5,h6,hz,h7,h8,h9,h10,h11,h12,h13,h14,eql_s,beq_self_eq_true,gtr_i,hk,h15,e0,e1,List.length_nil,awake01]
 ·simp only[tick_eq,few_ok',hf,decide_false,some_bind,not_b,zI,asBool_b,zX,if_false,if_true,awake01]
theorem pure_NatOrders{n0 n1 n2 n4:Nat}{xs ys zs vs:List V}(hx:Ty Go.Proofs.Tryd.prog n0 22 xs)(hy:Ty Go.Proofs.Tryd.prog n1 22 ys)(hz:Ty Go.Proofs.Tryd.prog n2 22 zs)(hv:Ty Go.Proofs.Tryd.prog n4 3 vs) :
  P0 f_law01_NatOrders ([mkV Go.Proofs.Tryd.prog 22 xs,mkV Go.Proofs.Tryd.prog 22 ys,mkV Go.Proofs.Tryd.prog 22 zs,mkV Go.Proofs.Tryd.prog 3 vs].map .v) []=some (.bool true,[]):=by
 obtain⟨a,ea,ha⟩:=ty_u32s Go.Proofs.Tryd.underlying22 Go.Proofs.Tryd.underlying32 hx
 obtain⟨b,eb,hb⟩:=ty_u32s Go.Proofs.Tryd.underlying22 Go.Proofs.Tryd.underlying32 hy
 obtain⟨c,ec,hc⟩:=ty_u32s Go.Proofs.Tryd.underlying22 Go.Proofs.Tryd.underlying32 hz
 obtain⟨n,hn,en⟩:=ty_int Go.Proofs.Tryd.underlying3 hv
 rw[ea,eb,ec,en]
 exact orders_ok a b c n ha hb hc (wf_i64 hn)
end Go.Ev
