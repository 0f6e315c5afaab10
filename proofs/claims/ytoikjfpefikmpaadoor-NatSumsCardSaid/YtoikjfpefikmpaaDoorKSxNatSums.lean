/- The law: sums, products, powers. -/
import Derived.Test.YtoikjfpefikmpaaDoorKSn3
import Derived.Test.YtoikjfpefikmpaaDoorRows
set_option linter.all false
open Bool renaming false_eq_true→zF,not_true→zH,not_false→zI,true_eq_false→zX
namespace Go.Ev
attribute [local irreducible] P0
theorem sums_ok(a b c:List Nat)(base:Nat)(n:Int)(ha:U32 a)(hb:U32 b)(hc:U32 c)(hbase:base<B32)(hn : -9223372036854775808≤n∧n≤9223372036854775807) :
  P0 f_law01_NatSums [.v (.sl (limbs a)),.v (.sl (limbs b)),.v (.sl (limbs c)),.v (.int .u32 (base:Int)),.v (.int .i64 n)] []=some (.bool true,[]):=by
 rw[eq_law01_NatSums];unfold F_law01_NatSums
 by_cases hf:a.length≤25∧b.length≤25
 ·by_cases hcl:((c.length:Nat):Int) > 25
  ·simp only[tick_eq,few_ok',hf,and_self,decide_true,some_bind,not_b,zH,asBool_b,if_true,lenV_sl,limbs_len,hcl,awake01]
  ·obtain⟨k,hk,hpl⟩:=placeK n 30 (by decide) (by decide) hn
   rw[show((30:Nat):Int)=30 from rfl]at hpl
   have hcl':c.length≤25:=by omega
   have va:=nval_lt' a ha
   have vb:=nval_lt' b hb
   have vc:=nval_lt' c hc
   have vs:=add_lt va vb
   have vcs:=mul_lt vc vs
   have vca:=mul_lt vc va
   have vbc:=mul_lt vb vc
   have vsum:=add_lt vca vbc
   have vp:=pow_lt hbase k
   have vp1:=pow_lt hbase (k+1)
   have vpm:=mul_lt vp (show base<B32 ^ 1 by rw[Nat.pow_one];exact hbase)
   have l1:=len_of' (m:=1000) vs (by omega)
   have l2:=len_of' (m:=1000) vcs (by omega)
   have l3:=len_of' (m:=1000) vca (by omega)
   have l4:=len_of' (m:=1000) vbc (by omega)
   have l5:=len_of' (m:=1000) vsum (by omega)
   have l6:=len_of' (m:=1000) vp (by omega)
   have l7:=len_of' (m:=1000) vp1 (by omega)
   have l8:=len_of' (m:=1000) vpm (by omega)
   have l9:(toL (nval a+nval b - nval b)).length≤1000:=by rw[Nat.add_sub_cancel];exact len_of' va (by omega)
   have h1:=nadd_ok a b (by omega) (by omega) ha hb
   have h2:=nsub_ok (toL (nval a+nval b)) b (by omega) (by omega) (u32_of _) hb
   have h3:=ncmp_ok (toL (nval (toL (nval a+nval b)) - nval b)) a (by rw[nval_toL];omega) (by omega) (u32_of _) ha
   rw[nval_toL,nval_toL,Nat.add_sub_cancel,cmpN_self]at h3
   rw[nval_toL,Nat.add_sub_cancel]at h2
   have h4:=nmul_ok c (toL (nval a+nval b)) hc (u32_of _) (by omega)
   have h5:=nmul_ok c a hc ha (by omega)
   have h6:=nmul_ok b c hb hc (by omega)
   have h7:=nadd_ok (toL (nval c * nval a)) (toL (nval b * nval c)) (by omega) (by omega) (u32_of _) (u32_of _)
   have h8:=ncmp_ok (toL (nval c * nval (toL (nval a+nval b)))) (toL (nval (toL (nval c * nval a))+nval (toL (nval b * nval c)))) (by rw[nval_toL];omega) (by rw[nval_toL,nval_toL];omega) (u32_of _) (u32_of _)
   have e8:nval c * (nval a+nval b)=nval c * nval a+nval b * nval c:=by rw[Nat.mul_add,Nat.mul_comm (nval b)]
   simp only[nval_toL]at h2 h4 h7 h8
   rw[e8,cmpN_self]at h8
   rw[e8]at h4
   have h9:=npow_ok base (k+1) hbase (by omega)
   have h10:=npow_ok base k hbase (by omega)
   have h11:=nmul_ok (toL (base ^ k)) [base] (u32_of _) (u32_one hbase) (by simp;omega)
   rw[nval_toL,nval_one]at h11
   have h12:=ncmp_ok (toL (base ^ (k+1))) (toL (base ^ k * base)) (by omega) (by omega) (u32_of _) (u32_of _)
   rw[nval_toL,nval_toL,← Nat.pow_succ,cmpN_self]at h12
   rw[← Nat.pow_succ]at h11
   have h13:=npow_neg base (-1) hbase (by decide)
   have h14:=ncmp_ok (toL 1) [1] (by decide) (by decide) (u32_of _) (u32_one (by unfold B32;omega))
   rw[nval_toL,nval_one,cmpN_self]at h14
   have h14:P0 f_nat_Cmp [.v (.sl (limbs (toL 1))),.v (.sl [.int .u32 1])] []=some (.int .i64 0,[]):=h14
   have h11:P0 f_nat_Mul [.v (.sl (limbs (toL (base ^ k)))),.v (.sl [.int .u32 (base:Int)])] []=some (.sl (limbs (toL (base ^ (k+1)))),[]):=h11
   have w:IntKind.i64.wrap ((k:Int)+1)=((k+1:Nat):Int):=by rw[w64 (by omega)];omega
   simp only[tick_eq,few_ok',hf,and_self,decide_true,some_bind,not_b,zH,asBool_b,if_true,lenV_sl,limbs_len,hcl,decide_false,zF,if_false,h1,hpl,h2,h3,eql_i,h4,h5,h6,h7,h8,add_i,w,h9,h10,okN_int,tst_t,fld_int,h11,h12,h13,h14,awake01]
 ·simp only[tick_eq,few_ok',hf,decide_false,some_bind,not_b,zI,asBool_b,zX,if_false,if_true,awake01]
theorem pure_NatSums{n0 n1 n2 n3 n4:Nat}{xs ys zs us vs:List V}(hx:Ty Go.Proofs.Tryd.prog n0 22 xs)(hy:Ty Go.Proofs.Tryd.prog n1 22 ys)(hz:Ty Go.Proofs.Tryd.prog n2 22 zs)(hu:Ty Go.Proofs.Tryd.prog n3 32 us)(hv:Ty Go.Proofs.Tryd.prog n4 3 vs) :
  P0 f_law01_NatSums ([mkV Go.Proofs.Tryd.prog 22 xs,mkV Go.Proofs.Tryd.prog 22 ys,mkV Go.Proofs.Tryd.prog 22 zs,mkV Go.Proofs.Tryd.prog 32 us,mkV Go.Proofs.Tryd.prog 3 vs].map .v) []=some (.bool true,[]):=by
 obtain⟨a,ea,ha⟩:=ty_u32s Go.Proofs.Tryd.underlying22 Go.Proofs.Tryd.underlying32 hx
 obtain⟨b,eb,hb⟩:=ty_u32s Go.Proofs.Tryd.underlying22 Go.Proofs.Tryd.underlying32 hy
 obtain⟨c,ec,hc⟩:=ty_u32s Go.Proofs.Tryd.underlying22 Go.Proofs.Tryd.underlying32 hz
 obtain⟨d,ed,hd⟩:=ty_u32 Go.Proofs.Tryd.underlying32 hu
 obtain⟨n,hn,en⟩:=ty_int Go.Proofs.Tryd.underlying3 hv
 rw[ea,eb,ec,ed,en]
 exact sums_ok a b c d n ha hb hc hd (wf_i64 hn)
end Go.Ev
