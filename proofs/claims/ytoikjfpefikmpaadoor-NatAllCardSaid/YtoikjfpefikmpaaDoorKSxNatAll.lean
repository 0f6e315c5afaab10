/- The law: naturals and the document's answer. -/
import Derived.Test.YtoikjfpefikmpaaDoorKSn7
import Derived.Test.YtoikjfpefikmpaaDoorRows
set_option linter.all false
open Bool renaming false_eq_true→zF,and_eq_true→zG,not_true→zH,true_eq_false→zX
open Nat renaming lt_of_lt_of_le→zK,le_refl→zR
open List renaming getElem?_cons_zero→zM,getElem?_cons_succ→zN
namespace Go.Ev
attribute [local irreducible] P0
theorem ty_text{P:Program}{n:Nat}{t:TypeId}{xs:List V}(hu:P.underlying t=some .string)(h:Ty P n t xs) : ∃ s:Str,mkV P t xs = .str s:=by
 cases n with
 | zero=>exact h.elim
 | succ n=>
  unfold Ty at h
  rw[hu]at h
  obtain⟨s,hs,rfl⟩:=h
  refine⟨s,?_⟩
  unfold mkV isAggT
  rw[hu];rfl
theorem same_self(l:List Nat)(hl:l.length≤1000000):P0 f_law00_SameLimbs [.v (.sl (limbs l)),.v (.sl (limbs l))] []=some (.bool true,[]):=by
 have h:=samelimbs_ok l l hl
 rw[decide_eq_true rfl]at h
 exact h
theorem own_limbs(l:List Nat)(hl:l.length≤1000000):P0 f_law00_Limbs [.g,.v (.sl (limbs l))] []=some (.sl (limbs l),[]):=by
 rw[eq_law00_Limbs];unfold F_law00_Limbs
 have ha:appOk 4 0 l.length=true:=app_ok _ _ _ (by omega) (by omega)
 simp only[tick_eq,asEl_limbs,some_bind,List.length_nil,limbs_len,ha,tst_t,List.nil_append]
theorem both_div(a b:List Nat)(ha:U32 a)(hb:U32 b)(hla:a.length≤25)(hlb:b.length≤25) : ∃ q r:List Nat,q.length≤1000∧r.length≤1000 ∧
  P0 f_nat_Div [.v (.sl (limbs a)),.v (.sl (limbs b))] []=some (.tup [.sl (limbs q),.sl (limbs r)],[])∧P0 f_ref01_Div [.v (.sl (limbs a)),.v (.sl (limbs b))] []=some (.tup [.sl (limbs q),.sl (limbs r)],[]):=by
 by_cases h0:nval b=0
 ·exact⟨[],[],by simp,by simp,ndiv_zero a b hb (by omega) h0,rdiv_zero a b hb (by omega) h0⟩
 ·have l1:=len_of' (nval_lt' a ha) hla
  have l2:=len_of' (nval_lt' b hb) hlb
  refine⟨_,_,?_,?_,ndiv_ok a b ha hb (by omega) (by omega) h0,rdiv_ok a b ha hb (by omega) (by omega) h0⟩
  ·exact Nat.le_trans (len_of' (Nat.lt_of_le_of_lt (Nat.div_le_self _ _) (nval_lt' a ha)) hla) (by omega)
  ·exact Nat.le_trans (len_of' (Nat.lt_of_le_of_lt (Nat.mod_le _ _) (nval_lt' a ha)) hla) (by omega)
theorem both_parse(s:Str)(hs:s.length≤300) : ∃ (l:List Nat) (b:Bool),l.length≤1000∧P0 f_nat_Parse [.v (.str s)] []=some (.tup [.sl (limbs l),.bool b],[])∧P0 f_ref01_Parse [.v (.str s)] []=some (.tup [.sl (limbs l),.bool b],[]):=by
 have h1:=nparse_ok s
 have h2:=rparse_ok s
 unfold parseV at h1 h2
 by_cases h:s≠[]∧s.length≤2000∧s.all isDig=true
 ·rw[if_pos h]at h1 h2
  refine⟨_,_,?_,h1,h2⟩
  have hp : ∀ (t:Str) (v k:Nat),t.all isDig=true→v<10 ^ k→t.foldl stepD v<10 ^ (k+t.length):=by
   intro t
   induction t with
   | nil=>intro v k _ hv;exact hv
   | cons b r ih=>
    intro v k hd hv
    rw[List.all_cons,zG]at hd
    have hb:=hd.1
    unfold isDig at hb
    simp only[zG,decide_eq_true_eq]at hb
    rw[List.foldl_cons,List.length_cons,show k+(r.length+1)=k+1+r.length by omega]
    refine ih _ _ hd.2 ?_
    unfold stepD
    rw[Nat.pow_succ];omega
  have hp:=hp s 0 0 h.2.2 (by decide)
  rw[Nat.zero_add]at hp
  exact Nat.le_trans (len_of' (Nat.lt_trans hp (ten_lt s.length)) (zR _)) (by omega)
 ·rw[if_neg h]at h1 h2
  exact⟨[],false,by simp,h1,h2⟩
theorem both_pow(b:Nat)(n:Int)(hb:b<B32)(hn : -9223372036854775808≤n∧n<40) : ∃ l:List Nat,l.length≤1000∧P0 f_nat_Pow [.v (.int .u32 (b:Int)),.v (.int .i64 n)] []=some (.sl (limbs l),[])∧P0 f_ref01_Pow [.v (.int .u32 (b:Int)),.v (.int .i64 n)] []=some (.sl (limbs l),[]):=by
 by_cases h:n<0
 ·refine⟨toL 1,?_,npow_neg b n hb ⟨h,hn.1⟩,rpow_neg b n hb ⟨h,hn.1⟩⟩
  rw[toL_step 1 (by decide),show 1 / B32=0 from rfl,toL_zero];simp
 ·obtain⟨m,rfl⟩ : ∃ m:Nat,n=(m:Int):=⟨n.toNat,by omega⟩
  refine⟨toL (b ^ m),?_,npow_ok b m hb (by omega),rpow_ok b m hb (by omega)⟩
  exact Nat.le_trans (len_of' (pow_lt hb m) (zR _)) (by omega)
theorem all_ok(a b:List Nat)(base:Nat)(n:Int)(s:Str)(ha:U32 a)(hb:U32 b)(hd:base<B32)(hn : -9223372036854775808≤n∧n≤9223372036854775807) :
  P0 f_law01_NatAll [.v (.sl (limbs a)),.v (.sl (limbs b)),.v (.int .u32 (base:Int)),.v (.int .i64 n),.v (.str s)] []=some (.bool true,[]):=by
 rw[eq_law01_NatAll];unfold F_law01_NatAll
 have hf:=few_ok' a b
 by_cases hab:a.length≤25∧b.length≤25
 rotate_left
 ·rw[decide_eq_false hab]at hf
  have u1:unV .not (.bool false)=some (.bool true):=rfl
  simp only[tick_eq,hf,some_bind,u1,asBool_b,zX,if_false,if_true,awake01]
 rw[decide_eq_true hab]at hf
 have u1:unV .not (.bool true)=some (.bool false):=rfl
 by_cases hs:s.length≤300
 rotate_left
 ·have c1:((s.length:Nat):Int) > 300:=by omega
  simp only[tick_eq,hf,some_bind,u1,asBool_b,if_true,lns_s,c1,decide_true,zX,if_false,awake01]
 have c1 : ¬ ((s.length:Nat):Int) > 300:=by omega
 have mid:(((binV .gtr (.int .i64 n) (.int .i64 40)).bind fun x7=>
   (asBool x7).bind fun b8=>
   ((if b8=true then
   (binV .lss (.int .i64 n) (.int .i64 1300)).bind fun x9=>
   some x9
   else some (.bool false):Option V)).bind fun x10=>
   some x10):Option V)=some (.bool (decide (n > 40∧n<1300))):=by
  by_cases d1:n > 40
  ·by_cases d2:n<1300
   ·rw[decide_eq_true (show n > 40∧n<1300 from⟨d1,d2⟩)]
    simp only[tick_eq,gtr_i,d1,decide_true,some_bind,asBool_b,if_true,lss_i,d2]
   ·rw[decide_eq_false (show ¬ (n > 40∧n<1300)from fun h=>d2 h.2)]
    simp only[tick_eq,gtr_i,d1,decide_true,some_bind,asBool_b,if_true,lss_i,d2,decide_false]
  ·rw[decide_eq_false (show ¬ (n > 40∧n<1300)from fun h=>d1 h.1)]
   simp only[tick_eq,gtr_i,d1,decide_false,some_bind,asBool_b,zF,if_false]
 by_cases hm:n > 40∧n<1300
 ·rw[decide_eq_true hm]at mid
  simp only[tick_eq,hf,some_bind,u1,asBool_b,if_true,lns_s,c1,decide_false]
  refine(bind_of mid _).trans ?_
  simp only[tick_eq,asBool_b,some_bind,if_true,awake01]
 rw[decide_eq_false hm]at mid
 simp only[tick_eq,hf,some_bind,u1,asBool_b,if_true,lns_s,c1,decide_false]
 refine(bind_of mid _).trans ?_
 have oa:=own_limbs a (by omega)
 have ob:=own_limbs b (by omega)
 obtain⟨q,r,hq,hr,dv1,dv2⟩:=both_div a b ha hb hab.1 hab.2
 obtain⟨p,ok,hp,pa1,pa2⟩:=both_parse s hs
 have va:=nval_lt' a ha
 have vb:=nval_lt' b hb
 have va':nval a<B32 ^ 25:=zK va (Nat.pow_le_pow_right B32_pos hab.1)
 have vb':nval b<B32 ^ 25:=zK vb (Nat.pow_le_pow_right B32_pos hab.2)
 have tr1:=ntrim_ok a ha (by omega)
 have tr2:=rtrim_ok a ha (by omega)
 have ltr:(toL (trim (nval a)).1).length≤1000:=Nat.le_trans (len_of' (Nat.lt_of_le_of_lt (trim_le _) va') (zR _)) (by omega)
 have cm1:=ncmp_ok a b (by omega) (by omega) ha hb
 have cm2:=rcmp_ok a b (by omega) (by omega) ha hb
 have bi1:=nbits_ok a ha (by omega)
 have bi2:=rbits_ok a ha (by omega)
 have no1:=nnorm_ok a (by omega) ha
 have no2:=rnorm_ok a (by omega) ha
 have ad1:=nadd_ok a b (by omega) (by omega) ha hb
 have ad2:=radd_ok a b (by omega) (by omega) ha hb
 have su1:=nsub_ok a b (by omega) (by omega) ha hb
 have su2:=rsub_ok a b (by omega) (by omega) ha hb
 have mu1:=nmul_ok a b ha hb (by omega)
 have mu2:=rmul_ok a b ha hb (by omega)
 have di1:=ndigits_ok a ha (by omega)
 have di2:=rdigits_ok a ha (by omega)
 have s1:=same_self q (by omega)
 have s2:=same_self r (by omega)
 have s3:=same_self (toL (trim (nval a)).1) (by omega)
 have s4:=same_self p (by omega)
 have s5:=same_self (toL (nval a)) (by have:=len_of' va' (zR _);omega)
 have s6:=same_self (toL (nval a+nval b)) (by have:=len_of' (add_lt va' vb') (zR _);omega)
 have s7:=same_self (toL (nval a - nval b)) (by have:=len_of' (Nat.lt_of_le_of_lt (Nat.sub_le _ (nval b)) va') (zR _);omega)
 have s8:=same_self (toL (nval a * nval b)) (by have:=len_of' (mul_lt va' vb') (zR _);omega)
 have s9:=same_self a (by omega)
 have s10:=same_self b (by omega)
 have hbb:(!(ok == ok))=false:=by simp
 have slv : ∀ l:List V,slV (.sl l)=some l:=fun _=>rfl
 by_cases h40:n<40
 ·obtain⟨w,hw,pw1,pw2⟩:=both_pow base n hd ⟨hn.1,h40⟩
  have s11:=same_self w (by omega)
  simp only[tick_eq,asBool_b,some_bind,zF,if_false,oa,ob,slv,dv1,dv2,ext_tup,zM,zN,tr1,tr2,pa1,pa2,s1,u1,if_true,s2,s3,neq_i,decide_true,zH,s4,hbb,cm1,cm2,bi1,bi2,lss_i,h40,pw1,pw2,s11,no1,no2,s5,ad1,ad2,s6,su1,su2,s7,mu1,mu2,s8,di1,di2,eql_s,beq_self_eq_true,s9,s10,awake01]
 ·simp only[tick_eq,asBool_b,some_bind,zF,if_false,oa,ob,slv,dv1,dv2,ext_tup,zM,zN,tr1,tr2,pa1,pa2,s1,u1,if_true,s2,s3,neq_i,decide_true,zH,s4,hbb,cm1,cm2,bi1,bi2,lss_i,h40,decide_false,no1,no2,s5,ad1,ad2,s6,su1,su2,s7,mu1,mu2,s8,di1,di2,eql_s,beq_self_eq_true,s9,s10,awake01]
theorem pure_NatAll{n0 n1 n2 n3 n4:Nat}{xs ys us vs ts:List V}(hx:Ty Go.Proofs.Tryd.prog n0 22 xs)(hy:Ty Go.Proofs.Tryd.prog n1 22 ys)(hu:Ty Go.Proofs.Tryd.prog n2 32 us)(hv:Ty Go.Proofs.Tryd.prog n3 3 vs)(ht:Ty Go.Proofs.Tryd.prog n4 9 ts) :
  P0 f_law01_NatAll ([mkV Go.Proofs.Tryd.prog 22 xs,mkV Go.Proofs.Tryd.prog 22 ys,mkV Go.Proofs.Tryd.prog 32 us,mkV Go.Proofs.Tryd.prog 3 vs,mkV Go.Proofs.Tryd.prog 9 ts].map .v) []=some (.bool true,[]):=by
 obtain⟨a,ea,ha⟩:=ty_u32s Go.Proofs.Tryd.underlying22 Go.Proofs.Tryd.underlying32 hx
 obtain⟨b,eb,hb⟩:=ty_u32s Go.Proofs.Tryd.underlying22 Go.Proofs.Tryd.underlying32 hy
 obtain⟨d,ed,hd⟩:=ty_u32 Go.Proofs.Tryd.underlying32 hu
 obtain⟨n,hn,en⟩:=ty_int Go.Proofs.Tryd.underlying3 hv
 obtain⟨s,es⟩:=ty_text Go.Proofs.Tryd.underlying9 ht
 rw[ea,eb,ed,en,es]
 exact all_ok a b d n s ha hb hd (wf_i64 hn)
end Go.Ev
