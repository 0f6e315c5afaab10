/- The law: digits. -/
import Derived.Test.YtoikjfpefikmpaaDoorKSn4
import Derived.Test.YtoikjfpefikmpaaDoorRows
set_option linter.all false
open Bool renaming false_eq_true→zF,not_true→zH,true_eq_false→zX
open Nat renaming lt_of_lt_of_le→zK
open List renaming getElem?_cons_zero→zM,getElem?_cons_succ→zN,length_append→zZ
namespace Go.Ev
attribute [local irreducible] P0
theorem add_str(a b:Str)(h:a.length+b.length≤9223372036854775807):binV .add (.str a) (.str b)=some (.str (a++b)):=by
 show(if a.length+b.length≤9223372036854775807 then some (V.str (a++b))else none)=_
 rw[if_pos h]
theorem zeros_loop(kk:Nat)(hk:kk≤100)(r:V×List V)(hr:r.1 = .int .i64 (kk:Int))(m:Nat) : ∀ i,i+m=kk →
  loopL (L_law01_NatDigits_1 r) (vec [.str (List.replicate i 48),.int .i64 (i:Int)])=some (0,vec [.str (List.replicate kk 48)]):=by
 induction m with
 | zero=>
  intro i hi
  have e:i=kk:=by omega
  subst e
  apply loopL_inr
  unfold L_law01_NatDigits_1
  have c1 : ¬ (i:Int)<(i:Int):=by omega
  simp only[tick_eq,vec_0,vec_s,hr,lss_i,c1,decide_false,some_bind,asBool_b,zF,if_false]
 | succ m ih=>
  intro i hi
  have c1:(i:Int)<(kk:Int):=by omega
  have ha:=add_str (List.replicate i 48) [48] (by simp;omega)
  have e:List.replicate i (48:UInt8)++[48]=List.replicate (i+1) 48:=List.replicate_succ'.symm
  rw[e]at ha
  have w:=w64 (a:=(i:Int)+1) (by omega)
  have e1:((i+1:Nat):Int)=(i:Int)+1:=by omega
  rw[← ih (i+1) (by omega),e1]
  apply loopL_inl
  unfold L_law01_NatDigits_1
  simp only[tick_eq,vec_0,vec_s,hr,lss_i,c1,decide_true,some_bind,asBool_b,if_true,ha,add_i,w]
theorem zeros_is(k:Nat):(List.replicate k (48:UInt8)).all isDig=true:=by
 induction k with
 | zero=>rfl
 | succ k ih=>rw[List.replicate_succ,List.all_cons,ih];decide
theorem zeros_val(k:Nat):pval (List.replicate k (48:UInt8))=0:=by
 induction k with
 | zero=>rfl
 | succ k ih=>rw[List.replicate_succ',pval_app,ih];rfl
theorem trim_tens'{n k:Nat}(h:n≠0):trim (n * 10 ^ k)=((trim n).1,(trim n).2+k):=by
 refine trim_unique ?_ ?_
 ·rw[Nat.pow_add,← Nat.mul_assoc,trim_val]
 ·rcases trim_mod n with h1 | h1
  ·exact absurd h1 (trim_ne h)
  ·exact h1
theorem parse_some{s:Str}(h0:s≠[])(hl:s.length≤2000)(ha:s.all isDig=true):parseV s = .tup [.sl (limbs (toL (pval s))),.bool true]:=if_pos ⟨h0,hl,ha⟩
theorem digits_ok(a:List Nat)(n:Int)(ha:U32 a)(hn : -9223372036854775808≤n∧n≤9223372036854775807):P0 f_law01_NatDigits [.v (.sl (limbs a)),.v (.int .i64 n)] []=some (.bool true,[]):=by
 rw[eq_law01_NatDigits];unfold F_law01_NatDigits
 by_cases hl:((a.length:Nat):Int) > 25
 ·simp only[tick_eq,lenV_sl,limbs_len,some_bind,hl,decide_true,if_true,awake01]
 ·have hl':a.length≤25:=by omega
  obtain⟨k,hk,hpl⟩:=placeK n 30 (by decide) (by decide) hn
  rw[show((30:Nat):Int)=30 from rfl]at hpl
  have va:=nval_lt' a ha
  have hlim:nval a<1000000000 ^ (2 * a.length):=by
   refine zK va ?_
   rw[Nat.pow_mul]
   exact Nat.pow_le_pow_left (by unfold B32;omega) _
  obtain⟨d1,d2,d3,d4⟩:=digits_facts (2 * a.length) (nval a) hlim
  have h1:=ndigits_ok a ha (by omega)
  generalize hD:digitsF (2 * a.length) (nval a)=s at *
  have hz:=zeros_loop k (by omega) (.int .i64 (k:Int),[]) rfl k 0 (by omega)
  rw[show List.replicate 0 (48:UInt8)=[]from rfl,show((0:Nat):Int)=0 from rfl]at hz
  have hzl:(List.replicate k (48:UInt8)).length=k:=List.length_replicate
  have hzi:=zeros_is k
  have hzv:=zeros_val k
  generalize hZ:List.replicate k (48:UInt8)=z at *
  have ha1:=add_str z s (by omega)
  have ha2:=add_str s z (by omega)
  have p1:=nparse_ok s
  rw[parse_some d1 (by omega) d2,d3]at p1
  have p2:=nparse_ok (z++s)
  rw[parse_some (by intro h;exact d1 (List.append_eq_nil_iff.1 h).2) (by rw[zZ];omega) (by rw[List.all_append,hzi,d2];rfl),pval_app,hzv,d3,Nat.zero_mul,Nat.zero_add]at p2
  have p3:=nparse_ok (s++z)
  rw[parse_some (by intro h;exact d1 (List.append_eq_nil_iff.1 h).1) (by rw[zZ];omega) (by rw[List.all_append,hzi,d2];rfl),pval_app,hzv,d3,hzl,Nat.add_zero]at p3
  have vt:10 ^ k<B32 ^ (k+1):=ten_lt k
  have vm:=mul_lt va vt
  have l1:=len_of' (m:=1000) va (by omega)
  have l2:=len_of' (m:=1000) vm (by omega)
  have l3:=len_of' (m:=1000) vt (by omega)
  have t1:=ntrim_ok (toL (nval a * 10 ^ k)) (u32_of _) (by omega)
  have t2:=ntrim_ok a ha (by omega)
  rw[nval_toL]at t1
  have c1:=ncmp_ok (toL (nval a)) a (by omega) (by omega) (u32_of _) ha
  rw[nval_toL,cmpN_self]at c1
  have s1:=samelimbs_ok (toL (nval a)) (toL (nval a)) (by omega)
  rw[decide_eq_true rfl]at s1
  have q1:=npow_ok 10 k (by unfold B32;omega) (by omega)
  have q1:P0 f_nat_Pow [.v (.int .u32 10),.v (.int .i64 (k:Int))] []=some (.sl (limbs (toL (10 ^ k))),[]):=q1
  have q2:=nmul_ok (toL (nval a)) (toL (10 ^ k)) (u32_of _) (u32_of _) (by omega)
  rw[nval_toL,nval_toL]at q2
  have q3:=ncmp_ok (toL (nval a * 10 ^ k)) (toL (nval a * 10 ^ k)) (by omega) (by omega) (u32_of _) (u32_of _)
  rw[cmpN_self]at q3
  by_cases h0:nval a=0
  ·rw[h0,Nat.zero_mul,trim_zero]at t1
   rw[h0,trim_zero]at t2
   rw[h0,Nat.zero_mul]at p3 q2 q3
   have s2:=samelimbs_ok (toL 0) (toL 0) (by decide)
   rw[decide_eq_true rfl]at s2
   rw[h0]at p1 p2 c1 s1
   have e0:lenV (.sl (limbs (toL 0)))=some 0:=rfl
   have e1:((((toL 0).length:Nat):Int) == 0)=true:=rfl
   have e2:((0:Nat):Int)=0:=rfl
   rw[e2]at t1 t2
   simp only[tick_eq,lenV_sl,limbs_len,some_bind,hl,decide_false,zF,if_false,hpl,h1,p1,ext_tup,zM,zN,hz,vec_0,ha1,p2,ha2,p3,t1,t2,not_b,zH,asBool_b,if_true,c1,neq_i,decide_true,s1,s2,e1,eql_i,q1,q2,q3,awake01,zX]
  ·rw[trim_tens' h0]at t1
   have lt':=trim_le (nval a)
   have hne:(trim (nval a)).1≠0:=trim_ne h0
   have l4:(toL (trim (nval a)).1).length≤1000:=len_of' (Nat.lt_of_le_of_lt lt' va) (by omega)
   have s2:=samelimbs_ok (toL (trim (nval a)).1) (toL (trim (nval a)).1) (by omega)
   rw[decide_eq_true rfl]at s2
   have e0:0<(toL (trim (nval a)).1).length:=List.length_pos_iff.2 (fun h=>hne (toL_nil.1 h))
   have e1:((((toL (trim (nval a)).1).length:Nat):Int) == 0)=false:=by rw[beq_eq_false_iff_ne];omega
   have htn:(trim (nval a)).2≤18 * a.length:=by
    refine trim_tens (zK hlim ?_)
    rw[show(1000000000:Nat)=10 ^ 9 by decide,← Nat.pow_mul]
    exact Nat.pow_le_pow_right (by decide) (by omega)
   have w:IntKind.i64.wrap (((trim (nval a)).2:Int)+(k:Int))=(((trim (nval a)).2+k:Nat):Int):=by rw[w64 (by omega)];omega
   simp only[tick_eq,lenV_sl,limbs_len,some_bind,hl,decide_false,zF,if_false,hpl,h1,p1,ext_tup,zM,zN,hz,vec_0,ha1,p2,ha2,p3,t1,t2,not_b,zH,asBool_b,if_true,c1,neq_i,decide_true,s1,s2,e1,add_i,w,eql_i,q1,q2,q3,awake01]
theorem pure_NatDigits{n0 n4:Nat}{xs vs:List V}(hx:Ty Go.Proofs.Tryd.prog n0 22 xs)(hv:Ty Go.Proofs.Tryd.prog n4 3 vs) :
  P0 f_law01_NatDigits ([mkV Go.Proofs.Tryd.prog 22 xs,mkV Go.Proofs.Tryd.prog 3 vs].map .v) []=some (.bool true,[]):=by
 obtain⟨a,ea,ha⟩:=ty_u32s Go.Proofs.Tryd.underlying22 Go.Proofs.Tryd.underlying32 hx
 obtain⟨n,hn,en⟩:=ty_int Go.Proofs.Tryd.underlying3 hv
 rw[ea,en]
 exact digits_ok a n ha (wf_i64 hn)
end Go.Ev
