/- Floats: the number that bits are. -/
import Derived.Test.YtfodpklkdecpkaaKSq7
set_option linter.all false
open Bool renaming false_eq_true->zF
open List renaming getElem?_cons_zero->zM,getElem?_cons_succ->zN
namespace Go.Ev
attribute [local irreducible] P0
theorem ilimbs_ok(v:Nat)(hv:v<18446744073709551616):P0 f_ieee_limbs [.v (.int .u64 (v:Int))] []=some (.sl (limbs (toL v)),[]):=by
 rw[eq_ieee_limbs];unfold F_ieee_limbs;have w1:IntKind.u32.wrap (v:Int)=((v%B32:Nat):Int):=by rw[IntKind.wrap_u32];unfold B32;omega
 have w2:IntKind.u32.wrap ((v/2^32:Nat):Int)=((v/B32:Nat):Int):=by rw[IntKind.wrap_u32];unfold B32;omega
 have hs:binV .shr (.int .u64 (v:Int)) (.int .u64 32)=_:=shr_u64 v .u64 32 (by decide);have hn:=nnorm_ok [v%B32,v/B32] (by simp) (by
  intro x hx;simp at hx;rcases hx with rfl | rfl
  ·exact Nat.mod_lt _ (by decide)
  ·rw[Nat.div_lt_iff_lt_mul (by decide)];unfold B32;omega)
 have e:nval [v%B32,v/B32]=v:=by simp only[nval,Nat.mul_zero,zl];exact Nat.mod_add_div v B32
 rw[e]at hn;have e2:[V.int .u32 ((v%B32:Nat):Int),V.int .u32 ((v/B32:Nat):Int)]=limbs [v%B32,v/B32]:=rfl;simp only[cvi_i,some_bind,hs,w1,w2,okN_int,tst_t,fld_int,e2,hn]
theorem bias_ok{w:Int}{ex fr:Nat}(h:Fm w ex fr):P0 f_ieee_form_bias [.v (fmV ex fr)] []=some (.int .i64 (2^(ex-1)-1),[]):=by rw[eq_ieee_form_bias];unfold F_ieee_form_bias;cases h<;>kernel_rfl
theorem least_ok{w:Int}{ex fr:Nat}(h:Fm w ex fr):P0 f_ieee_form_least [.v (fmV ex fr)] []=some (.int .i64 (leastI ex fr),[]):=by rw[eq_ieee_form_least];unfold F_ieee_form_least;rw[bias_ok h];cases h<;>kernel_rfl
theorem and_one_u64(n:Nat)(h:n<18446744073709551616):binV .and (.int .u64 (n:Int)) (.int .u64 1)=some (.int .u64 ((n%2:Nat):Int)):=
 and_mask n 1 1 (by decide) h (by decide)
theorem exact_loop(a b c:V)(ha:okN 3 (.agg [a,b,c])=true)(k:Nat) : ∀ m:Nat,0<m->m<18446744073709551616->k+1<=100000 ->
  ∃ m' j:Nat,j<=k+1/\0<m'/\m=m'*2^(k+1-j)/\(j=0\/m'%2=1) /\ ∀ neg:Bool,loopL (L_ieee_Exact_1 (.bool neg)) (vec [.int .u64 (m:Int),.int .i64 (-((k+1:Nat):Int)),a,b,c]) =
   some (if j=0 then(1,vec [.bool (mk neg m' 0).2,(mk neg m' 0).1.val])else(0,vec [.int .u64 (m':Int),.int .i64 (-(j:Int)),.agg [a,b,c]])):=by
 induction k with
 | zero=>
  intro m hm hm2 hk;have hone:=and_one_u64 m hm2;have hs:binV .shr (.int .u64 (m:Int)) (.int .u64 1)=_:=shr_u64 m .u64 1 (by decide);rcases Nat.mod_two_eq_zero_or_one m with h | h
  ·refine⟨m/2,0,by omega,by omega,by simp;omega,.inl rfl,fun neg => ?_⟩;rw[zb rfl];apply loopL_inr;unfold L_ieee_Exact_1;rw[h]at hone;have h2:m/2^1=m/2:=by rw[Nat.pow_one]
   rw[h2]at hs;have hlen:(toL (m/2)).length<=2:=toL_len (by unfold B32;omega);have hmk:=nmake_ok neg (m/2) 0 (by omega) (by decide);have w0:IntKind.i64.wrap (-((0+1:Nat):Int)+1)=0:=by decide
   simp only[vec_0,vec_s,hone,some_bind,eql_i,hs,add_i,w0,show((0:Nat):Int)=0 from rfl,ze,asBool_b,zc,ilimbs_ok (m/2) (by omega),hmk,ext_tup,zM,zN,okN_nm,tst_t]
  ·refine⟨m,1,by omega,hm,by simp,.inr h,fun neg => ?_⟩;rw[za (by decide)];apply loopL_inr;unfold L_ieee_Exact_1;rw[h]at hone;apply yes;simp only[vec_0,vec_s,hone,some_bind,eql_i];simp
 | succ k ih=>
  intro m hm hm2 hk;have hone:=and_one_u64 m hm2;have hs:binV .shr (.int .u64 (m:Int)) (.int .u64 1)=_:=shr_u64 m .u64 1 (by decide);rcases Nat.mod_two_eq_zero_or_one m with h | h
  ·obtain⟨m',j,h1,h2,h3,h4,h5⟩:=ih (m/2) (by omega) (by omega) (by omega);refine⟨m',j,by omega,h2,?_,h4,fun neg => ?_⟩
   ·rw[show k+1+1-j=k+1-j+1 by omega,Nat.pow_succ,<- Nat.mul_assoc,<- h3];omega
   ·rw[<- h5 neg];apply loopL_inl;unfold L_ieee_Exact_1;rw[h]at hone;have h2:m/2^1=m/2:=by rw[Nat.pow_one]
    rw[h2]at hs;have e0 : -((k+1+1:Nat):Int)+1 = -((k+1:Nat):Int):=by omega
    have w0:=w64 (a := -((k+1:Nat):Int)) (by omega);have e1 : ¬ (-((k+1:Nat):Int)=0):=by omega
    simp only[vec_0,vec_s,hone,some_bind,eql_i,hs,add_i,e0,w0,e1];simp
  ·refine⟨m,k+1+1,by omega,hm,by simp,.inr h,fun neg => ?_⟩;rw[za (by omega)];apply loopL_inr;unfold L_ieee_Exact_1;rw[h]at hone;apply yes;simp only[vec_0,vec_s,hone,some_bind,eql_i];simp
theorem or_bit(m k:Nat)(hm:m<2^k):m ||| 2^k=m+2^k:=by have h:=Nat.two_pow_add_eq_or_of_lt (i:=k) (b:=m) hm 1;rw[Nat.mul_one]at h;rw[Nat.or_comm,<- h,Nat.add_comm]
theorem fm_shl{w:Int}{ex fr:Nat}(h:Fm w ex fr):binV .shl (.int .u64 1) (.int .i64 (fr:Int))=some (.int .u64 ((2^fr:Nat):Int))/\fr<=52/\ex<=11 /\ -1074<=leastI ex fr/\leastI ex fr+2^ex<=974/\(2:Int)^ex<=2048:=by cases h<;>exact⟨by kernel_rfl,by decide,by decide,by decide,by decide,by decide⟩
theorem exact_fin{w:Int}{ex fr:Nat}(h:Fm w ex fr)(e m:Nat)(he:e<2^ex-1)(hm:m<2^fr)(h0 : ¬ (e=0/\m=0)) :
  ∃ m' j:Nat,0<m'/\(j=0\/m'%2=1)/\(0<=bitsT ex fr e->j=0/\m'=bitsM fr e m*2^(bitsT ex fr e).toNat)/\(bitsT ex fr e<0->(j:Int) <= -bitsT ex fr e/\bitsM fr e m=m'*2^((-bitsT ex fr e).toNat-j)) /\
  ∀ b:Nat,b<18446744073709551616->cutE ex fr b=e->cutM fr b=m ->
   P0 f_ieee_Exact [.v (.int .i64 w),.v (.int .u64 (b:Int))] []=some (.tup [(mk (cutN ex fr b) (m'*5^j) (-(j:Int))).1.val,.bool (mk (cutN ex fr b) (m'*5^j) (-(j:Int))).2],[]):=by
 obtain⟨hsh,hfr,hex,hl1,hl2,hx2⟩:=fm_shl h;have hp52:(2:Nat)^fr<=2^52:=Nat.pow_le_pow_right (by decide) hfr;have hp52':(2:Nat)^52=4503599627370496:=by decide
 have hbM:bitsM fr e m<2^53:=by
  have:(2:Nat)^53=9007199254740992:=by decide
  unfold bitsM;split<;>omega
 have h53:(2:Nat)^53=9007199254740992:=by decide
 have hbM0:0<bitsM fr e m:=by unfold bitsM;have:=Nat.pow_pos (n:=fr) (show 0<2 by decide);split<;>omega
 have heI:(e:Int)<2^ex:=by
  have h1:e<2^ex:=by omega
  have h2:((2^ex:Nat):Int)=2^ex:=by simp
  omega
 have hor:binV .or (.int .u64 (m:Int)) (.int .u64 ((2^fr:Nat):Int))=some (.int .u64 ((m+2^fr:Nat):Int)):=by have:=u64_or_nat m (2^fr) (by omega) (by omega);rw[or_bit m fr hm]at this;simp only[binV,intV,isShift,ze,Bool.or_true,zb,this]
 have hT : -1074<=bitsT ex fr e/\bitsT ex fr e<=974:=by unfold bitsT;split<;>omega
 have hk1:kindN ex e m=1:=by unfold kindN;rw[za (by omega),za (by omega),za h0]
 -- what stands ahead of the choice
 have ahead : ∀ b:Nat,b<18446744073709551616->cutE ex fr b=e->cutM fr b=m -> ∀ R:V×List V,
   Yes (if 0<=bitsT ex fr e then
    (P0 f_ieee_limbs [.v (.int .u64 (bitsM fr e m:Int))] []).bind fun r24=>
    (P0 f_nat_Pow [.v (.int .u32 2),.v (.int .i64 (bitsT ex fr e))] []).bind fun r25=>
    (P0 f_nat_Mul [.v r24.1,.v r25.1] []).bind fun r26=>
    (P0 f_num_Make [.v (.bool (cutN ex fr b)),.v r26.1,.v (.int .i64 0)] []).bind fun r27=>
    (extV r27.1 0).bind fun x28=>
    (extV r27.1 1).bind fun x29=>
    tst (okN 3 x28) (some ((.tup [x28,x29]),[]))
   else
    (loopL (L_ieee_Exact_1 (.bool (cutN ex fr b))) (vec [(.int .u64 (bitsM fr e m:Int)),(.int .i64 (bitsT ex fr e)),(.bool false),(.sl []),(.int .i64 0)])).bind fun o42=>
    if o42.1=0 then
    (P0 f_ieee_limbs [.v (o42.2 0)] []).bind fun r43=>
    (unV .neg (o42.2 1)).bind fun x44=>
    (P0 f_nat_Pow [.v (.int .u32 5),.v x44] []).bind fun r45=>
    (P0 f_nat_Mul [.v r43.1,.v r45.1] []).bind fun r46=>
    (P0 f_num_Make [.v (.bool (cutN ex fr b)),.v r46.1,.v (o42.2 1)] []).bind fun r47=>
    (extV r47.1 0).bind fun x48=>
    (extV r47.1 1).bind fun x49=>
    tst (okN 3 x48) (some ((.tup [x48,x49]),[]))
    else
    some ((.tup [(o42.2 1),(o42.2 0)]),[])) R->P0 f_ieee_Exact [.v (.int .i64 w),.v (.int .u64 (b:Int))] []=some R:=by
  intro b hb hbe hbm R hR;rw[eq_ieee_Exact];unfold F_ieee_Exact;have hkd:=kind_ok h b hb;have hcut:=cut_ok h b hb;have hof:=of_w h;have hls:=least_ok h;rw[hbe,hbm]at hkd hcut;rw[hk1]at hkd;have hT2:=hT;by_cases hez:e=0
  ·have w1:IntKind.i64.wrap (0+leastI ex fr)=bitsT ex fr e:=by unfold bitsT at hT2 ⊢;rw[zb hez]at hT2 ⊢;exact w64 (by omega)
   have w2:bitsM fr e m=m:=by unfold bitsM;rw[zb hez]
   rw[w2]at hR;subst hez;have t0 : ¬ ((0:Int)<((0:Nat):Int)):=by decide
   apply yes;simp only[hkd,some_bind,eql_i,asBool_b,show((1:Int)=2)=False by decide,zf,zF,zd,ze,zc,hof,ext_tup,zM,zN,okN_fm,tst_t,hcut,gtr_i,t0,vec_0,vec_s,hls,add_i,geq_i];rw[show((0:Nat):Int)=0 from rfl,w1];by_cases ht:0<=bitsT ex fr 0
   ·rw[zb ht]at hR;simp only[ht,ze,zc];exact hR
   ·rw[za ht]at hR;simp only[ht,zf,zF,zd];exact hR
  ·have hpos:(0:Int)<(e:Int):=by omega
   have w0:=w64 (a:=(e:Int)-1) (by omega);have w1:IntKind.i64.wrap ((e:Int)-1+leastI ex fr)=bitsT ex fr e:=by unfold bitsT at hT2 ⊢;rw[za hez]at hT2 ⊢;exact w64 (by omega)
   have w2:bitsM fr e m=m+2^fr:=by unfold bitsM;rw[za hez]
   rw[w2]at hR;apply yes;simp only[hkd,some_bind,eql_i,asBool_b,show((1:Int)=2)=False by decide,zf,zF,zd,ze,zc,hof,ext_tup,zM,zN,okN_fm,tst_t,hcut,gtr_i,hpos,fm1,hsh,hor,sub_i,w0,vec_0,vec_s,hls,add_i,geq_i,w1];by_cases ht:0<=bitsT ex fr e
   ·rw[zb ht]at hR;simp only[ht,ze,zc];exact hR
   ·rw[za ht]at hR;simp only[ht,zf,zF,zd];exact hR
 have hil:=ilimbs_ok (bitsM fr e m) (by omega);by_cases ht:0<=bitsT ex fr e
 ·refine⟨bitsM fr e m*2^(bitsT ex fr e).toNat,0,Nat.mul_pos hbM0 (Nat.pow_pos (by decide)),.inl rfl,fun _=>⟨rfl,rfl⟩,fun h=>by omega,fun b hb hbe hbm=>ahead b hb hbe hbm _ ?_⟩;rw[zb ht];obtain⟨t,htt⟩:=Int.eq_ofNat_of_zero_le ht;rw[htt,Int.toNat_natCast];have hpw:P0 f_nat_Pow [.v (.int .u32 2),.v (.int .i64 (t:Int))] []=_:=npow_ok 2 t (by decide) (by omega);have hM:bitsM fr e m<B32^2:=by rw[show B32^2=18446744073709551616 by decide];omega
  have hP:2^t<B32^31:=by
   calc 2^t<=2^974:=Nat.pow_le_pow_right (by decide) (by omega)
    _<B32^31:=by decide +kernel
  have hmul:=nmul_ok (toL (bitsM fr e m)) (toL (2^t)) (toL_u32 _) (toL_u32 _) (by have:=toL_len hM;have:=toL_len hP;omega);rw[nval_toL,nval_toL]at hmul;have hprod:bitsM fr e m*2^t<B32^33:=by rw[show B32^33=B32^2*B32^31 by rw[<- Nat.pow_add]];exact Nat.mul_lt_mul'' hM hP
  have hmk:=nmake_ok (cutN ex fr b) (bitsM fr e m*2^t) 0 (by have:=toL_len hprod;omega) (by decide);simp[hil,hpw,hmul,hmk]
 ·obtain⟨k,hk⟩ : ∃ k:Nat,bitsT ex fr e = -((k+1:Nat):Int):=⟨(-bitsT ex fr e).toNat-1,by omega⟩
  obtain⟨m',j,h1,h2,h3,h4,h5⟩:=exact_loop (.bool false) (.sl []) (.int .i64 0) rfl k (bitsM fr e m) hbM0 (by omega) (by omega);refine⟨m',j,h2,h4,fun h=>by omega,fun _=>⟨by omega,by rw[hk,show(-(-((k+1:Nat):Int))).toNat=k+1 by omega];exact h3⟩,fun b hb hbe hbm=>ahead b hb hbe hbm _ ?_⟩;rw[za ht,hk,h5 (cutN ex fr b)];by_cases hj:j=0
  ·subst hj;simp
  ·have hm':m'<=bitsM fr e m:=by rw[h3];exact Nat.le_mul_of_pos_right _ (Nat.pow_pos (by decide))
   have hil':=ilimbs_ok m' (by omega);have hpw:P0 f_nat_Pow [.v (.int .u32 5),.v (.int .i64 (j:Int))] []=_:=npow_ok 5 j (by decide) (by omega);have hM:m'<B32^2:=by rw[show B32^2=18446744073709551616 by decide];omega
   have hP:5^j<B32^79:=by
    calc 5^j<=5^1074:=Nat.pow_le_pow_right (by decide) (by omega)
     _<B32^79:=by decide +kernel
   have hmul:=nmul_ok (toL m') (toL (5^j)) (toL_u32 _) (toL_u32 _) (by have:=toL_len hM;have:=toL_len hP;omega);rw[nval_toL,nval_toL]at hmul;have hprod:m'*5^j<B32^81:=by rw[show B32^81=B32^2*B32^79 by rw[<- Nat.pow_add]];exact Nat.mul_lt_mul'' hM hP
   have hmk:=nmake_ok (cutN ex fr b) (m'*5^j) (-(j:Int)) (by have:=toL_len hprod;omega) (by omega);have w:=w64 (a:=(j:Int)) (by omega);rw[za hj];simp[hil',w,hpw,hmul,hmk]
end Go.Ev
