/- Naturals: quotients. -/
import Derived.Test.YtoikjfpefikmpaaDoorKSq11
set_option linter.all false
open Option renaming map_some→zC
open Bool renaming false_eq_true→zF
open List renaming getElem?_eq_getElem→zL,getElem?_cons_zero→zM,getElem?_cons_succ→zN,drop_zero→zU,take_of_length_le→zV
open Nat renaming le_refl→zR
open Int renaming natCast_nonneg→zY
namespace Go.Ev
attribute [local irreducible] P0
theorem or_u32(x y:Nat)(hx:x<B32)(hy:y<B32):binV .or (.int .u32 (x:Int)) (.int .u32 (y:Int))=some (.int .u32 ((x ||| y:Nat):Int)):=by
 have h:=u32_or_nat x y hx hy
 simp only[binV,intV,isShift,decide_true,Bool.or_true,if_pos,h]
theorem and1_u32(x:Nat)(hx:x<B32):binV .and (.int .u32 (x:Int)) (.int .u32 1)=some (.int .u32 ((x % 2:Nat):Int)):=by
 have h:=u32_and_nat x 1 hx (by decide)
 rw[Nat.and_one_is_mod]at h
 rw[show((1:Nat):Int)=1 from rfl]at h
 simp only[binV,intV,isShift,decide_true,Bool.or_true,if_pos,h]
theorem shl1_u32(k:IntKind)(s:Nat)(h:s<32):binV .shl (.int .u32 1) (.int k (s:Int))=some (.int .u32 ((2 ^ s:Nat):Int)):=by
 rw[shl_i _ _ _ _ (zY s),Int.toNat_natCast]
 have e:Nat.min s (IntKind.bits .u32)=s:=Nat.min_eq_left (by show s≤32;omega)
 have e2:(1:Int) * (2:Int) ^ s=((2 ^ s:Nat):Int):=by simp
 have h3:2 ^ s≤2 ^ 31:=Nat.pow_le_pow_right (by decide) (by omega)
 have h4:(2:Nat) ^ 31=2147483648:=by decide
 rw[e,e2,wu32 ⟨zY _,Int.ofNat_le.2 (show 2 ^ s≤4294967295 by omega)⟩]
theorem bit_step(A b i:Nat)(hb:0<b) :
  (2 * (A / 2 ^ (i+1) % b)+A / 2 ^ i % 2<b→A / 2 ^ i % b=2 * (A / 2 ^ (i+1) % b)+A / 2 ^ i % 2∧A / 2 ^ i / b=2 * (A / 2 ^ (i+1) / b)) ∧
  (b≤2 * (A / 2 ^ (i+1) % b)+A / 2 ^ i % 2→A / 2 ^ i % b=2 * (A / 2 ^ (i+1) % b)+A / 2 ^ i % 2 - b∧A / 2 ^ i / b=2 * (A / 2 ^ (i+1) / b)+1):=by
 have e1:A / 2 ^ (i+1)=A / 2 ^ i / 2:=by rw[Nat.pow_succ,Nat.div_div_eq_div_mul]
 rw[e1]
 generalize A / 2 ^ i=X
 have h1:=Nat.div_add_mod (X / 2) b
 have h2:=Nat.mod_lt (X / 2) hb
 have h3:X=2 * (X / 2)+X % 2:=by omega
 generalize X / 2 / b=Q at *
 generalize X / 2 % b=r at *
 have key:X=b * (2 * Q)+(2 * r+X % 2):=by
  have:b * (2 * Q)=2 * (b * Q):=by ac_rfl
  omega
 constructor
 ·intro h
  refine⟨?_,?_⟩
  ·rw[key,Nat.mul_add_mod,Nat.mod_eq_of_lt (by omega)];omega
  ·rw[key,Nat.mul_add_div hb,Nat.div_eq_of_lt (by omega)];omega
 ·intro h
  have key2:X=b * (2 * Q+1)+(2 * r+X % 2 - b):=by rw[Nat.mul_add,Nat.mul_one];omega
  refine⟨?_,?_⟩
  ·have:=congrArg (· % b) key2
   simp only[Nat.mul_add_mod]at this
   rw[this,Nat.mod_eq_of_lt (by omega)]
  ·have:=congrArg (· / b) key2
   simp only[Nat.mul_add_div hb]at this
   rw[this,Nat.div_eq_of_lt (by omega),Nat.add_zero]
theorem lat_low(o:List Nat)(hu:U32 o)(Q i:Nat)(h:nval o=Q * 2 ^ (i+1)):lat o (i / 32) % 2 ^ (i % 32+1)=0:=by
 rw[lat_eq o hu,B32_pow,h]
 have hs:i % 32<32:=Nat.mod_lt _ (by decide)
 have e:i+1=32 * (i / 32)+(i % 32+1):=by omega
 have e2:Q * 2 ^ (i+1) / 2 ^ (32 * (i / 32))=Q * 2 ^ (i % 32+1):=by
  have h1:Q * 2 ^ (i+1)=Q * 2 ^ (i % 32+1) * 2 ^ (32 * (i / 32)):=by
   conv=>lhs;rw[e,Nat.pow_add]
   ac_rfl
  rw[h1,Nat.mul_div_cancel _ (Nat.pow_pos (by decide))]
 rw[e2]
 have hd:2 ^ (i % 32+1) ∣ B32:=by
  have:B32=2 ^ 32:=rfl
  rw[this];exact Nat.pow_dvd_pow 2 (by omega)
 rw[Nat.mod_mod_of_dvd _ hd]
 exact Nat.mul_mod_left _ _
theorem div_loop(a:List Nat)(b:Nat)(ps:List V)(q:Nat×Nat)(hq:q.1=a.length)(ha:U32 a)(hl:a.length≤10000)(hb:0<b)(hbl:(toL b).length≤10000)(n:Nat) : ∀ o:List Nat,n≤bl (nval a)→U32 o→o.length=a.length→nval o=nval a / 2 ^ n / b * 2 ^ n →
  ∃ o':List Nat,loopL (L_nat_Div_1 (.sl (limbs a)) (.sl (limbs (toL b)),ps) q) (vec [.sl (limbs (toL (nval a / 2 ^ n % b))),.int .i64 ((n:Int) - 1),.sl (limbs o)])=some (0,vec [.sl (limbs (toL (nval a % b))),.sl (limbs o')])∧U32 o'∧o'.length=a.length∧nval o'=nval a / b:=by
 induction n with
 | zero=>
  intro o _ hu ho hv
  simp only[Nat.pow_zero,Nat.div_one,Nat.mul_one]at hv
  refine⟨o,?_,hu,ho,hv⟩
  rw[Nat.pow_zero,Nat.div_one]
  apply loopL_inr
  unfold L_nat_Div_1
  apply yes;simp
 | succ i ih=>
  intro o hi hu ho hv
  have hbla:bl (nval a)≤32 * a.length:=bl_mono_lt (by rw[← B32_pow];exact nval_lt' a ha)
  have hj:i / 32<a.length:=by omega
  have e0:((i+1:Nat):Int) - 1=i:=by omega
  have c0:(0:Int)≤(i:Int):=by omega
  have q32:(i:Int).tdiv 32=((i / 32:Nat):Int):=by rw[Int.tdiv_eq_ediv_of_nonneg c0];omega
  have r32:(i:Int).tmod 32=((i % 32:Nat):Int):=by rw[Int.tmod_eq_emod_of_nonneg c0];omega
  have w1:=w64 (a:=((i / 32:Nat):Int)) (by omega)
  have w2:=w64 (a:=(i:Int) - 1) (by omega)
  have hs:i % 32<32:=Nat.mod_lt _ (by decide)
  have hx:a[i / 32]?=some (lat a (i / 32)):=by unfold lat;rw[zL hj];rfl
  have hdl:lat a (i / 32) / 2 ^ (i % 32)<B32:=Nat.lt_of_le_of_lt (Nat.div_le_self _ _) (lat_lt ha _)
  have h1:=shr_u32 (lat a (i / 32)) .i64 (i % 32) hs
  have h2:=and1_u32 _ hdl
  rw[bit_eq a ha i]at h2
  have hbit:nval a / 2 ^ i % 2≤1:=by have:=Nat.mod_lt (nval a / 2 ^ i) (show 0<2 by decide);omega
  have hr:nval a / 2 ^ (i+1) % b<b:=Nat.mod_lt _ hb
  have hlr:(toL (nval a / 2 ^ (i+1) % b)).length≤(toL b).length:=by
   apply toL_len
   refine Nat.lt_trans hr ?_
   have:=nval_lt' _ (toL_u32 b)
   rwa [nval_toL]at this
  have h3:=nup_ok (toL (nval a / 2 ^ (i+1) % b)) (nval a / 2 ^ i % 2) (toL_u32 _) hbit (by omega)
  rw[nval_toL]at h3
  have hlu:(toL (2 * (nval a / 2 ^ (i+1) % b)+nval a / 2 ^ i % 2)).length≤(toL b).length+1:=by
   apply toL_len
   have h5:=nval_lt' _ (toL_u32 b)
   rw[nval_toL]at h5
   rw[Nat.pow_succ]
   calc 2 * (nval a / 2 ^ (i+1) % b)+nval a / 2 ^ i % 2<B32 ^ (toL b).length * 2:=by omega
    _≤B32 ^ (toL b).length * B32:=Nat.mul_le_mul_left _ (by decide)
  have h4:=ncmp_ok (toL (2 * (nval a / 2 ^ (i+1) % b)+nval a / 2 ^ i % 2)) (toL b) (by omega) (by omega) (toL_u32 _) (toL_u32 _)
  have h5:=nsub_ok (toL (2 * (nval a / 2 ^ (i+1) % b)+nval a / 2 ^ i % 2)) (toL b) (by omega) (by omega) (toL_u32 _) (toL_u32 _)
  rw[nval_toL,nval_toL]at h4 h5
  obtain⟨k1,k2⟩:=bit_step (nval a) b i hb
  have hn32:(32:Int)≠0:=by decide
  rw[e0]
  by_cases c:2 * (nval a / 2 ^ (i+1) % b)+nval a / 2 ^ i % 2<b
  ·obtain⟨m1,m2⟩:=k1 c
   have hc:cmpN (2 * (nval a / 2 ^ (i+1) % b)+nval a / 2 ^ i % 2) b = -1:=by unfold cmpN;rw[if_pos c]
   rw[hc]at h4
   obtain⟨o',g1,g2⟩:=ih o (by omega) hu ho (by rw[m2,hv,Nat.pow_succ];ac_rfl)
   refine⟨o',?_,g2⟩
   rw[← g1,m1]
   apply loopL_inl
   unfold L_nat_Div_1
   simp only[vec_0,vec_s,geq_i,c0,decide_true,some_bind,asBool_b,if_true,quo_i _ _ _ hn32,rem_i _ _ _ hn32,q32,r32,w1,asSl_limbs,limbs_len,idx_nat _ (i / 32) a.length hj,limbs_get,hx,zC,fld_int,h1,h2,h3,h4,show((0:Int) ≤ -1)=False by decide,decide_false,zF,if_false,sub_i,w2,elems_sl]
  ·obtain⟨m1,m2⟩:=k2 (by omega)
   have hc:((0:Int)≤cmpN (2 * (nval a / 2 ^ (i+1) % b)+nval a / 2 ^ i % 2) b)=True:=by unfold cmpN;rw[if_neg c];split<;>decide
   have hlow:=lat_low o hu _ i hv
   have hor:=or_pow _ _ hlow
   have hjo:i / 32<o.length:=by omega
   have hlo:=lat_lt hu (i / 32)
   have hps:2 ^ (i % 32)<B32:=by
    have:B32=2 ^ 32:=rfl
    rw[this];exact Nat.pow_lt_pow_right (by decide) hs
   have h6:=or_u32 _ _ hlo hps
   have hlt:lat o (i / 32)+2 ^ (i % 32)<B32:=by
    rw[← hor]
    have:B32=2 ^ 32:=rfl
    rw[this]at hlo hps ⊢
    exact Nat.or_lt_two_pow hlo hps
   rw[hor]at h6
   have hy:o[i / 32]?=some (lat o (i / 32)):=by unfold lat;rw[zL hjo];rfl
   have h7:=shl1_u32 .i64 (i % 32) hs
   obtain⟨o',g1,g2⟩:=ih (o.set (i / 32) (lat o (i / 32)+2 ^ (i % 32))) (by omega) (u32_set hu hlt _) (by simp[ho]) (by
    have h8:=nval_set o (i / 32) (lat o (i / 32)+2 ^ (i % 32)) hjo
    have h9:B32 ^ (i / 32) * 2 ^ (i % 32)=2 ^ i:=by rw[B32_pow,← Nat.pow_add];congr 1;omega
    rw[Nat.mul_add,h9]at h8
    rw[m2,Nat.add_mul,Nat.one_mul]
    have h10:2 * (nval a / 2 ^ (i+1) / b) * 2 ^ i=nval a / 2 ^ (i+1) / b * 2 ^ (i+1):=by rw[Nat.pow_succ];ac_rfl
    rw[h10,← hv];omega)
   refine⟨o',?_,g2⟩
   rw[← g1,m1]
   apply loopL_inl
   unfold L_nat_Div_1
   simp only[vec_0,vec_s,geq_i,c0,decide_true,some_bind,asBool_b,if_true,quo_i _ _ _ hn32,rem_i _ _ _ hn32,q32,r32,w1,asSl_limbs,limbs_len,idx_nat _ (i / 32) a.length hj,limbs_get,hx,zC,fld_int,h1,h2,h3,h4,hc,h5,hq,elems_sl,Nat.zero_add,hy,h7,h6,okN_int,tst_t,sub_i,w2,limbs_set]
theorem ndiv_ok(a b:List Nat)(ha:U32 a)(hb:U32 b)(hla:a.length≤10000)(hlb:b.length≤10000)(h0:nval b≠0) :
  P0 f_nat_Div [.v (.sl (limbs a)),.v (.sl (limbs b))] []=some (.tup [.sl (limbs (toL (nval a / nval b))),.sl (limbs (toL (nval a % nval b)))],[]):=by
 rw[eq_nat_Div];unfold F_nat_Div
 have hnm:=nnorm_ok b (by omega) hb
 have hlt:=nval_lt' b hb
 have hlen:=toL_len hlt
 generalize nval b=B at *
 have hne:toL B≠[]:=fun h=>h0 (toL_nil.1 h)
 have hpos:0<(toL B).length:=List.length_pos_iff.2 hne
 have d0:((((toL B).length:Nat):Int) == 0)=false:=by simp;omega
 simp only[hnm,some_bind,lenV_sl,limbs_len,d0,zF,if_false]
 by_cases h1:(toL B).length=1
 ·have d1:((((toL B).length:Nat):Int) == 1)=true:=by simp;omega
  obtain⟨x,hx⟩ : ∃ x,toL B=[x]:=List.length_eq_one_iff.1 h1
  have hB:B=x:=by have:=nval_toL B;rw[hx]at this;simpa[nval]using this.symm
  have hxu:x<B32:=toL_u32 B x (by rw[hx];simp)
  have hs:=nsmall_ok a x (by omega) hxu (by omega) ha
  have hr:nval a % x<B32:=Nat.lt_trans (Nat.mod_lt _ (by omega)) hxu
  have hn2:=nnorm_ok [nval a % x] (by simp) (fun y hy=>by simp at hy;rw[hy];exact hr)
  have e1:nval [nval a % x]=nval a % x:=by simp[nval]
  rw[e1]at hn2
  have i0:idxV (.int .i64 0) 1=some 0:=by kernel_rfl
  have g:(limbs [x])[0]?=some (.int .u32 (x:Int)):=rfl
  rw[if_pos d1]
  simp only[asSl_limbs,some_bind,hx,limbs_len,List.length_cons,List.length_nil,Nat.zero_add,i0,g,fld_int,hs,ext_tup,zM,zN,okN_int,tst_t]
  rw[limbs_one,hn2,hB]
  rfl
 ·have d1:((((toL B).length:Nat):Int) == 1)=false:=by simp;omega
  have hm:=mks_n 4 a.length (by omega) (by omega)
  have hbits:=nbits_ok a ha (by omega)
  have hbla:bl (nval a)≤32 * a.length:=bl_mono_lt (by rw[← B32_pow];exact nval_lt' a ha)
  have w:=w64 (a:=(bl (nval a):Int) - 1) (by omega)
  have hz:nval a / 2 ^ bl (nval a)=0:=Nat.div_eq_of_lt (bl_lt _)
  obtain⟨o',g1,g2,g3,g4⟩:=div_loop a B [] (a.length,a.length) rfl ha hla (by omega) (by omega) (bl (nval a)) (List.replicate a.length 0) (zR _) (u32_rep _) (by simp) (by rw[nval_rep,hz];simp)
  rw[hz,Nat.zero_mod,toL_zero]at g1
  have hn2:=nnorm_ok o' (by omega) g2
  rw[g4]at hn2
  have e0:limbs []=[]:=rfl
  rw[e0]at g1
  have e3:(limbs o').take a.length=limbs o':=by
   apply zV;rw[limbs_len];omega
  simp only[d1,zF,if_false,hm,some_bind,hbits,sub_i,w,limbs_rep,g1,vec_0,vec_s,elems_sl,zU,e3,hn2]
end Go.Ev
