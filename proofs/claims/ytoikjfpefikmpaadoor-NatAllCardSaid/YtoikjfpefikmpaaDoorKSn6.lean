/- Naturals: the reference's quotient. -/
import Derived.Test.YtoikjfpefikmpaaDoorKSn5
set_option linter.all false
open Option renaming map_some→zC
open Bool renaming false_eq_true→zF
open List renaming getElem?_eq_getElem→zL,drop_zero→zU,take_of_length_le→zV
open Nat renaming le_refl→zR,mul_le_mul_right→zW
namespace Go.Ev
attribute [local irreducible] P0
theorem bind_of{α β:Type}{o:Option α}{v:α}(h:o=some v)(K:α→Option β):o.bind K=K v:=by rw[h];rfl
theorem rdiv_loop(a b:List Nat)(q:Nat×Nat)(hq:q.1=a.length)(ha:U32 a)(hub:U32 b)(hl:a.length≤800)(hb:0<nval b)(hbl:b.length≤800)(n:Nat) : ∀ o:List Nat,n≤bl (nval a)→U32 o→o.length=a.length→nval o=nval a / 2 ^ n / nval b * 2 ^ n →
  ∃ o':List Nat,loopL (L_ref01_Div_1 (.sl (limbs a)) (.sl (limbs b)) q) (vec [.sl (limbs (toL (nval a / 2 ^ n % nval b))),.int .i64 ((n:Int) - 1),.sl (limbs o)])=some (0,vec [.sl (limbs (toL (nval a % nval b))),.sl (limbs o')])∧U32 o'∧o'.length=a.length∧nval o'=nval a / nval b:=by
 have hvb:=nval_lt' b hub
 generalize hB:nval b=B at *
 induction n with
 | zero=>
  intro o _ hu ho hv
  simp only[Nat.pow_zero,Nat.div_one,Nat.mul_one]at hv
  refine⟨o,?_,hu,ho,hv⟩
  rw[Nat.pow_zero,Nat.div_one]
  apply loopL_inr
  unfold L_ref01_Div_1
  have c0 : ¬ (0:Int)≤((0:Nat):Int) - 1:=by omega
  simp only[tick_eq,vec_0,vec_s,geq_i,c0,decide_false,some_bind,asBool_b,zF,if_false,elems_sl]
 | succ i ih=>
  intro o hi hu ho hv
  have hbla:bl (nval a)≤32 * a.length:=bl_mono_lt (by rw[← B32_pow];exact nval_lt' a ha)
  have hj:i / 32<a.length:=by omega
  have e0:((i+1:Nat):Int) - 1=i:=by omega
  have c0:(0:Int)≤(i:Int):=by omega
  obtain⟨q32,r32,w1⟩:=n32 i (by omega)
  have w2:=w64 (a:=(i:Int) - 1) (by omega)
  have hs:i % 32<32:=Nat.mod_lt _ (by decide)
  obtain⟨x,hxl,hx,hxb⟩:=bit_at a ha i (by omega) (by omega)
  have h1:=shr_u32 x .u64 (i % 32) hs
  have h2:=and1_u32 _ (Nat.lt_of_le_of_lt (Nat.div_le_self x (2 ^ (i % 32))) hxl)
  rw[hxb]at h2
  have hbit:nval a / 2 ^ i % 2≤1:=by have:=Nat.mod_lt (nval a / 2 ^ i) (show 0<2 by decide);omega
  have hr:nval a / 2 ^ (i+1) % B<B:=Nat.mod_lt _ hb
  obtain⟨k1,k2⟩:=bit_step (nval a) B i hb
  generalize nval a / 2 ^ (i+1) % B=r at *
  generalize hbb:nval a / 2 ^ i % 2=t at *
  have hlr:(toL r).length≤b.length:=toL_len (Nat.lt_trans hr hvb)
  have h3:=rshift_ok (toL r) 1 (toL_u32 _) (by omega) (by decide)
  rw[nval_toL,Nat.pow_one,Nat.mul_comm,show((1:Nat):Int)=1 from rfl]at h3
  have hlu : ∀ z,z<B * 2→(toL z).length≤b.length+1:=by
   intro z hz
   apply toL_len
   rw[Nat.pow_succ]
   calc z<B ^ 1 * 2:=by rw[Nat.pow_one];exact hz
    _≤B32 ^ b.length * 2:=zW _ (by rw[Nat.pow_one];omega)
    _≤B32 ^ b.length * B32:=Nat.mul_le_mul_left _ two_B32
  have h4:t=1→P0 f_ref01_Add [.v (.sl (limbs (toL (2 * r)))),.v (.sl [.int .u32 1])] []=some (.sl (limbs (toL (2 * r+t))),[]):=by
   intro ht
   have:=radd_ok (toL (2 * r)) [1] (by have:=hlu (2 * r) (by omega);omega) (by simp) (toL_u32 _) (u32_one (by unfold B32;omega))
   rw[nval_toL,nval_one]at this
   rw[ht];exact this
  have hlz:=hlu (2 * r+t) (by omega)
  have h5:=rcmp_ok (toL (2 * r+t)) b (by omega) (by omega) (toL_u32 _) hub
  have h6:=rsub_ok (toL (2 * r+t)) b (by omega) (by omega) (toL_u32 _) hub
  rw[nval_toL,hB]at h5 h6
  rw[e0]
  have mid:(((binV .quo (.int .i64 (i:Int)) (.int .i64 32)).bind fun x11=>
    (asSl 1 (.sl (limbs a))).bind fun l12=>
    (idxV x11 (l12.length)).bind fun i13=>
    (l12[i13]?).bind fun e14=>
    (fldV e14 0).bind fun c15=>
    (binV .rem (.int .i64 (i:Int)) (.int .i64 32)).bind fun x16=>
    (cviV .u64 x16).bind fun x17=>
    (binV .shr c15 x17).bind fun x18=>
    (binV .and x18 (.int .u32 1)).bind fun x19=>
    (binV .eql x19 (.int .u32 1)).bind fun x20=>
    (asBool x20).bind fun b21=>
    if b21=true then
    (P0 f_ref01_Add [.v (.sl (limbs (toL (2 * r)))),.v (.sl [(.int .u32 1)])] []).bind fun r22=>
    some (0,(vec [r22.1]))
    else
    some (0,(vec [.sl (limbs (toL (2 * r)))])):Option (Nat×(Nat→V))))=some (0,vec [.sl (limbs (toL (2 * r+t)))]):=by
   by_cases ht:t=1
   ·have c3:((t:Nat):Int)=1:=by omega
    have h4:=h4 ht
    simp only[tick_eq,q32,some_bind,asSl_limbs,limbs_len,idx_nat _ (i / 32) a.length hj,limbs_get,hx,zC,fld_int,r32,cvi_i,w1,h1,h2,eql_i,c3,decide_true,asBool_b,if_true,h4]
   ·have c3 : ¬ ((t:Nat):Int)=1:=by omega
    have e:2 * r+t=2 * r:=by omega
    rw[e]
    simp only[tick_eq,q32,some_bind,asSl_limbs,limbs_len,idx_nat _ (i / 32) a.length hj,limbs_get,hx,zC,fld_int,r32,cvi_i,w1,h1,h2,eql_i,c3,decide_false,asBool_b,zF,if_false]
  by_cases c:2 * r+t<B
  ·obtain⟨m1,m2⟩:=k1 c
   have hc:cmpN (2 * r+t) B = -1:=cmpN_lt c
   rw[hc]at h5
   obtain⟨o',g1,g2⟩:=ih o (by omega) hu ho (by rw[m2,hv,Nat.pow_succ];ac_rfl)
   refine⟨o',?_,g2⟩
   rw[← g1,m1]
   apply loopL_inl
   unfold L_ref01_Div_1
   have c5 : ¬ (0:Int) ≤ -1:=by decide
   simp only[tick_eq,vec_0,vec_s,geq_i,c0,decide_true,some_bind,asBool_b,if_true,h3]
   refine(bind_of mid _).trans ?_
   simp only[tick_eq,some_bind,vec_0,h5,geq_i,c5,decide_false,asBool_b,zF,if_false,sub_i,w2,elems_sl,vec_s]
  ·obtain⟨m1,m2⟩:=k2 (by omega)
   have hc:(0:Int)≤cmpN (2 * r+t) B:=by unfold cmpN;rw[if_neg c];split<;>decide
   have hlow:=lat_low o hu _ i hv
   have hor:=or_pow _ _ hlow
   have hjo:i / 32<o.length:=by omega
   have hlo:=lat_lt hu (i / 32)
   have hps:2 ^ (i % 32)<B32:=by
    have:B32=2 ^ 32:=rfl
    rw[this];exact Nat.pow_lt_pow_right (by decide) hs
   have h8:=or_u32 _ _ hlo hps
   have hlt:lat o (i / 32)+2 ^ (i % 32)<B32:=by
    rw[← hor]
    have:B32=2 ^ 32:=rfl
    rw[this]at hlo hps ⊢
    exact Nat.or_lt_two_pow hlo hps
   rw[hor]at h8
   have hy:o[i / 32]?=some (lat o (i / 32)):=by unfold lat;rw[zL hjo];rfl
   have h7:=shl1_u32 .u64 (i % 32) hs
   obtain⟨o',g1,g2⟩:=ih (o.set (i / 32) (lat o (i / 32)+2 ^ (i % 32))) (by omega) (u32_set hu hlt _) (by simp[ho]) (by
    have h8:=nval_set o (i / 32) (lat o (i / 32)+2 ^ (i % 32)) hjo
    have h9:B32 ^ (i / 32) * 2 ^ (i % 32)=2 ^ i:=by rw[B32_pow,← Nat.pow_add];congr 1;omega
    rw[Nat.mul_add,h9]at h8
    rw[m2,Nat.add_mul,Nat.one_mul]
    have h10:2 * (nval a / 2 ^ (i+1) / B) * 2 ^ i=nval a / 2 ^ (i+1) / B * 2 ^ (i+1):=by rw[Nat.pow_succ];ac_rfl
    rw[h10,← hv];omega)
   refine⟨o',?_,g2⟩
   rw[← g1,m1]
   apply loopL_inl
   unfold L_ref01_Div_1
   simp only[tick_eq,vec_0,vec_s,geq_i,c0,decide_true,some_bind,asBool_b,if_true,h3]
   refine(bind_of mid _).trans ?_
   simp only[tick_eq,some_bind,vec_0,h5,geq_i,hc,decide_true,asBool_b,if_true,h6,q32,hq,idx_nat _ (i / 32) a.length hj,elems_sl,vec_s,Nat.zero_add,limbs_get,hy,zC,fld_int,r32,cvi_i,w1,h7,h8,okN_int,tst_t,sub_i,w2,limbs_set]
theorem rdiv_ok(a b:List Nat)(ha:U32 a)(hb:U32 b)(hla:a.length≤800)(hlb:b.length≤800)(h0:nval b≠0) :
  P0 f_ref01_Div [.v (.sl (limbs a)),.v (.sl (limbs b))] []=some (.tup [.sl (limbs (toL (nval a / nval b))),.sl (limbs (toL (nval a % nval b)))],[]):=by
 rw[eq_ref01_Div];unfold F_ref01_Div
 have hnm:=rnorm_ok b (by omega) hb
 have hne:toL (nval b)≠[]:=fun h=>h0 (toL_nil.1 h)
 have hpos:0<(toL (nval b)).length:=List.length_pos_iff.2 hne
 have d0:((((toL (nval b)).length:Nat):Int) == 0)=false:=by simp;omega
 have hm:=mks_n 4 a.length (by omega) (by omega)
 have hbits:=rbits_ok a ha (by omega)
 have hbla:bl (nval a)≤32 * a.length:=bl_mono_lt (by rw[← B32_pow];exact nval_lt' a ha)
 have w:=w64 (a:=(bl (nval a):Int) - 1) (by omega)
 have hz:nval a / 2 ^ bl (nval a)=0:=Nat.div_eq_of_lt (bl_lt _)
 obtain⟨o',g1,g2,g3,g4⟩:=rdiv_loop a b (a.length,a.length) rfl ha hb hla (by omega) hlb (bl (nval a)) (List.replicate a.length 0) (zR _) (u32_rep _) (by simp) (by rw[nval_rep,hz];simp)
 rw[hz,Nat.zero_mod,toL_zero]at g1
 have hn2:=rnorm_ok o' (by omega) g2
 rw[g4]at hn2
 have e0:limbs []=[]:=rfl
 rw[e0]at g1
 have e3:(limbs o').take a.length=limbs o':=by
  apply zV;rw[limbs_len];omega
 simp only[tick_eq,hnm,some_bind,lenV_sl,limbs_len,d0,zF,if_false,hm,hbits,sub_i,w,limbs_rep,g1,vec_0,vec_s,elems_sl,zU,e3,hn2]
theorem rdiv_zero(a b:List Nat)(hb:U32 b)(hlb:b.length≤10000)(h0:nval b=0) :
  P0 f_ref01_Div [.v (.sl (limbs a)),.v (.sl (limbs b))] []=some (.tup [.sl [],.sl []],[]):=by
 rw[eq_ref01_Div];unfold F_ref01_Div
 have hnm:=rnorm_ok b (by omega) hb
 rw[h0,toL_zero]at hnm
 simp only[tick_eq,hnm,some_bind,lenV_sl,limbs_len,List.length_nil]
 rfl
theorem rpow_neg(b:Nat)(n:Int)(hb:b<B32)(hn:n<0 ∧ -9223372036854775808≤n):P0 f_ref01_Pow [.v (.int .u32 (b:Int)),.v (.int .i64 n)] []=some (.sl (limbs (toL 1)),[]):=by
 rw[eq_ref01_Pow];unfold F_ref01_Pow
 have h:loopL (L_ref01_Pow_1 (.int .i64 n) (.int .u32 (b:Int))) (vec [.sl [.int .u32 1],.int .i64 0])=some (0,vec [.sl [.int .u32 1]]):=by
  apply loopL_inr
  unfold L_ref01_Pow_1
  have e:minV (.int .i64 n) [.int .i64 1300]=some (.int .i64 n):=by
   simp only[minV,if_pos];congr 2;split<;>omega
  have c1 : ¬ (0:Int)<n:=by omega
  simp only[tick_eq,vec_0,vec_s,e,some_bind,lss_i,c1,decide_false,asBool_b,zF,if_false]
 simp only[tick_eq,h,some_bind,vec_0]
 rw[toL_step 1 (by decide),show 1 % B32=1 from rfl,show 1 / B32=0 from rfl,toL_zero]
 rfl
end Go.Ev
