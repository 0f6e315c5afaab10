/- Naturals: the reference's comparison, sums, differences, bits. -/
import Derived.Test.YtoikjfpefikmpaaDoorKSn4
import Derived.Test.YtoikjfpefikmpaaDoorKSr3
set_option linter.all false
open Option renaming map_some→zC
open Bool renaming false_eq_true→zF
open Nat renaming lt_of_lt_of_le→zK,le_refl→zR
open List renaming getElem?_eq_getElem→zL,take_of_length_le→zV
namespace Go.Ev
attribute [local irreducible] P0
theorem rcmp_loop(a b:List Nat)(ha:U32 a)(hb:U32 b)(hla:a.length≤1000000)(hlb:b.length≤1000000)(n:Nat)(hn:n≤1000000) :
  ∃ j xs,loopL (L_ref01_Cmp_1 (.sl (limbs a)) (.sl (limbs b))) (vec [.int .i64 ((n:Int) - 1)])=some (j,xs)∧(if j=0 then V.int .i64 0 else xs 0) = .int .i64 (cmpT a b n):=by
 induction n with
 | zero=>
  refine⟨0,vec [],?_,rfl⟩
  apply loopL_inr
  unfold L_ref01_Cmp_1
  apply yes;simp
 | succ n ih=>
  obtain⟨j,xs,h1,h2⟩:=ih (by omega)
  have e1:((n+1:Nat):Int) - 1=n:=by omega
  have e2:(0:Int)≤n:=by omega
  rw[e1]
  have l1:=limb_lat a n hla ha
  have l2:=limb_lat b n hlb hb
  have w:=w64 (a:=(n:Int) - 1) (by omega)
  simp only[cmpT]
  by_cases c1:lat a n<lat b n
  ·have d1:((lat a n:Nat):Int)<((lat b n:Nat):Int):=by omega
   refine⟨1,vec [.int .i64 (-1)],?_,by simp[c1]⟩
   apply loopL_inr
   unfold L_ref01_Cmp_1
   simp only[tick_eq,vec_0,geq_i,e2,decide_true,some_bind,asBool_b,if_true,l1,l2,lss_i,d1]
  by_cases c2:lat b n<lat a n
  ·have d1 : ¬ ((lat a n:Nat):Int)<((lat b n:Nat):Int):=by omega
   have d2:((lat a n:Nat):Int) > ((lat b n:Nat):Int):=by omega
   refine⟨1,vec [.int .i64 1],?_,by simp[c1,c2]⟩
   apply loopL_inr
   unfold L_ref01_Cmp_1
   simp only[tick_eq,vec_0,geq_i,e2,decide_true,some_bind,asBool_b,if_true,l1,l2,lss_i,d1,decide_false,zF,if_false,gtr_i,d2]
  ·have d1 : ¬ ((lat a n:Nat):Int)<((lat b n:Nat):Int):=by omega
   have d2 : ¬ ((lat a n:Nat):Int) > ((lat b n:Nat):Int):=by omega
   refine⟨j,xs,?_,by rw[h2,if_neg c1,if_neg c2]⟩
   rw[← h1]
   apply loopL_inl
   unfold L_ref01_Cmp_1
   simp only[tick_eq,vec_0,geq_i,e2,decide_true,some_bind,asBool_b,if_true,l1,l2,lss_i,d1,decide_false,zF,if_false,gtr_i,d2,sub_i,w]
theorem max_nat(a b:Nat):maxV (.int .i64 (a:Int)) [.int .i64 (b:Int)]=some (.int .i64 ((max a b:Nat):Int)):=by
 simp only[maxV,if_pos];congr 2;split<;>omega
theorem rcmp_ok(a b:List Nat)(hla:a.length≤1000000)(hlb:b.length≤1000000)(ha:U32 a)(hb:U32 b) :
  P0 f_ref01_Cmp [.v (.sl (limbs a)),.v (.sl (limbs b))] []=some (.int .i64 (cmpN (nval a) (nval b)),[]):=by
 rw[eq_ref01_Cmp];unfold F_ref01_Cmp
 obtain⟨j,xs,h1,h2⟩:=rcmp_loop a b ha hb hla hlb (max a.length b.length) (by omega)
 have w:=w64 (a:=((max a.length b.length:Nat):Int) - 1) (by omega)
 rw[cmpT_eq a b ha hb,zV (by omega),zV (by omega)]at h2
 simp only[tick_eq,lenV_sl,some_bind,limbs_len,max_nat,sub_i,w,h1]
 rw[← h2]
 by_cases hj:j=0
 ·rw[if_pos hj,if_pos hj]
 ·rw[if_neg hj,if_neg hj]
theorem radd_limb(x y c:Nat)(hx:x<B32)(hy:y<B32)(hc:c≤1) :
  ∃ d c':Nat,d<B32∧c'≤1∧c+x+y=d+B32 * c'∧IntKind.u64.wrap ((c:Int)+x)=((c+x:Nat):Int)∧IntKind.u64.wrap (((c+x:Nat):Int)+y)=((c+x+y:Nat):Int)∧IntKind.u32.wrap ((c+x+y:Nat):Int)=(d:Int)∧(c+x+y) / 2 ^ 32=c':=by
 have hB:B32=4294967296:=rfl
 rw[hB]at hx hy ⊢
 refine⟨(c+x+y) % 4294967296,(c+x+y) / 4294967296,Nat.mod_lt _ (by decide),by omega,by omega,wu64 (by omega),wu64 (by omega),?_,by omega⟩
 rw[IntKind.wrap_u32];omega
theorem radd_loop(a b:List Nat)(ha:U32 a)(hb:U32 b)(hla:a.length≤900000)(hlb:b.length≤900000)(k:Nat) : ∀ (i c:Nat) (o:List Nat),i+k=max a.length b.length+1→c≤1→o.length=i→U32 o→nval o+B32 ^ i * c=nval (a.take i)+nval (b.take i) →
  ∃ (o':List Nat) (c':Nat),loopL (L_ref01_Add_1 (.sl (limbs a)) (.sl (limbs b))) (vec [.sl (limbs o),.int .u64 (c:Int),.int .i64 (i:Int)])=some (0,vec [.sl (limbs o')])∧U32 o'∧o'.length=max a.length b.length+1∧nval o'+B32 ^ (max a.length b.length+1) * c'=nval (a.take (max a.length b.length+1))+nval (b.take (max a.length b.length+1)):=by
 induction k with
 | zero=>
  intro i c o hi hc ho hu hv
  have e:i=max a.length b.length+1:=by omega
  subst e
  refine⟨o,c,?_,hu,ho,hv⟩
  apply loopL_inr
  unfold L_ref01_Add_1
  have c1 : ¬ (((max a.length b.length+1:Nat):Int)≤((max a.length b.length:Nat):Int)):=by omega
  simp only[tick_eq,vec_0,vec_s,lenV_sl,limbs_len,some_bind,max_nat,leq_i,c1,decide_false,asBool_b,zF,if_false,elems_sl]
 | succ k ih=>
  intro i c o hi hc ho hu hv
  obtain⟨d,c',h1,h2,h3,h4,h5,h6,h7⟩:=radd_limb (lat a i) (lat b i) c (lat_lt ha i) (lat_lt hb i) hc
  obtain⟨o',c'',g1,g2⟩:=ih (i+1) c' (o++[d]) (by omega) h2 (by simp[ho]) (by
   intro x hx;rcases List.mem_append.1 hx with h | h
   ·exact hu x h
   ·simp at h;rw[h];exact h1) (by
   rw[nval_take_succ,nval_take_succ,nval_append,ho,Nat.pow_succ]
   simp only[nval,Nat.mul_zero,Nat.add_zero]
   have h8:=congrArg (B32 ^ i * ·) h3
   simp only[Nat.mul_add]at h8
   rw[Nat.mul_assoc]
   omega)
  refine⟨o',c'',?_,g2⟩
  rw[← g1]
  apply loopL_inl
  unfold L_ref01_Add_1
  have c1:((i:Nat):Int)≤((max a.length b.length:Nat):Int):=by omega
  have l1:=limb_lat a i (by omega) ha
  have l2:=limb_lat b i (by omega) hb
  have w:=w64 (a:=(i:Int)+1) (by omega)
  have hs:=shr_u64 (c+lat a i+lat b i) .u64 32 (by decide)
  have happ:appOk 4 o.length 1=true:=app_ok _ _ _ (by omega) (by omega)
  have e1:((i+1:Nat):Int)=(i:Int)+1:=by omega
  rw[h7,show((32:Nat):Int)=32 from rfl]at hs
  have hsz:szOk 1 [V.int .u32 (d:Int)]=true:=rfl
  have hap:limbs o++[V.int .u32 (d:Int)]=limbs (o++[d]):=limbs_app o [d]
  simp only[tick_eq,vec_0,vec_s,lenV_sl,limbs_len,some_bind,max_nat,leq_i,c1,decide_true,asBool_b,if_true,l1,l2,add_i,h4,h5,cvi_i,h6,okN_int,tst_t,hsz,fld_int,elems_sl,hs,w,List.length_cons,List.length_nil,Nat.zero_add,happ,e1,hap]
theorem radd_ok(a b:List Nat)(hla:a.length≤900000)(hlb:b.length≤900000)(ha:U32 a)(hb:U32 b) :
  P0 f_ref01_Add [.v (.sl (limbs a)),.v (.sl (limbs b))] []=some (.sl (limbs (toL (nval a+nval b))),[]):=by
 rw[eq_ref01_Add];unfold F_ref01_Add
 obtain⟨o',c',h1,h2,h3,h4⟩:=radd_loop a b ha hb hla hlb (max a.length b.length+1) 0 0 [] (by omega) (by decide) rfl (fun x hx=>by simp at hx) (by simp[nval])
 rw[zV (by omega),zV (by omega)]at h4
 have g3:B32 ^ a.length≤B32 ^ (max a.length b.length):=Nat.pow_le_pow_right (by decide) (by omega)
 have g4:B32 ^ b.length≤B32 ^ (max a.length b.length):=Nat.pow_le_pow_right (by decide) (by omega)
 rw[Nat.pow_succ]at h4
 have hc':nval o'=nval a+nval b:=no_carry (zK (nval_lt' a ha) g3) (zK (nval_lt' b hb) g4) h4
 have hn:=rnorm_ok o' (by omega) h2
 rw[hc']at hn
 rw[show limbs []=[]from rfl,show((0:Nat):Int)=0 from rfl]at h1
 simp only[tick_eq,some_bind,h1,vec_0,elems_sl,hn]
theorem rsub_loop(a b:List Nat)(ha:U32 a)(hb:U32 b)(hla:a.length≤900000)(hlb:b.length≤900000)(k:Nat) : ∀ (i c:Nat) (o:List Nat),i+k=a.length→c≤1→o.length=i→U32 o→nval (a.take i)+B32 ^ i * c=nval (b.take i)+nval o →
  ∃ (o':List Nat) (c':Nat),loopL (L_ref01_Sub_1 (.sl (limbs a)) (.sl (limbs b))) (vec [.sl (limbs o),.int .u64 (c:Int),.int .i64 (i:Int)])=some (0,vec [.sl (limbs o')])∧U32 o'∧o'.length=a.length∧nval (a.take a.length)+B32 ^ a.length * c'=nval (b.take a.length)+nval o':=by
 induction k with
 | zero=>
  intro i c o hi hc ho hu hv
  have e:i=a.length:=by omega
  subst e
  refine⟨o,c,?_,hu,ho,hv⟩
  apply loopL_inr
  unfold L_ref01_Sub_1
  have c1 : ¬ ((a.length:Nat):Int)<(a.length:Int):=by omega
  simp only[tick_eq,vec_0,vec_s,lenV_sl,limbs_len,some_bind,lss_i,c1,decide_false,asBool_b,zF,if_false,elems_sl]
 | succ k ih=>
  intro i c o hi hc ho hu hv
  obtain⟨d,c',h1,h2,h3,h4,h5⟩:=sub_limb (lat a i) (lat b i) c (lat_lt ha i) (lat_lt hb i) hc
  obtain⟨o',c'',g1,g2⟩:=ih (i+1) c' (o++[d]) (by omega) h2 (by simp[ho]) (by
   intro x hx;rcases List.mem_append.1 hx with h | h
   ·exact hu x h
   ·simp at h;rw[h];exact h1) (by
   rw[nval_take_succ,nval_take_succ,nval_append,ho,Nat.pow_succ]
   simp only[nval,Nat.mul_zero,Nat.add_zero]
   have h6:=congrArg (B32 ^ i * ·) h3
   simp only[Nat.mul_add]at h6
   rw[Nat.mul_assoc]
   omega)
  refine⟨o',c'',?_,g2⟩
  rw[← g1]
  apply loopL_inl
  unfold L_ref01_Sub_1
  have c1:(i:Int)<(a.length:Int):=by omega
  have l1:=limb_lat a i (by omega) ha
  have l2:=limb_lat b i (by omega) hb
  have w:=w64 (a:=(i:Int)+1) (by omega)
  have hp2:(2:Int) ^ Nat.min (63:Int).toNat (IntKind.bits .u64)=9223372036854775808:=by decide
  have happ:appOk 4 o.length 1=true:=app_ok _ _ _ (by omega) (by omega)
  have e1:((i+1:Nat):Int)=(i:Int)+1:=by omega
  have hsz:szOk 1 [V.int .u32 (d:Int)]=true:=rfl
  have hap:limbs o++[V.int .u32 (d:Int)]=limbs (o++[d]):=limbs_app o [d]
  simp only[tick_eq,vec_0,vec_s,lenV_sl,limbs_len,lss_i,c1,decide_true,some_bind,asBool_b,if_true,l1,l2,sub_i,cvi_i,h4,okN_int,tst_t,hsz,fld_int,elems_sl,shr_i _ _ _ _ (show(0:Int)≤63 by decide),hp2,h5,add_i,w,List.length_cons,List.length_nil,Nat.zero_add,happ,e1,hap]
theorem rsub_ok(a b:List Nat)(hla:a.length≤900000)(hlb:b.length≤900000)(ha:U32 a)(hb:U32 b) :
  P0 f_ref01_Sub [.v (.sl (limbs a)),.v (.sl (limbs b))] []=some (.sl (limbs (toL (nval a - nval b))),[]):=by
 rw[eq_ref01_Sub];unfold F_ref01_Sub
 have hc:=rcmp_ok a b (by omega) (by omega) ha hb
 by_cases c1:nval a<nval b
 ·have e:cmpN (nval a) (nval b) = -1:=cmpN_lt c1
  rw[e]at hc
  rw[show nval a - nval b=0 by omega,toL_zero]
  have c2:(-1:Int)<0:=by decide
  simp only[tick_eq,hc,some_bind,lss_i,c2,decide_true,asBool_b,if_true]
  rfl
 ·have e : ¬ cmpN (nval a) (nval b)<0:=by unfold cmpN;rw[if_neg c1];split<;>decide
  obtain⟨o',c',h1,h2,h3,h4⟩:=rsub_loop a b ha hb hla hlb a.length 0 0 [] (by omega) (by decide) rfl (fun x hx=>by simp at hx) (by simp[nval])
  rw[List.take_length]at h4
  have hb2:nval (b.take a.length)=nval b:=by
   have h5:=nval_split b a.length
   have h6:=nval_lt' a ha
   rcases Nat.eq_zero_or_pos (nval (b.drop a.length))with h7 | h7
   ·rw[h7,Nat.mul_zero]at h5;omega
   ·have:B32 ^ a.length * 1≤B32 ^ a.length * nval (b.drop a.length):=Nat.mul_le_mul_left _ h7
    omega
  rw[hb2]at h4
  have hc':nval o'=nval a - nval b:=by
   have h5:=nval_lt' o' h2
   rw[h3]at h5
   rcases Nat.eq_zero_or_pos c' with h6 | h6
   ·subst h6;omega
   ·have:B32 ^ a.length * 1≤B32 ^ a.length * c':=Nat.mul_le_mul_left _ h6
    omega
  have hn:=rnorm_ok o' (by omega) h2
  rw[hc']at hn
  rw[show limbs []=[]from rfl,show((0:Nat):Int)=0 from rfl]at h1
  simp only[tick_eq,hc,some_bind,lss_i,e,decide_false,asBool_b,zF,if_false,h1,vec_0,elems_sl,hn]
/-- the bit's own load -/
theorem bit_at(l:List Nat)(hu:U32 l)(i:Nat)(hi:i<32 * l.length)(hl:l.length≤10000) : ∃ x:Nat,x<B32∧l[i / 32]?=some x∧x / 2 ^ (i % 32) % 2=nval l / 2 ^ i % 2:=by
 have hj:i / 32<l.length:=by omega
 have hb:=bit_eq l hu i
 have e:lat l (i / 32)=l[i / 32]:=by unfold lat;rw[zL hj];rfl
 refine⟨l[i / 32],hu _ (List.getElem_mem hj),zL hj,?_⟩
 rw[← e];exact hb
theorem n32(n:Nat)(h:n≤400000):binV .quo (.int .i64 (n:Int)) (.int .i64 32)=some (.int .i64 ((n / 32:Nat):Int))∧binV .rem (.int .i64 (n:Int)) (.int .i64 32)=some (.int .i64 ((n % 32:Nat):Int))∧IntKind.u64.wrap ((n % 32:Nat):Int)=((n % 32:Nat):Int):=by
 refine⟨?_,?_,wu64 (by omega)⟩
 ·rw[quo_i _ _ _ (by decide),show(n:Int).tdiv 32=((n / 32:Nat):Int)from rfl,w64 (by omega)]
 ·rw[rem_i _ _ _ (by decide)];rfl
theorem rbits_loop(l:List Nat)(hu:U32 l)(hl:l.length≤10000)(n:Nat)(r:V×List V)(hr:r.1 = .sl (limbs l)):n≤32 * l.length→nval l<2 ^ n →
  loopL (L_ref01_Bits_1 r) (vec [.int .i64 (n:Int)])=some (0,vec [.int .i64 (bl (nval l):Int)]):=by
 induction n with
 | zero=>
  intro hn hv
  have h0:nval l=0:=by rw[Nat.pow_zero]at hv;omega
  rw[h0,bl_zero]
  apply loopL_inr
  unfold L_ref01_Bits_1
  have c1 : ¬ (((0:Nat):Int) > 0):=by omega
  simp only[tick_eq,vec_0,gtr_i,c1,decide_false,some_bind,asBool_b,zF,if_false]
 | succ n ih=>
  intro hn hv
  obtain⟨x,hx,hg,hbit⟩:=bit_at l hu n (by omega) hl
  have hj:n / 32<l.length:=by omega
  have c1:(((n+1:Nat):Int) > 0):=by omega
  have e1:((n+1:Nat):Int) - 1=(n:Int):=by omega
  have w:=w64 (a:=(n:Int)) (by omega)
  obtain⟨q1,q2,w2⟩:=n32 n (by omega)
  have hsh:=shr_u32 x .u64 (n % 32) (by omega)
  have hand:=and1_u32 (x / 2 ^ (n % 32)) (Nat.lt_of_le_of_lt (Nat.div_le_self _ _) hx)
  rw[hbit]at hand
  have hrl:asSl 1 r.1=some (limbs l):=by rw[hr];exact asSl_limbs l
  by_cases h0:nval l / 2 ^ n % 2=0
  ·have h1:nval l<2 ^ n:=by
    have h2:nval l / 2 ^ n<2:=Nat.div_lt_of_lt_mul (by rw[Nat.pow_succ]at hv;exact hv)
    have h3:nval l / 2 ^ n=0:=by
     generalize nval l / 2 ^ n=z at *
     omega
    have h4:0<2 ^ n:=Nat.pow_pos (by decide)
    rcases Nat.lt_or_ge (nval l) (2 ^ n)with h | h
    ·exact h
    ·have:=Nat.div_pos h h4;omega
   rw[h0]at hand
   have c2:(((0:Nat):Int)=0):=rfl
   rw[← ih (by omega) h1]
   apply loopL_inl
   unfold L_ref01_Bits_1
   simp only[tick_eq,vec_0,gtr_i,c1,decide_true,some_bind,asBool_b,if_true,sub_i,e1,w,q1,hrl,limbs_len,idx_nat _ (n / 32) l.length hj,limbs_get,hg,zC,fld_int,q2,cvi_i,w2,hsh,hand,eql_i,c2]
  ·have h1:nval l / 2 ^ n % 2=1:=by omega
   rw[h1]at hand
   have hb:bl (nval l)=n+1:=bl_eq hv (fun _=>by
    rw[Nat.add_sub_cancel]
    rcases Nat.lt_or_ge (nval l) (2 ^ n)with h | h
    ·rw[Nat.div_eq_of_lt h]at h1;omega
    ·exact h) (fun h=>by rw[h,Nat.zero_div]at h1;omega)
   rw[hb]
   have c2 : ¬ (((1:Nat):Int)=0):=by decide
   apply loopL_inr
   unfold L_ref01_Bits_1
   simp only[tick_eq,vec_0,gtr_i,c1,decide_true,some_bind,asBool_b,if_true,sub_i,e1,w,q1,hrl,limbs_len,idx_nat _ (n / 32) l.length hj,limbs_get,hg,zC,fld_int,q2,cvi_i,w2,hsh,hand,eql_i,c2,decide_false,zF,if_false]
theorem rbits_ok(l:List Nat)(hu:U32 l)(hl:l.length≤10000):P0 f_ref01_Bits [.v (.sl (limbs l))] []=some (.int .i64 (bl (nval l):Int),[]):=by
 rw[eq_ref01_Bits];unfold F_ref01_Bits
 have hn:=rnorm_ok l (by omega) hu
 have hlen:(toL (nval l)).length≤l.length:=toL_len (nval_lt' l hu)
 have h:=rbits_loop (toL (nval l)) (toL_u32 _) (by omega) (32 * (toL (nval l)).length) (.sl (limbs (toL (nval l))),[]) rfl (zR _) (by rw[← B32_pow];exact nval_lt' _ (toL_u32 _))
 rw[nval_toL]at h
 have w:IntKind.i64.wrap (32 * (((toL (nval l)).length:Nat):Int))=((32 * (toL (nval l)).length:Nat):Int):=by rw[w64 (by omega)];omega
 simp only[tick_eq,hn,some_bind,lenV_sl,limbs_len,w,h,vec_0]
end Go.Ev
