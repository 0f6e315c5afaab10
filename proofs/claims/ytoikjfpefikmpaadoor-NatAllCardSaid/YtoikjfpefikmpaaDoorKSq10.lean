/- Naturals: comparison, differences, doubles, bits, quotients. -/
import Derived.Test.YtoikjfpefikmpaaDoorKSq6
import Derived.Test.YtoikjfpefikmpaaDoorKSp
set_option linter.all false
open Option renaming map_some→zC
open Bool renaming false_eq_true→zF
open List renaming getElem?_eq_getElem→zL,drop_zero→zU,take_of_length_le→zV
open Nat renaming le_refl→zR
namespace Go.Ev
attribute [local irreducible] P0
theorem compare_ok(x y:Nat):P0 f_cmp_Compare_uint64 [.v (.int .u64 (x:Int)),.v (.int .u64 (y:Int))] []=some (.int .i64 (cmpN x y),[]):=by
 rw[eq_cmp_Compare_uint64];unfold F_cmp_Compare_uint64
 have hn : ∀ z:Int,P0 f_cmp_isNaN_uint64 [.v (.int .u64 z)] []=some (.bool false,[]):=fun z=>by
  rw[eq_cmp_isNaN_uint64];unfold F_cmp_isNaN_uint64
  apply yes;simp
 unfold cmpN
 by_cases c1:x<y
 ·have c1':(x:Int)<(y:Int):=by omega
  apply yes;simp[hn,c1,c1']
 ·have c1' : ¬ (x:Int)<(y:Int):=by omega
  by_cases c2:y<x
  ·have c2':(y:Int)<(x:Int):=by omega
   apply yes;simp[hn,c1,c1',c2,c2']
  ·have c2' : ¬ (y:Int)<(x:Int):=by omega
   apply yes;simp[hn,c1,c1',c2,c2']
theorem ncmp_loop(a b:List Nat)(ha:U32 a)(hb:U32 b)(n:Nat)(hn:n≤1000000) :
  ∃ j xs,loopL (L_nat_Cmp_1 (.sl (limbs a)) (.sl (limbs b))) (vec [.int .i64 ((n:Int) - 1)])=some (j,xs)∧(if j=0 then V.int .i64 0 else xs 0) = .int .i64 (cmpT a b n):=by
 induction n with
 | zero=>
  refine⟨0,vec [],?_,rfl⟩
  apply loopL_inr
  unfold L_nat_Cmp_1
  apply yes;simp
 | succ n ih=>
  obtain⟨j,xs,h1,h2⟩:=ih (by omega)
  have e1:((n+1:Nat):Int) - 1=n:=by omega
  have e2:(0:Int)≤n:=by omega
  rw[e1]
  have l1:=nat_ok a n ha
  have l2:=nat_ok b n hb
  have hc:=compare_ok (lat a n) (lat b n)
  have w:=w64 (a:=(n:Int) - 1) (by omega)
  simp only[cmpT]
  by_cases c1:lat a n<lat b n
  ·have e3:cmpN (lat a n) (lat b n) = -1:=by unfold cmpN;rw[if_pos c1]
   rw[e3]at hc
   refine⟨1,vec [.int .i64 (-1)],?_,by simp[c1]⟩
   apply loopL_inr
   unfold L_nat_Cmp_1
   apply yes;simp[l1,l2,e2,hc]
  by_cases c2:lat b n<lat a n
  ·have e3:cmpN (lat a n) (lat b n)=1:=by unfold cmpN;rw[if_neg c1,if_pos c2]
   rw[e3]at hc
   refine⟨1,vec [.int .i64 1],?_,by simp[c1,c2]⟩
   apply loopL_inr
   unfold L_nat_Cmp_1
   apply yes;simp[l1,l2,e2,hc]
  ·have e3:cmpN (lat a n) (lat b n)=0:=by unfold cmpN;rw[if_neg c1,if_neg c2]
   rw[e3]at hc
   refine⟨j,xs,?_,by rw[h2,if_neg c1,if_neg c2]⟩
   rw[← h1]
   apply loopL_inl
   unfold L_nat_Cmp_1
   apply yes;simp[l1,l2,e2,hc,w]
theorem ncmp_ok(a b:List Nat)(hla:a.length≤1000000)(hlb:b.length≤1000000)(ha:U32 a)(hb:U32 b) :
  P0 f_nat_Cmp [.v (.sl (limbs a)),.v (.sl (limbs b))] []=some (.int .i64 (cmpN (nval a) (nval b)),[]):=by
 rw[eq_nat_Cmp];unfold F_nat_Cmp
 obtain⟨j,xs,h1,h2⟩:=ncmp_loop a b ha hb (max a.length b.length) (by omega)
 have e:maxV (.int .i64 (a.length:Int)) [.int .i64 (b.length:Int)]=some (.int .i64 ((max a.length b.length:Nat):Int)):=by
  simp only[maxV,if_pos];congr 2;split<;>omega
 have w:=w64 (a:=((max a.length b.length:Nat):Int) - 1) (by omega)
 rw[cmpT_eq a b ha hb,zV (by omega),zV (by omega)]at h2
 simp only[lenV_sl,some_bind,limbs_len,e,sub_i,w,h1]
 rw[← h2]
 by_cases hj:j=0<;>simp[hj]
theorem sub_limb(x y c:Nat)(hx:x<B32)(hy:y<B32)(hc:c≤1) :
  ∃ d c':Nat,d<B32∧c'≤1∧x+B32 * c'=y+c+d∧IntKind.u32.wrap (IntKind.u64.wrap (IntKind.u64.wrap ((x:Int) - y) - c))=(d:Int) ∧
   (IntKind.u64.wrap (IntKind.u64.wrap ((x:Int) - y) - c)).fdiv 9223372036854775808=(c':Int):=by
 have hB:B32=4294967296:=rfl
 rw[IntKind.wrap_u64,IntKind.wrap_u64,IntKind.wrap_u32]
 rw[Int.fdiv_eq_ediv_of_nonneg _ (by decide)]
 by_cases h:y+c≤x
 ·refine⟨x - (y+c),0,by omega,by omega,by omega,by omega,by omega⟩
 ·refine⟨x+B32 - (y+c),1,by omega,by omega,by omega,by omega,by omega⟩
theorem nsub_loop(a b:List Nat)(n:Nat)(ha:U32 a)(hb:U32 b)(hn:n≤1000000)(k:Nat) : ∀ (i c:Nat) (o:List Nat),i+k=n→c≤1→o.length=i→U32 o→nval (a.take i)+B32 ^ i * c=nval (b.take i)+nval o →
  ∃ (o':List Nat) (c':Nat),loopL (L_nat_Sub_1 (.int .i64 (n:Int)) (.sl (limbs a)) (.sl (limbs b))) (vec [.sl (limbs o),.int .u64 (c:Int),.int .i64 (i:Int)])=some (0,vec [.sl (limbs o')])∧U32 o'∧o'.length=n∧nval (a.take n)+B32 ^ n * c'=nval (b.take n)+nval o':=by
 induction k with
 | zero=>
  intro i c o hi hc ho hu hv
  have e:i=n:=by omega
  subst e
  refine⟨o,c,?_,hu,ho,hv⟩
  apply loopL_inr
  unfold L_nat_Sub_1
  apply yes;simp
 | succ k ih=>
  intro i c o hi hc ho hu hv
  obtain⟨d,c',h1,h2,h3,h4,h5⟩:=sub_limb (lat a i) (lat b i) c (lat_lt ha i) (lat_lt hb i) hc
  obtain⟨o',c'',g1,g2⟩:=ih (i+1) c' (o++[d]) (by omega) h2 (by simp[ho]) (by
   intro x hx;rcases List.mem_append.1 hx with h | h
   ·exact hu x h
   ·simp at h;rw[h];exact h1) (by
   rw[nval_take_succ,nval_take_succ,nval_append,ho,Nat.pow_succ]
   simp only[nval,Nat.mul_zero,Nat.add_zero]
   have h6:=congrArg (B32 ^ i * ·) h3
   simp only[Nat.mul_add]at h6
   rw[Nat.mul_assoc]
   omega)
  refine⟨o',c'',?_,g2⟩
  rw[← g1]
  apply loopL_inl
  unfold L_nat_Sub_1
  have c1:(i:Int)<(n:Int):=by omega
  have l1:=nat_ok a i ha
  have l2:=nat_ok b i hb
  have w:=w64 (a:=(i:Int)+1) (by omega)
  have hp2:(2:Int) ^ Nat.min (63:Int).toNat (IntKind.bits .u64)=9223372036854775808:=by decide
  have happ:appOk 4 o.length 1=true:=app_ok _ _ _ (by omega) (by omega)
  have e1:((i+1:Nat):Int)=(i:Int)+1:=by omega
  simp only[vec_0,vec_s,lss_i,c1,decide_true,some_bind,asBool_b,if_true,l1,l2,sub_i,cvi_i,h4,okN_int,tst_t,fld_int,elems_sl,shr_i _ _ _ _ (show(0:Int)≤63 by decide),hp2,h5,add_i,w,limbs_len,List.length_cons,List.length_nil,Nat.zero_add,happ,e1]
  rw[show szOk 1 [V.int .u32 (d:Int)]=true from rfl,tst_t,show [V.int .u32 (d:Int)]=limbs [d]from rfl,limbs_app]
theorem nsub_ok(a b:List Nat)(hla:a.length≤1000000)(hlb:b.length≤1000000)(ha:U32 a)(hb:U32 b) :
  P0 f_nat_Sub [.v (.sl (limbs a)),.v (.sl (limbs b))] []=some (.sl (limbs (toL (nval a - nval b))),[]):=by
 rw[eq_nat_Sub];unfold F_nat_Sub
 have hc:=ncmp_ok a b hla hlb ha hb
 by_cases c1:nval a<nval b
 ·have e:cmpN (nval a) (nval b) = -1:=by unfold cmpN;rw[if_pos c1]
  rw[e]at hc
  rw[show nval a - nval b=0 by omega,toL_zero]
  apply yes;simp[hc];rfl
 ·have e : ¬ cmpN (nval a) (nval b)<0∧0≤cmpN (nval a) (nval b):=by unfold cmpN;rw[if_neg c1];split<;>decide
  obtain⟨o',c',h1,h2,h3,h4⟩:=nsub_loop a b (max a.length b.length) ha hb (by omega) (max a.length b.length) 0 0 [] (by omega) (by decide) rfl (fun x hx=>by simp at hx) (by simp[nval])
  rw[zV (by omega),zV (by omega)]at h4
  have hc':c'=0∧nval o'=nval a - nval b:=by
   have h5:=nval_lt' o' h2
   rw[h3]at h5
   rcases Nat.eq_zero_or_pos c' with h6 | h6
   ·subst h6;exact⟨rfl,by omega⟩
   ·have:B32 ^ (max a.length b.length) * 1≤B32 ^ (max a.length b.length) * c':=Nat.mul_le_mul_left _ h6
    omega
  have em:maxV (.int .i64 (a.length:Int)) [.int .i64 (b.length:Int)]=some (.int .i64 ((max a.length b.length:Nat):Int)):=by
   simp only[maxV,if_pos];congr 2;split<;>omega
  have hn:=nnorm_ok o' (by omega) h2
  rw[hc'.2]at hn
  have e0:limbs []=[]:=rfl
  rw[e0,show((0:Nat):Int)=0 from rfl]at h1
  apply yes
  simp only[hc,some_bind,lss_i,e.1,decide_false,asBool_b,zF,if_false,lenV_sl,limbs_len,em,h1,vec_0,elems_sl,hn]
  simp
theorem nup_loop(a:List Nat)(b0:Nat)(q:Nat×Nat)(hq:q.1=a.length)(ha:U32 a)(hb:b0≤1)(hl:a.length≤1000000)(k:Nat) : ∀ (i c:Nat) (o:List Nat),i+k=a.length→c≤1→o.length=a.length+1→U32 o→(∀ t,i≤t→lat o t=0)→nval o+B32 ^ i * c=2 * nval (a.take i)+b0 →
  ∃ (o':List Nat) (c':Nat),loopL (L_nat_up_1 a.length (.sl (limbs a)) q) (vec [.int .u32 (c:Int),.int .i64 (i:Int),.sl (limbs o)])=some (0,vec [.int .u32 (c':Int),.sl (limbs o')])∧c'≤1∧o'.length=a.length+1∧U32 o'∧(∀ t,a.length≤t→lat o' t=0)∧nval o'+B32 ^ a.length * c'=2 * nval a+b0:=by
 induction k with
 | zero=>
  intro i c o hi hc ho hu hz hv
  have e:i=a.length:=by omega
  subst e
  rw[List.take_length]at hv
  refine⟨o,c,?_,hc,ho,hu,hz,hv⟩
  apply loopL_inr
  unfold L_nat_up_1
  apply yes;simp
 | succ k ih=>
  intro i c o hi hc ho hu hz hv
  have hB:B32=4294967296:=rfl
  have hil:i<a.length:=by omega
  have hx:lat a i<B32:=lat_lt ha i
  have ex:a[i]?=some (lat a i):=by unfold lat;rw[zL hil];rfl
  have hs:=nval_set o i (2 * lat a i % B32+c) (by omega)
  rw[hz i (zR _),Nat.mul_zero,Nat.add_zero]at hs
  obtain⟨hd,hcc,e1,e2,h3,hlt⟩:=up_limb (lat a i) c hx hc
  have hdm:=Nat.div_add_mod (2 * lat a i) B32
  obtain⟨o',c',g1,g2⟩:=ih (i+1) (2 * lat a i / B32) (o.set i (2 * lat a i % B32+c)) (by omega) hcc (by simp[ho]) (u32_set hu hd _)
   (fun t ht=>by rw[lat_set_ne _ _ _ _ (by omega)];exact hz t (by omega)) (by
    rw[nval_take_succ,hs,Nat.pow_succ,Nat.mul_assoc,Nat.mul_add,Nat.mul_add 2]
    have h6:=congrArg (B32 ^ i * ·) hdm
    simp only[Nat.mul_add]at h6
    have h7:2 * (B32 ^ i * lat a i)=B32 ^ i * (2 * lat a i):=by ac_rfl
    omega)
  refine⟨o',c',?_,g2⟩
  rw[← g1]
  apply loopL_inl
  unfold L_nat_up_1
  have c1:(i:Int)<(a.length:Int):=by omega
  have w:=w64 (a:=(i:Int)+1) (by omega)
  have hp1:(2:Int) ^ Nat.min (1:Int).toNat (IntKind.bits .u32)=2:=by decide
  have hp2:(2:Int) ^ Nat.min (31:Int).toNat (IntKind.bits .u32)=2147483648:=by decide
  have hor:binV .or (.int .u32 ((2 * lat a i % B32:Nat):Int)) (.int .u32 (c:Int))=some (.int .u32 ((2 * lat a i % B32+c:Nat):Int)):=by
   have h1:=u32_or_nat (2 * lat a i % B32) c hlt (by omega)
   have h2:=Nat.two_pow_add_eq_or_of_lt (i:=1) (b:=c) (by omega) (2 * lat a i % B32 / 2)
   rw[h3]at h2
   rw[← h2]at h1
   simp only[binV,intV,isShift,decide_true,Bool.or_true,if_pos,h1]
  have e3:((i+1:Nat):Int)=(i:Int)+1:=by omega
  simp only[vec_0,vec_s,lss_i,c1,decide_true,some_bind,asBool_b,if_true,asSl_limbs,limbs_len,idx_nat _ i a.length hil,limbs_get,ex,zC,fld_int,shl_i _ _ _ _ (show(0:Int)≤1 by decide),hp1,e1,hor,hq,okN_int,tst_t,shr_i _ _ _ _ (show(0:Int)≤31 by decide),hp2,e2,add_i,w,elems_sl,Nat.zero_add,limbs_set,e3]
theorem nup_ok(a:List Nat)(b:Nat)(ha:U32 a)(hb:b≤1)(hl:a.length≤100000) :
  P0 f_nat_up [.v (.sl (limbs a)),.v (.int .u32 (b:Int))] []=some (.sl (limbs (toL (2 * nval a+b))),[]):=by
 rw[eq_nat_up];unfold F_nat_up
 obtain⟨o',c',h1,h2,h3,h4,h5,h6⟩:=nup_loop a b (a.length,a.length+1) rfl ha hb (by omega) a.length 0 b (List.replicate (a.length+1) 0) (by omega) hb (by simp) (u32_rep _) (fun t _=>lat_rep _ _) (by rw[nval_rep];simp[nval])
 have w:IntKind.i64.wrap ((a.length:Int)+1)=((a.length+1:Nat):Int):=w64 (a:=(a.length:Int)+1) (by omega)
 have hm:=mks_nc 4 a.length (a.length+1) (by omega) (by omega) (by omega)
 have happ:appOk 4 a.length 1=true:=app_ok _ _ _ (by omega) (by omega)
 have hs:=nval_set o' a.length c' (by omega)
 rw[h5 _ (zR _),Nat.mul_zero,Nat.add_zero,h6]at hs
 have hn:=nnorm_ok (o'.set a.length c') (by simp;omega) (u32_set h4 (Nat.lt_of_le_of_lt h2 (by decide)) _)
 rw[hs]at hn
 have e2:setL (limbs o') (0+a.length) [V.int .u32 (c':Int)]=limbs (o'.set a.length c'):=by
  unfold setL
  rw[Nat.zero_add,limbs_take,limbs_drop,show [V.int .u32 (c':Int)]=limbs [c']from rfl,limbs_app,limbs_app,List.set_eq_take_append_cons_drop,if_pos (by omega)]
  rw[limbs_len];simp
 have e3:(limbs (o'.set a.length c')).take (a.length+1)=limbs (o'.set a.length c'):=by
  apply zV;rw[limbs_len];simp;omega
 rw[show((0:Nat):Int)=0 from rfl]at h1
 simp only[lenV_sl,some_bind,limbs_len,w,hm,limbs_rep,h1,vec_0,vec_s,okN_int,tst_t,fld_int,elems_sl,List.length_cons,List.length_nil,Nat.zero_add,happ]
 rw[show szOk 1 [V.int .u32 (c':Int)]=true from rfl,tst_t,if_pos ⟨zR _,.inl trivial⟩]
 rw[Nat.zero_add]at e2
 rw[e2,zU,e3,hn]
 rfl
end Go.Ev
