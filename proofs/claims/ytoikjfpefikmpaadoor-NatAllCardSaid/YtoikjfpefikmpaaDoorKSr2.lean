/- The reference's naturals: products, powers, shifts. -/
import Derived.Test.YtoikjfpefikmpaaDoorKSr1
import Derived.Test.YtoikjfpefikmpaaDoorKSp
set_option linter.all false
open Option renaming map_some→zC
open Bool renaming false_eq_true→zF
open List renaming getElem?_eq_getElem→zL,drop_zero→zU,take_of_length_le→zV
open Nat renaming le_refl→zR
namespace Go.Ev
attribute [local irreducible] P0
theorem limb_lat(l:List Nat)(i:Nat)(hl:l.length≤1000000)(hu:U32 l):P0 f_ref01_limb [.v (.sl (limbs l)),.v (.int .i64 (i:Int))] []=some (.int .u64 ((lat l i:Nat):Int),[]):=limb_ok l i hl hu
theorem rmul_in(a b:List Nat)(i:Nat)(st:Nat→V)(q:Nat×Nat)(out0:List Nat)(hst:st 0 = .int .i64 (i:Int))(hq:q.1=out0.length)(ha:U32 a)(hla:a.length≤1000000)(hb:U32 b)(hi:i+b.length<out0.length)(hl:out0.length≤1000000)(k:Nat) :
  ∀ (j v:Nat) (o:List Nat),j+k=b.length→v<B32→U32 o→o.length=out0.length→(∀ t,i+j≤t→lat o t=lat out0 t) →
   nval o+B32 ^ (i+j) * v=nval out0+B32 ^ i * (lat a i * nval (b.take j)) →
  ∃ (v':Nat) (o':List Nat),loopL (L_ref01_Mul_1 (.sl (limbs b)) st q (.sl (limbs a))) (vec [.int .u64 (v:Int),.int .i64 (j:Int),.sl (limbs o)])=loopL (L_ref01_Mul_1 (.sl (limbs b)) st q (.sl (limbs a))) (vec [.int .u64 (v':Int),.int .i64 (b.length:Int),.sl (limbs o')])
   ∧ v'<B32∧U32 o'∧o'.length=out0.length∧(∀ t,i+b.length≤t→lat o' t=lat out0 t)∧nval o'+B32 ^ (i+b.length) * v'=nval out0+B32 ^ i * (lat a i * nval b):=by
 induction k with
 | zero=>
  intro j v o hj hv hu ho ht hn
  have e:j=b.length:=by omega
  subst e
  exact⟨v,o,rfl,hv,hu,ho,ht,by rw[List.take_length]at hn;exact hn⟩
 | succ k ih=>
  intro j v o hj hv hu ho ht hn
  have hB:B32=4294967296:=rfl
  have hjl:j<b.length:=by omega
  have hxx:lat a i<B32:=lat_lt ha i
  have hy:lat b j<B32:=lat_lt hb j
  have hz:lat o (i+j)<B32:=lat_lt hu _
  have hij:i+j<o.length:=by omega
  have ez:o[i+j]?=some (lat o (i+j)):=by unfold lat;rw[zL hij];rfl
  have hp:=prod_lt hxx hy
  have hBB:B32 * B32=18446744073709551616:=by decide
  have px:=limb_lat a i hla ha
  have py:=limb_lat b j (by omega) hb
  have htk:=nval_take_succ b j
  generalize hxe:lat a i=x at *
  generalize hyy:lat b j=y at *
  generalize hzz:lat o (i+j)=z at *
  have hm:(v+x * y+z) % B32<B32:=Nat.mod_lt _ (by decide)
  have hd:(v+x * y+z) / B32<B32:=by rw[Nat.div_lt_iff_lt_mul (by decide)];omega
  obtain⟨v',o',h1,h2⟩:=ih (j+1) ((v+x * y+z) / B32) (o.set (i+j) ((v+x * y+z) % B32)) (by omega) hd (u32_set hu hm _) (by simp[ho])
   (fun t htt=>by rw[lat_set_ne _ _ _ _ (by omega)];exact ht t (by omega))
   (by
    have hs:=nval_set o (i+j) ((v+x * y+z) % B32) hij
    rw[hzz]at hs
    have:=mul_step hn hs
    rw[show i+(j+1)=i+j+1 by omega,Nat.pow_succ,this,htk,Nat.mul_add x,Nat.mul_add (B32 ^ i),Nat.pow_add]
    rw[show x * (B32 ^ j * y)=B32 ^ j * (x * y) by ac_rfl,Nat.mul_assoc,← Nat.add_assoc])
  refine⟨v',o',?_,h2⟩
  rw[← h1]
  apply loopL_inl
  unfold L_ref01_Mul_1
  have c1:(j:Int)≤(b.length:Int):=by omega
  have c2:((i:Int)+(j:Int))=((i+j:Nat):Int):=by omega
  have w3:=wu64 (a:=(z:Int)) (by omega)
  have e3:(x:Int) * (y:Int)=((x * y:Nat):Int):=by simp
  have w4:=wu64 (a:=((x * y:Nat):Int)) (by omega)
  have e4:(v:Int)+(z:Int)=((v+z:Nat):Int):=by simp
  have w5:=wu64 (a:=((v+z:Nat):Int)) (by omega)
  have e5:((v+z:Nat):Int)+((x * y:Nat):Int)=((v+x * y+z:Nat):Int):=by omega
  have w6:=wu64 (a:=((v+x * y+z:Nat):Int)) (by omega)
  have w7:=w64 (a:=((i+j:Nat):Int)) (by omega)
  have w8:IntKind.u32.wrap ((v+x * y+z:Nat):Int)=(((v+x * y+z) % B32:Nat):Int):=by rw[IntKind.wrap_u32,hB];omega
  have w9:IntKind.i64.wrap ((j:Int)+1)=((j+1:Nat):Int):=w64 (a:=(j:Int)+1) (by omega)
  have hp2:(2:Int) ^ Nat.min (32:Int).toNat (IntKind.bits .u64)=4294967296:=by decide
  have e9:((v+x * y+z:Nat):Int).fdiv 4294967296=(((v+x * y+z) / B32:Nat):Int):=by
   rw[Int.fdiv_eq_ediv_of_nonneg _ (by decide),hB];omega
  simp only[tick_eq,vec_0,vec_s,lenV_sl,limbs_len,leq_i,some_bind,c1,decide_true,asBool_b,if_pos,hst,add_i,c2,w7,hq,idx_nat _ (i+j) out0.length (by omega),elems_sl,Nat.zero_add,limbs_get,ez,zC,fld_int,cvi_i,w3,e4,w5,px,py,mul_i,e3,w4,e5,w6,w8,okN_int,tst_t,shr_i _ _ _ _ (show(0:Int)≤32 by decide),hp2,e9,w9,limbs_set]
theorem rmul_out(a b:List Nat)(q:Nat×Nat)(hq:q.1=a.length+b.length+1)(ha:U32 a)(hb:U32 b)(hl:a.length+b.length+1≤1000000)(k:Nat) :
  ∀ (i:Nat) (o:List Nat),i+k=a.length→U32 o→o.length=a.length+b.length+1→(∀ t,i+b.length≤t→lat o t=0)→nval o=nval (a.take i) * nval b →
  ∃ o':List Nat,loopL (L_ref01_Mul_2 (.sl (limbs a)) (.sl (limbs b)) q) (vec [.int .i64 (i:Int),.sl (limbs o)])=some (0,vec [.sl (limbs o')])∧U32 o'∧o'.length=a.length+b.length+1∧nval o'=nval a * nval b:=by
 induction k with
 | zero=>
  intro i o hi hu ho hz hn
  have e:i=a.length:=by omega
  subst e
  refine⟨o,?_,hu,ho,by rw[List.take_length]at hn;exact hn⟩
  apply loopL_inr
  unfold L_ref01_Mul_2
  apply yes;simp
 | succ k ih=>
  intro i o hi hu ho hz hn
  have hil:i<a.length:=by omega
  have c1:(i:Int)<(a.length:Int):=by omega
  have hB:B32=4294967296:=rfl
  obtain⟨v,o1,h1,h2,h3,h4,h5,h6⟩:=rmul_in a b i (vec [.int .i64 (i:Int),.sl (limbs o)]) q o rfl (by omega) ha (by omega) hb (by omega) (by omega) b.length 0 0 o (by omega) (by decide) hu rfl (fun t _=>rfl) (by simp[nval])
  have hib:i+b.length<o1.length:=by omega
  have hz0:lat o1 (i+b.length)=0:=by rw[h5 _ (zR _)];exact hz _ (zR _)
  have ez:o1[i+b.length]?=some 0:=by
   rw[← hz0];unfold lat;rw[zL hib];rfl
  -- the last round: nothing is multiplied any more
  have last:loopL (L_ref01_Mul_1 (.sl (limbs b)) (vec [.int .i64 (i:Int),.sl (limbs o)]) q (.sl (limbs a))) (vec [.int .u64 (v:Int),.int .i64 (b.length:Int),.sl (limbs o1)])=some (0,vec [.sl (limbs (o1.set (i+b.length) v))]):=by
   have px:=limb_lat a i (by omega) ha
   have py:=limb_lat b b.length (by omega) hb
   have e0:lat b b.length=0:=by unfold lat;rw[List.getElem?_eq_none (zR _)];rfl
   rw[e0]at py
   have s1:loopL (L_ref01_Mul_1 (.sl (limbs b)) (vec [.int .i64 (i:Int),.sl (limbs o)]) q (.sl (limbs a))) (vec [.int .u64 (v:Int),.int .i64 (b.length:Int),.sl (limbs o1)])=loopL (L_ref01_Mul_1 (.sl (limbs b)) (vec [.int .i64 (i:Int),.sl (limbs o)]) q (.sl (limbs a))) (vec [.int .u64 0,.int .i64 ((b.length+1:Nat):Int),.sl (limbs (o1.set (i+b.length) v))]):=by
    apply loopL_inl
    unfold L_ref01_Mul_1
    have c1:(b.length:Int)≤(b.length:Int):=Int.le_refl _
    have c2:((i:Int)+(b.length:Int))=((i+b.length:Nat):Int):=by omega
    have w0:=wu64 (a:=0) (by decide)
    have w5:=wu64 (a:=(v:Int)) (by omega)
    have w7:=w64 (a:=((i+b.length:Nat):Int)) (by omega)
    have w8:=wu32 (a:=(v:Int)) (by omega)
    have w9:IntKind.i64.wrap ((b.length:Int)+1)=((b.length+1:Nat):Int):=w64 (a:=(b.length:Int)+1) (by omega)
    have hp2:(2:Int) ^ Nat.min (32:Int).toNat (IntKind.bits .u64)=4294967296:=by decide
    have e9:(v:Int).fdiv 4294967296=0:=by rw[Int.fdiv_eq_ediv_of_nonneg _ (by decide)];omega
    simp only[tick_eq,vec_0,vec_s,lenV_sl,limbs_len,leq_i,some_bind,c1,decide_true,asBool_b,if_pos,add_i,c2,w7,hq,idx_nat _ (i+b.length) (a.length+b.length+1) (by omega),elems_sl,Nat.zero_add,limbs_get,ez,zC,fld_int,cvi_i,show((0:Nat):Int)=0 from rfl,w0,Int.add_zero,w5,px,py,mul_i,Int.mul_zero,w8,okN_int,tst_t,shr_i _ _ _ _ (show(0:Int)≤32 by decide),hp2,e9,w9,limbs_set]
   rw[s1]
   apply loopL_inr
   unfold L_ref01_Mul_1
   have c1 : ¬ (((b.length+1:Nat):Int)≤(b.length:Int)):=by omega
   simp only[tick_eq,vec_0,vec_s,lenV_sl,limbs_len,leq_i,some_bind,c1,decide_false,asBool_b,zF,if_false,elems_sl]
  obtain⟨o',g1,g2⟩:=ih (i+1) (o1.set (i+b.length) v) (by omega) (u32_set h3 h2 _) (by simp[h4,ho])
   (fun t ht=>by rw[lat_set_ne _ _ _ _ (by omega),h5 t (by omega)];exact hz t (by omega))
   (by
    have:=nval_set o1 (i+b.length) v hib
    rw[hz0,Nat.mul_zero,Nat.add_zero,h6,hn]at this
    rw[this,nval_take_succ,Nat.add_mul,Nat.mul_assoc])
  refine⟨o',?_,g2⟩
  rw[← g1]
  apply loopL_inl
  unfold L_ref01_Mul_2
  have w1:IntKind.i64.wrap ((i:Int)+1)=((i+1:Nat):Int):=w64 (a:=(i:Int)+1) (by omega)
  rw[show((0:Nat):Int)=0 from rfl]at h1
  simp only[tick_eq,vec_0,vec_s,lenV_sl,limbs_len,lss_i,some_bind,c1,decide_true,asBool_b,if_pos,elems_sl,h1,last,add_i,w1]
theorem limbs_rep'(n:Nat):List.replicate n (V.int .u32 0)=limbs (List.replicate n 0):=by simp[limbs]
theorem rmul_ok(a b:List Nat)(ha:U32 a)(hb:U32 b)(hl:a.length+b.length≤100000):P0 f_ref01_Mul [.v (.sl (limbs a)),.v (.sl (limbs b))] []=some (.sl (limbs (toL (nval a * nval b))),[]):=by
 rw[eq_ref01_Mul];unfold F_ref01_Mul
 obtain⟨o,h1,h2,h3,h4⟩:=rmul_out a b (a.length+b.length+1,a.length+b.length+1) rfl ha hb (by omega) a.length 0 (List.replicate (a.length+b.length+1) 0) (by omega) (u32_rep _) (by simp) (fun t _=>lat_rep _ _) (by rw[nval_rep];simp[nval])
 have e1:(a.length:Int)+(b.length:Int)=((a.length+b.length:Nat):Int):=by omega
 have w1:=w64 (a:=((a.length+b.length:Nat):Int)) (by omega)
 have w2:IntKind.i64.wrap (((a.length+b.length:Nat):Int)+1)=((a.length+b.length+1:Nat):Int):=w64 (a:=((a.length+b.length:Nat):Int)+1) (by omega)
 rw[show((0:Nat):Int)=0 from rfl]at h1
 apply yes
 simp only[tick_eq,lenV_sl,some_bind,limbs_len,e1,w1,w2,mks_n 4 (a.length+b.length+1) (by omega) (by omega),limbs_rep',h1,vec_0,elems_sl,zU,limbs_take]
 rw[zV (by omega),rnorm_ok o (by omega) h2,h4]
 simp
theorem rpow_loop(b n:Nat)(hb:b<B32)(hn:n≤1300)(k:Nat) : ∀ i,i+k=n→loopL (L_ref01_Pow_1 (.int .i64 (n:Int)) (.int .u32 (b:Int))) (vec [.sl (limbs (toL (b ^ i))),.int .i64 (i:Int)])=some (0,vec [.sl (limbs (toL (b ^ n)))]):=by
 have hmin:minV (.int .i64 (n:Int)) [.int .i64 1300]=some (.int .i64 (n:Int)):=by
  simp only[minV,if_pos];congr 2;rw[if_neg (by omega)]
 induction k with
 | zero=>
  intro i hi
  have e:i=n:=by omega
  subst e
  apply loopL_inr
  unfold L_ref01_Pow_1
  have c1 : ¬ ((i:Int)<(i:Int)):=by omega
  simp only[tick_eq,hmin,some_bind,vec_0,vec_s,lss_i,c1,decide_false,asBool_b,zF,if_false]
 | succ k ih=>
  intro i hi
  rw[← ih (i+1) (by omega)]
  apply loopL_inl
  unfold L_ref01_Pow_1
  have c1:(i:Int)<(n:Int):=by omega
  have hl:(toL (b ^ i)).length≤i+1:=by
   apply toL_len
   calc b ^ i≤B32 ^ i:=Nat.pow_le_pow_left (Nat.le_of_lt hb) _
    _<B32 ^ (i+1):=Nat.pow_lt_pow_succ (by decide)
  have hm:=rmul_ok (toL (b ^ i)) [b] (toL_u32 _) (fun x hx=>by simp at hx;rw[hx];exact hb) (by simp;omega)
  rw[nval_toL,show nval [b]=b by simp[nval],← Nat.pow_succ]at hm
  have w2:IntKind.i64.wrap ((i:Int)+1)=((i+1:Nat):Int):=w64 (a:=(i:Int)+1) (by omega)
  have e1:[V.int .u32 (b:Int)]=limbs [b]:=rfl
  simp only[tick_eq,hmin,some_bind,vec_0,vec_s,lss_i,c1,decide_true,asBool_b,if_true,okN_int,tst_t,fld_int,e1,hm,add_i,w2]
theorem rpow_ok(b n:Nat)(hb:b<B32)(hn:n≤1300):P0 f_ref01_Pow [.v (.int .u32 (b:Int)),.v (.int .i64 (n:Int))] []=some (.sl (limbs (toL (b ^ n))),[]):=by
 rw[eq_ref01_Pow];unfold F_ref01_Pow
 have h:=rpow_loop b n hb hn n 0 (by omega)
 rw[Nat.pow_zero,show((0:Nat):Int)=0 from rfl,show limbs (toL 1)=[V.int .u32 1]from rfl]at h
 simp only[tick_eq,h,some_bind,vec_0]
end Go.Ev
