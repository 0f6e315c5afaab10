/- The reference's naturals: shifts. The reference's floats: the number that bits are. -/
import Derived.Test.YtoikjfpefikmpaaDoorKSr2
import Derived.Test.YtoikjfpefikmpaaDoorKSq15
set_option linter.all false
open Option renaming map_some→zC
open List renaming getElem?_eq_getElem→zL,drop_zero→zU,take_of_length_le→zV
open Int renaming natCast_nonneg→zY
namespace Go.Ev
attribute [local irreducible] P0
theorem shift_limb(x s:Nat)(hx:x<B32)(hs:s<32) : ∃ c:Nat,x * 2 ^ s % B32=c * 2 ^ s∧x * 2 ^ s / B32<2 ^ s∧x * 2 ^ s<18446744073709551616:=by
 have e:B32=2 ^ (32 - s) * 2 ^ s:=by rw[← Nat.pow_add,show 32 - s+s=32 by omega];rfl
 refine⟨x % 2 ^ (32 - s),?_,?_,?_⟩
 ·rw[e,Nat.mul_mod_mul_right]
 ·rw[Nat.div_lt_iff_lt_mul (by decide),Nat.mul_comm]
  exact Nat.mul_lt_mul_of_pos_left hx (Nat.pow_pos (by decide))
 ·calc x * 2 ^ s<B32 * 2 ^ s:=Nat.mul_lt_mul_of_pos_right hx (Nat.pow_pos (by decide))
   _≤B32 * 2 ^ 32:=Nat.mul_le_mul_left _ (Nat.pow_le_pow_right (by decide) (by omega))
   _=18446744073709551616:=by decide
theorem rshift_loop(l:List Nat)(n:Nat)(q5:Nat×Nat)(hq:q5.1=l.length+n / 32+1)(hu:U32 l)(hl:l.length≤10000)(hn:n≤10000)(k:Nat) :
  ∀ (i:Nat) (o:List Nat),i+k=l.length→U32 o→o.length=l.length+n / 32+1→(∀ t,i+n / 32+1≤t→lat o t=0)→lat o (i+n / 32)<2 ^ (n % 32)→nval o=nval (l.take i) * 2 ^ n →
  ∃ o':List Nat,loopL (L_ref01_Shift_1 (.sl (limbs l)) (.int .i64 (n:Int)) q5) (vec [.int .i64 (i:Int),.sl (limbs o)])=some (0,vec [.sl (limbs o')])∧U32 o'∧o'.length=l.length+n / 32+1∧nval o'=nval l * 2 ^ n:=by
 induction k with
 | zero=>
  intro i o hi hu' ho hz hlow hv
  have e:i=l.length:=by omega
  subst e
  refine⟨o,?_,hu',ho,by rw[List.take_length]at hv;exact hv⟩
  apply loopL_inr
  unfold L_ref01_Shift_1
  apply yes;simp
 | succ k ih=>
  intro i o hi hu' ho hz hlow hv
  have hB:B32=4294967296:=rfl
  have hil:i<l.length:=by omega
  have hx:lat l i<B32:=lat_lt hu i
  have ex:l[i]?=some (lat l i):=by unfold lat;rw[zL hil];rfl
  have hs:n % 32<32:=Nat.mod_lt _ (by decide)
  obtain⟨c,hc1,hc2,hc3⟩:=shift_limb (lat l i) (n % 32) hx hs
  have htk:=nval_take_succ l i
  generalize hxe:lat l i=x at *
  have hj1:i+n / 32<o.length:=by omega
  have ez1:o[i+n / 32]?=some (lat o (i+n / 32)):=by unfold lat;rw[zL hj1];rfl
  have hvl:x * 2 ^ (n % 32) % B32<B32:=Nat.mod_lt _ (by decide)
  have hol:lat o (i+n / 32)<B32:=lat_lt hu' _
  have hor1:=or_u32 (lat o (i+n / 32)) (x * 2 ^ (n % 32) % B32) hol hvl
  have hor1':lat o (i+n / 32) ||| x * 2 ^ (n % 32) % B32=lat o (i+n / 32)+x * 2 ^ (n % 32) % B32:=by rw[hc1];exact or_hi _ _ _ hlow
  have hlt1:lat o (i+n / 32)+x * 2 ^ (n % 32) % B32<B32:=by
   rw[← hor1']
   have:B32=2 ^ 32:=rfl
   rw[this]at hol hvl ⊢
   exact Nat.or_lt_two_pow hol hvl
  rw[hor1']at hor1
  have hset1:=nval_set o (i+n / 32) (lat o (i+n / 32)+x * 2 ^ (n % 32) % B32) hj1
  have hz2:lat (o.set (i+n / 32) (lat o (i+n / 32)+x * 2 ^ (n % 32) % B32)) (i+n / 32+1)=0:=by
   rw[lat_set_ne _ _ _ _ (by omega)];exact hz _ (by omega)
  have hu1:=u32_set hu' hlt1 (i+n / 32)
  generalize ho1:o.set (i+n / 32) (lat o (i+n / 32)+x * 2 ^ (n % 32) % B32)=o1 at *
  have hlen1:o1.length=o.length:=by rw[← ho1];simp
  have hz3 : ∀ t,i+1+n / 32+1≤t→lat o1 t=0:=fun t ht=>by rw[← ho1,lat_set_ne _ _ _ _ (by omega)];exact hz t (by omega)
  have hj2:i+n / 32+1<o1.length:=by omega
  have ez2:o1[i+n / 32+1]?=some 0:=by
   rw[← hz2];unfold lat;rw[zL hj2];rfl
  have hhi:x * 2 ^ (n % 32) / B32<B32:=Nat.lt_trans hc2 (by
   have:B32=2 ^ 32:=rfl
   rw[this];exact Nat.pow_lt_pow_right (by decide) hs)
  have hor2:=or_u32 0 (x * 2 ^ (n % 32) / B32) (by decide) hhi
  rw[Nat.zero_or]at hor2
  have hset2:=nval_set o1 (i+n / 32+1) (x * 2 ^ (n % 32) / B32) hj2
  rw[hz2,Nat.mul_zero,Nat.add_zero]at hset2
  have hdm:=Nat.div_add_mod (x * 2 ^ (n % 32)) B32
  have hpn:2 ^ n=B32 ^ (n / 32) * 2 ^ (n % 32):=by rw[B32_pow,← Nat.pow_add];congr 1;omega
  obtain⟨o',g1,g2⟩:=ih (i+1) (o1.set (i+n / 32+1) (x * 2 ^ (n % 32) / B32)) (by omega) (u32_set hu1 hhi _) (by simp;omega)
   (fun t ht=>by rw[lat_set_ne _ _ _ _ (by omega)];exact hz3 t ht)
   (by rw[show i+1+n / 32=i+n / 32+1 by omega,lat_set_self _ _ _ hj2];exact hc2)
   (by
    rw[hset2,htk,Nat.add_mul]
    have e1:B32 ^ i * x * 2 ^ n=B32 ^ (i+n / 32) * (x * 2 ^ (n % 32)):=by rw[hpn,Nat.pow_add];ac_rfl
    rw[e1,Nat.pow_succ]
    have h6:=congrArg (B32 ^ (i+n / 32) * ·) hdm
    simp only[Nat.mul_add]at h6
    rw[Nat.mul_add]at hset1
    rw[Nat.mul_assoc]
    omega)
  refine⟨o',?_,g2⟩
  rw[← g1]
  apply loopL_inl
  unfold L_ref01_Shift_1
  have c1:(i:Int)<(l.length:Int):=by omega
  have hn0:(0:Int)≤(n:Int):=by omega
  have h32:(32:Int)≠0:=by decide
  have q32:(n:Int).tdiv 32=((n / 32:Nat):Int):=by rw[Int.tdiv_eq_ediv_of_nonneg hn0];omega
  have r32:(n:Int).tmod 32=((n % 32:Nat):Int):=by rw[Int.tmod_eq_emod_of_nonneg hn0];omega
  have w0:=wu64 (a:=(x:Int)) (by omega)
  have w1:=w64 (a:=((n / 32:Nat):Int)) (by omega)
  have w2:=wu64 (a:=((n % 32:Nat):Int)) (by omega)
  have w3:IntKind.i64.wrap ((i:Int)+((n / 32:Nat):Int))=((i+n / 32:Nat):Int):=w64 (a:=(i:Int)+((n / 32:Nat):Int)) (by omega)
  have w4:IntKind.i64.wrap (((i+n / 32:Nat):Int)+1)=((i+n / 32+1:Nat):Int):=w64 (a:=((i+n / 32:Nat):Int)+1) (by omega)
  have w5:IntKind.i64.wrap ((i:Int)+1)=((i+1:Nat):Int):=w64 (a:=(i:Int)+1) (by omega)
  have hsh:=shl_u64 x .u64 (n % 32) (by omega) hc3
  have hp2:(2:Int) ^ Nat.min (32:Int).toNat (IntKind.bits .u64)=4294967296:=by decide
  generalize hvv:x * 2 ^ (n % 32)=v at *
  have w6:IntKind.u32.wrap (v:Int)=((v % B32:Nat):Int):=by rw[IntKind.wrap_u32,hB];omega
  have w7:IntKind.u32.wrap ((v / B32:Nat):Int)=((v / B32:Nat):Int):=wu32 ⟨zY _,Int.ofNat_le.2 (show v / B32≤4294967295 by omega)⟩
  have e9:(v:Int).fdiv 4294967296=((v / B32:Nat):Int):=by rw[Int.fdiv_eq_ediv_of_nonneg _ (by decide),hB];omega
  simp only[tick_eq,vec_0,vec_s,lenV_sl,limbs_len,lss_i,some_bind,c1,decide_true,asBool_b,if_pos,asSl_limbs,idx_nat _ i l.length hil,limbs_get,ex,zC,fld_int,cvi_i,w0,rem_i _ _ _ h32,r32,w2,hsh,quo_i _ _ _ h32,q32,w1,add_i,w3,hq,idx_nat _ (i+n / 32) (l.length+n / 32+1) (by omega),elems_sl,Nat.zero_add,ez1,w6,hor1,okN_int,tst_t,w4,
   idx_nat _ (i+n / 32+1) (l.length+n / 32+1) (by omega),limbs_set,ho1,ez2,shr_i _ _ _ _ (show(0:Int)≤32 by decide),hp2,e9,w7,hor2,w5]
theorem rshift_ok(l:List Nat)(n:Nat)(hu:U32 l)(hl:l.length≤1000)(hn:n≤10000):P0 f_ref01_Shift [.v (.sl (limbs l)),.v (.int .i64 (n:Int))] []=some (.sl (limbs (toL (nval l * 2 ^ n))),[]):=by
 rw[eq_ref01_Shift];unfold F_ref01_Shift
 obtain⟨o,h1,h2,h3,h4⟩:=rshift_loop l n (l.length+n / 32+1,l.length+n / 32+1) rfl hu (by omega) hn l.length 0 (List.replicate (l.length+n / 32+1) 0) (by omega) (u32_rep _) (by simp) (fun t _=>lat_rep _ _) (by rw[lat_rep];exact Nat.pow_pos (by decide)) (by rw[nval_rep];simp[nval])
 have hn0:(0:Int)≤(n:Int):=by omega
 have h32:(32:Int)≠0:=by decide
 have q32:(n:Int).tdiv 32=((n / 32:Nat):Int):=by rw[Int.tdiv_eq_ediv_of_nonneg hn0];omega
 have w1:=w64 (a:=((n / 32:Nat):Int)) (by omega)
 have w3:IntKind.i64.wrap ((l.length:Int)+((n / 32:Nat):Int))=((l.length+n / 32:Nat):Int):=w64 (a:=(l.length:Int)+((n / 32:Nat):Int)) (by omega)
 have w4:IntKind.i64.wrap (((l.length+n / 32:Nat):Int)+1)=((l.length+n / 32+1:Nat):Int):=w64 (a:=((l.length+n / 32:Nat):Int)+1) (by omega)
 rw[show((0:Nat):Int)=0 from rfl]at h1
 apply yes
 simp only[tick_eq,lenV_sl,some_bind,limbs_len,quo_i _ _ _ h32,q32,w1,add_i,w3,w4,mks_n 4 (l.length+n / 32+1) (by omega) (by omega),limbs_rep',h1,vec_0,elems_sl,zU,limbs_take]
 rw[zV (by omega),rnorm_ok o (by omega) h2,h4]
 simp
end Go.Ev
