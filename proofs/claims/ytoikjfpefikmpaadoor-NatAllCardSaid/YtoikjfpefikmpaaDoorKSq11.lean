/- Naturals: how many bits; quotients. -/
import Derived.Test.YtoikjfpefikmpaaDoorKSq10
import Derived.Test.YtoikjfpefikmpaaDoorKSq4a
set_option linter.all false
open Option renaming map_some→zC
open Bool renaming false_eq_true→zF
open List renaming getElem?_eq_getElem→zL
open Nat renaming le_refl→zR
open Int renaming natCast_nonneg→zY
namespace Go.Ev
attribute [local irreducible] P0
def tab8:List UInt8:=(List.range 256).map fun i=>UInt8.ofNat (bl i)
theorem tab8_get(x:Nat)(hx:x<256):tab8[x]?=some (UInt8.ofNat (bl x)):=by
 unfold tab8;simp[hx]
theorem bl8{x:Nat}(hx:x<256):bl x≤8:=bl_mono_lt (k:=8) hx
theorem ixs_len(L:List UInt8)(x:Nat)(hx:x<256)(hL:L=tab8):ixsV (.str L) (.int .u8 (x:Int))=some (.int .u8 (bl x:Int)):=by
 subst hL
 rw[ixs_nat tab8 .u8 x _ (tab8_get x hx)]
 have h:=bl8 hx
 have e:(UInt8.ofNat (bl x)).toNat=bl x:=by
  rw[UInt8.toNat_ofNat'];exact Nat.mod_eq_of_lt (by omega)
 rw[e]
theorem shr_u32(a:Nat)(k:IntKind)(n:Nat)(h:n<32):binV .shr (.int .u32 (a:Int)) (.int k (n:Int))=some (.int .u32 ((a / 2 ^ n:Nat):Int)):=by
 rw[shr_i _ _ _ _ (zY n),Int.toNat_natCast]
 have e:Nat.min n (IntKind.bits .u32)=n:=Nat.min_eq_left (by show n≤32;omega)
 rw[e,Int.fdiv_eq_ediv_of_nonneg _ (Int.le_of_lt (Int.pow_pos (by decide)))]
 have e2:((2:Int) ^ n)=((2 ^ n:Nat):Int):=by simp
 rw[e2,← Int.natCast_ediv]
set_option maxRecDepth 10000 in
theorem len32_ok(x:Nat)(hx:x<B32):P0 f_math_bits_Len32 [.v (.int .u32 (x:Int))] []=some (.int .i64 (bl x:Int),[]):=by
 have hB:B32=4294967296:=rfl
 rw[eq_math_bits_Len32];unfold F_math_bits_Len32
 have s16 : ∀ y:Nat,binV .shr (.int .u32 (y:Int)) (.int .u64 16)=some (.int .u32 ((y / 2 ^ 16:Nat):Int)):=fun y=>shr_u32 y .u64 16 (by decide)
 have s8 : ∀ y:Nat,binV .shr (.int .u32 (y:Int)) (.int .u64 8)=some (.int .u32 ((y / 2 ^ 8:Nat):Int)):=fun y=>shr_u32 y .u64 8 (by decide)
 have u8 : ∀ y:Nat,y<256→IntKind.u8.wrap (y:Int)=(y:Int):=fun y h=>IntWalk.u8_in _ (by omega)
 have fin : ∀ (y s:Nat),y<256→s≤24→IntKind.i64.wrap ((s:Int)+IntKind.i64.wrap (bl y:Int))=((s+bl y:Nat):Int):=fun y s h1 h2=>by
  have:=bl8 h1
  rw[w64 (a:=(bl y:Int)) (by omega)]
  exact w64 (by omega)
 have p16:(2:Nat) ^ 16=65536:=by decide
 have p8:(2:Nat) ^ 8=256:=by decide
 by_cases c1:65536≤x
 ·have c1':(65536:Int)≤(x:Int):=by omega
  have b1:bl x=16+bl (x / 2 ^ 16):=bl_shift (by rw[p16];omega)
  simp only[geq_i,c1',decide_true,some_bind,asBool_b,if_true,s16,vec_0,vec_s]
  generalize hy:x / 2 ^ 16=y at *
  rw[p16]at hy
  by_cases c2:256≤y
  ·have c2':(256:Int)≤(y:Int):=by omega
   have b2:bl y=8+bl (y / 2 ^ 8):=bl_shift (by rw[p8];omega)
   simp only[c2',decide_true,if_true,s8,some_bind,add_i,vec_0,vec_s]
   generalize hz:y / 2 ^ 8=z at *
   rw[p8]at hz
   have hz2:z<256:=by omega
   simp only[cvi_i,u8 z hz2,some_bind]
   rw[ixs_len _ z hz2]
   ·have:=fin z 24 hz2 (by decide)
    have e24:IntKind.i64.wrap (16+8)=((24:Nat):Int):=by decide
    simp only[some_bind,cvi_i,add_i,e24,this]
    rw[b1,b2,← Nat.add_assoc]
   ·kernel_rfl
  ·have c2' : ¬ (256:Int)≤(y:Int):=by omega
   have hy2:y<256:=by omega
   simp only[c2',decide_false,zF,if_false,some_bind,vec_0,vec_s,cvi_i,u8 y hy2]
   rw[ixs_len _ y hy2]
   ·have:=fin y 16 hy2 (by decide)
    simp only[some_bind,cvi_i,add_i]
    rw[show(16:Int)=((16:Nat):Int)from rfl,this,b1]
   ·kernel_rfl
 ·have c1' : ¬ (65536:Int)≤(x:Int):=by omega
  simp only[geq_i,c1',decide_false,zF,some_bind,asBool_b,if_false,vec_0,vec_s]
  by_cases c2:256≤x
  ·have c2':(256:Int)≤(x:Int):=by omega
   have b2:bl x=8+bl (x / 2 ^ 8):=bl_shift (by rw[p8];omega)
   simp only[c2',decide_true,if_true,s8,some_bind,add_i,vec_0,vec_s]
   generalize hz:x / 2 ^ 8=z at *
   rw[p8]at hz
   have hz2:z<256:=by omega
   simp only[cvi_i,u8 z hz2,some_bind]
   rw[ixs_len _ z hz2]
   ·have:=fin z 8 hz2 (by decide)
    have e8:IntKind.i64.wrap (0+8)=((8:Nat):Int):=by decide
    simp only[some_bind,cvi_i,add_i,e8,this]
    rw[b2]
   ·kernel_rfl
  ·have c2' : ¬ (256:Int)≤(x:Int):=by omega
   have hy2:x<256:=by omega
   simp only[c2',decide_false,zF,if_false,some_bind,vec_0,vec_s,cvi_i,u8 x hy2]
   rw[ixs_len _ x hy2]
   ·have:=fin x 0 hy2 (by decide)
    simp only[some_bind,cvi_i,add_i]
    rw[show(0:Int)=((0:Nat):Int)from rfl,this,Nat.zero_add]
   ·kernel_rfl
theorem bits_loop(l:List Nat)(n:Nat)(hn:n≤l.length)(hl:l.length≤1000000):loopL (L_nat_Bits_1 (.sl (limbs l))) (vec [.int .i64 ((n:Int) - 1)])=some (0,vec [.int .i64 ((top l n:Nat) - 1:Int)]):=by
 induction n with
 | zero=>
  apply loopL_inr
  unfold L_nat_Bits_1
  apply yes;simp[top]
 | succ n ih=>
  have hx:l[n]?=some l[n]:=zL (by omega)
  have h1:((n+1:Nat):Int) - 1=n:=by omega
  have h2:(0:Int)≤(n:Int):=by omega
  have w:=w64 (a:=(n:Int) - 1) (by omega)
  by_cases h0:l[n]=0
  ·rw[loopL_inl (a':=vec [.int .i64 ((n:Int) - 1)])]
   ·rw[ih (by omega)];simp[top,hx,h0]
   ·unfold L_nat_Bits_1
    simp only[vec_0,geq_i,some_bind,asBool_b,decide_true,h2,if_pos,sub_i,h1,w,asSl_limbs,limbs_len,idx_nat _ n l.length (by omega),limbs_get,hx,zC,fld_int,eql_i,h0]
    simp
  ·have ht:top l (n+1)=n+1:=by unfold top;rw[hx];split<;>simp_all
   rw[ht]
   apply loopL_inr
   unfold L_nat_Bits_1
   simp only[vec_0,geq_i,some_bind,asBool_b,decide_true,h2,if_pos,h1,asSl_limbs,limbs_len,idx_nat _ n l.length (by omega),limbs_get,hx,zC,fld_int,eql_i]
   simp[h0]
theorem bl_nval(l:List Nat)(hu:U32 l)(h:top l l.length≠0):bl (nval l)=32 * (top l l.length - 1)+bl (lat l (top l l.length - 1))∧lat l (top l l.length - 1)≠0:=by
 have h1:=nval_norm l
 have hle:=top_le l l.length
 obtain⟨t,ht⟩ : ∃ t,top l l.length=t+1:=⟨top l l.length - 1,by omega⟩
 have hne:lat l t≠0:=by
  rcases top_last l l.length (zR _)with h2 | h2
  ·omega
  ·intro h3
   apply h2
   rw[ht,Nat.add_sub_cancel]
   unfold lat at h3
   rw[zL (by omega)]at h3 ⊢
   simpa using h3
 unfold norm at h1
 rw[ht,nval_take_succ]at h1
 rw[ht,Nat.add_sub_cancel,← h1,B32_pow]
 exact⟨bl_add (by rw[← B32_pow];exact take_lt l hu t) hne,hne⟩
theorem nbits_ok(l:List Nat)(hu:U32 l)(hl:l.length≤1000000):P0 f_nat_Bits [.v (.sl (limbs l))] []=some (.int .i64 (bl (nval l):Int),[]):=by
 rw[eq_nat_Bits];unfold F_nat_Bits
 have hle:=top_le l l.length
 have w:=w64 (a:=(l.length:Int) - 1) (by omega)
 simp only[lenV_sl,some_bind,limbs_len,w,bits_loop l l.length (zR _) hl,vec_0,lss_i,asBool_b]
 by_cases h0:top l l.length=0
 ·have h1:nval l=0:=by
   have:=nval_norm l
   unfold norm at this
   rw[h0]at this
   simpa[nval]using this.symm
  rw[h0,h1]
  apply yes;simp[bl_zero]
 ·obtain⟨h1,h2⟩:=bl_nval l hu h0
  obtain⟨t,ht⟩ : ∃ t,top l l.length=t+1:=⟨top l l.length - 1,by omega⟩
  rw[ht,Nat.add_sub_cancel]at h1 h2
  have e1:((top l l.length:Nat):Int) - 1=(t:Int):=by omega
  have hx:l[t]?=some (lat l t):=by unfold lat;rw[zL (by omega)];rfl
  have h3:=len32_ok (lat l t) (lat_lt hu t)
  have hb:=bl_mono_lt (k:=32) (lat_lt hu t)
  have w1:=w64 (a:=32 * (t:Int)) (by omega)
  have w2:=w64 (a:=32 * (t:Int)+(bl (lat l t):Int)) (by omega)
  have c1 : ¬ ((t:Int)<0):=by omega
  rw[e1,h1]
  simp only[c1,decide_false,zF,if_false,mul_i,some_bind,w1,asSl_limbs,limbs_len,idx_nat _ t l.length (by omega),limbs_get,hx,zC,fld_int,h3,add_i,w2]
  congr 3
end Go.Ev
