/- Texts of UTF-8: the library's decoding is the model's. -/
import Derived.Test.YtdhfnobijejpcaaDoorKSq4a
import Derived.Test.YtdhfnobijejpcaaDoorKSq3
import Derived.Lib.DecodeN
set_option linter.all false
open Option renaming map_some→zC
open Bool renaming false_eq_true→zF,not_false→zI,true_eq_false→zX
open List renaming getElem?_eq_getElem→zL,getElem?_cons_zero→zM,getElem?_cons_succ→zN
open Int renaming natCast_nonneg→zY
namespace Go.Ev
attribute [local irreducible] P0
open Go.Lib (decodeN firstT slowN)
def B(s:Str)(i:Nat):Nat:=(s[i]?.getD 0).toNat
def ud(s:Str)(i:Nat):Nat×Nat:=Utf8.decode ⟨s.toArray⟩ i
theorem B_lt(s:Str)(i:Nat):B s i<256:=(s[i]?.getD 0).toNat_lt
theorem get_b(s:Str)(i:Nat):((ByteArray.mk s.toArray).get! i).toNat=B s i:=by
 unfold B ByteArray.get!
 congr 1
 simp[Array.getElem!_eq_getD,Array.getD_eq_getD_getElem?]
 rfl
theorem ud_eq(s:Str)(i:Nat):ud s i=decodeN (s.length - i) (B s i) (B s (i+1)) (B s (i+2)) (B s (i+3)):=by
 unfold ud
 rw[Go.Lib.decode_at,get_b,get_b,get_b,get_b]
 congr 1
theorem tab256{α:Type}{f g:Nat→α}(h:(List.range 256).map f=(List.range 256).map g)(c:Nat)(hc:c<256):f c=g c:=by
 have h2:=congrArg (·[c]?) h
 simp only[List.getElem?_map,List.getElem?_range hc,zC]at h2
 exact Option.some.inj h2
theorem first_tab:(List.range 256).map (fun(b:Nat)=>(G_0.drop (b * 1))[0]?)=(List.range 256).map (fun(b:Nat)=>some (V.int .u8 (firstT b:Nat))):=by kernel_rfl
theorem andnot_tab:(List.range 256).map (fun(b:Nat)=>binV .andNot (.int .i32 (b:Int)) (.int .i32 (-1)))=(List.range 256).map (fun(b:Nat)=>some (V.int .i32 0)):=by kernel_rfl
theorem and31_tab:(List.range 256).map (fun(b:Nat)=>binV .and (.int .u8 (b:Int)) (.int .u8 31))=(List.range 256).map (fun(b:Nat)=>some (V.int .u8 ((b % 32:Nat):Int))):=by kernel_rfl
theorem and15_tab:(List.range 256).map (fun(b:Nat)=>binV .and (.int .u8 (b:Int)) (.int .u8 15))=(List.range 256).map (fun(b:Nat)=>some (V.int .u8 ((b % 16:Nat):Int))):=by kernel_rfl
theorem and7_tab:(List.range 256).map (fun(b:Nat)=>binV .and (.int .u8 (b:Int)) (.int .u8 7))=(List.range 256).map (fun(b:Nat)=>some (V.int .u8 ((b % 8:Nat):Int))):=by kernel_rfl
theorem and63_tab:(List.range 256).map (fun(b:Nat)=>binV .and (.int .u8 (b:Int)) (.int .u8 63))=(List.range 256).map (fun(b:Nat)=>some (V.int .u8 ((b % 64:Nat):Int))):=by kernel_rfl
theorem w32n(n:Nat)(h:n<2147483648):IntKind.i32.wrap (n:Int)=(n:Int):=IntWalk.i32_in (n:Int) (by omega)
theorem shl32(a k:Nat)(hk:k<32)(h:a * 2 ^ k<2147483648):binV .shl (.int .i32 (a:Int)) (.int .u64 (k:Int))=some (.int .i32 ((a * 2 ^ k:Nat):Int)):=by
 rw[shl_i _ _ _ _ (zY k),Int.toNat_natCast]
 have e:Nat.min k (IntKind.bits .i32)=k:=Nat.min_eq_left (by show k≤32;omega)
 have e2:(a:Int) * (2:Int) ^ k=((a * 2 ^ k:Nat):Int):=by simp
 rw[e,e2,w32n _ h]
theorem or32(q k c:Nat)(hc:c<2 ^ k)(h:q * 2 ^ k+c<2147483648):binV .or (.int .i32 ((q * 2 ^ k:Nat):Int)) (.int .i32 (c:Int))=some (.int .i32 ((q * 2 ^ k+c:Nat):Int)):=by
 have e1:(BitVec.ofInt 32 ((q * 2 ^ k:Nat):Int)).toNat=q * 2 ^ k:=by rw[BitVec.toNat_ofInt];omega
 have e2:(BitVec.ofInt 32 (c:Int)).toNat=c:=by rw[BitVec.toNat_ofInt];omega
 have h2:=Nat.two_pow_add_eq_or_of_lt hc q
 rw[Nat.mul_comm]at h2
 have hb:bits .or .i32 ((q * 2 ^ k:Nat):Int) (c:Int)=((q * 2 ^ k+c:Nat):Int):=by
  show IntKind.i32.wrap ((BitVec.ofInt 32 ((q * 2 ^ k:Nat):Int) ||| BitVec.ofInt 32 (c:Int)).toNat:Nat)=_
  rw[BitVec.toNat_or,e1,e2,← h2,w32n _ h]
 simp only[binV,intV,isShift,decide_true,Bool.or_true,if_pos,hb]
theorem B_at{s:Str}{i:Nat}(h:i<s.length) : ∃ b,s[i]?=some b∧b.toNat=B s i:=by
 refine⟨s[i],zL h,?_⟩
 unfold B;rw[zL h];rfl
theorem ixs_B(s:Str)(k:IntKind)(i:Nat)(h:i<s.length):ixsV (.str s) (.int k (i:Int))=some (.int .u8 (B s i:Int)):=by
 obtain⟨b,h1,h2⟩:=B_at h
 rw[ixs_nat s k i b h1,h2]
/-- the road for a first byte whose row is below the marks: sz bytes, the second between lo and hi -/
theorem slow_gen(s:Str)(sz lo hi i:Nat)(c4:Nat)(hn:1≤s.length)(hl:s.length≤1000000000)(h1:(G_0.drop (B s 0 * 1))[0]?=some (.int .u8 (c4:Int)))(h2:c4<240)(h3:binV .and (.int .u8 (c4:Int)) (.int .u8 7)=some (.int .u8 (sz:Int)))(h4:binV .shr (.int .u8 (c4:Int)) (.int .u64 4)=some (.int .u8 (i:Int)))(h5:i<16)
  (h6:(G_1.drop (i * 2)).take 2=[.int .u8 (lo:Int),.int .u8 (hi:Int)]) (h7:Nat.ble 2 (G_1.drop (i * 2)).length=true) (hz:2≤sz∧sz≤4) :
  P0 f_u8_decodeRuneInStringSlow [.v (.str s)] []=some (.tup [.int .i32 ((slowN s.length (B s 0) (B s 1) (B s 2) (B s 3) sz lo hi).1:Int),.int .i64 ((slowN s.length (B s 0) (B s 1) (B s 2) (B s 3) sz lo hi).2:Int)],[]):=by
 rw[eq_u8_decodeRuneInStringSlow];unfold F_u8_decodeRuneInStringSlow slowN
 have dT : ∀ {p:Prop} [Decidable p],p→decide p=true:=fun h=>decide_eq_true h
 have dF : ∀ {p:Prop} [Decidable p],¬ p→decide p=false:=fun h=>decide_eq_false h
 have d1:decide (((s.length:Nat):Int)<1)=false:=dF (by omega)
 have d2:decide ((240:Int)≤(c4:Int))=false:=dF (by omega)
 have i0:ixsV (.str s) (.int .i64 0)=some (.int .u8 (B s 0:Int)):=ixs_B s .i64 0 (by omega)
 have wsz:IntKind.i64.wrap (sz:Int)=(sz:Int):=w64 (by omega)
 have l0:=B_lt s 0
 have l1:=B_lt s 1
 have l2:=B_lt s 2
 have l3:=B_lt s 3
 have okA:okN 2 (V.agg [.int .u8 (lo:Int),.int .u8 (hi:Int)])=true:=rfl
 by_cases g1:s.length<sz
 ·have e1:decide ((s.length:Int)<(sz:Int))=true:=dT (by omega)
  rw[if_pos g1]
  simp only[tick_eq,lns_s,some_bind,d1,zF,if_false,i0,idx_nat _ (B s 0) 256 l0,h1,geq_i,d2,asBool_b,h3,cvi_i,wsz,h4,idx_nat _ i 16 h5,h7,tst_t,h6,okA,lss_i,e1,if_true]
  rfl
 have e1:decide ((s.length:Int)<(sz:Int))=false:=dF (by omega)
 rw[if_neg g1]
 have i1:ixsV (.str s) (.int .i64 1)=some (.int .u8 (B s 1:Int)):=ixs_B s .i64 1 (by omega)
 by_cases g2:B s 1<lo∨hi<B s 1
 ·rw[if_pos g2]
  by_cases g3:B s 1<lo
  ·have e2:decide ((B s 1:Int)<(lo:Int))=true:=dT (by omega)
   simp only[tick_eq,lns_s,some_bind,d1,zF,if_false,i0,idx_nat _ (B s 0) 256 l0,h1,geq_i,d2,asBool_b,h3,cvi_i,wsz,h4,idx_nat _ i 16 h5,h7,tst_t,h6,okA,lss_i,e1,if_true,i1,fld_agg,zM,zN,e2,zX]
   rfl
  ·have e2:decide ((B s 1:Int)<(lo:Int))=false:=dF (by omega)
   have e3:decide ((hi:Int)<(B s 1:Int))=true:=dT (by omega)
   simp only[tick_eq,lns_s,some_bind,d1,zF,if_false,i0,idx_nat _ (B s 0) 256 l0,h1,geq_i,d2,asBool_b,h3,cvi_i,wsz,h4,idx_nat _ i 16 h5,h7,tst_t,h6,okA,lss_i,e1,if_true,i1,fld_agg,zM,zN,e2,e3]
   rfl
 rw[if_neg g2]
 have e2:decide ((B s 1:Int)<(lo:Int))=false:=dF (by omega)
 have e3:decide ((hi:Int)<(B s 1:Int))=false:=dF (by omega)
 have m1:binV .and (.int .u8 (B s 1:Int)) (.int .u8 63)=some (.int .u8 ((B s 1 % 64:Nat):Int)):=tab256 and63_tab (B s 1) l1
 have m2:binV .and (.int .u8 (B s 2:Int)) (.int .u8 63)=some (.int .u8 ((B s 2 % 64:Nat):Int)):=tab256 and63_tab (B s 2) l2
 have m3:binV .and (.int .u8 (B s 3:Int)) (.int .u8 63)=some (.int .u8 ((B s 3 % 64:Nat):Int)):=tab256 and63_tab (B s 3) l3
 have k1:B s 1 % 64<64:=Nat.mod_lt _ (by decide)
 have k2:B s 2 % 64<64:=Nat.mod_lt _ (by decide)
 have k3:B s 3 % 64<64:=Nat.mod_lt _ (by decide)
 by_cases g4:sz≤2
 ·have e4:decide ((sz:Int)≤2)=true:=dT (by omega)
  have a0:binV .and (.int .u8 (B s 0:Int)) (.int .u8 31)=some (.int .u8 ((B s 0 % 32:Nat):Int)):=tab256 and31_tab (B s 0) l0
  have k0:B s 0 % 32<32:=Nat.mod_lt _ (by decide)
  have s0:binV .shl (.int .i32 ((B s 0 % 32:Nat):Int)) (.int .u64 6)=some (.int .i32 ((B s 0 % 32 * 2 ^ 6:Nat):Int)):=shl32 _ 6 (by decide) (by omega)
  have o0:=or32 (B s 0 % 32) 6 (B s 1 % 64) (by omega) (by omega)
  rw[if_pos g4]
  simp only[tick_eq,lns_s,some_bind,d1,zF,if_false,i0,idx_nat _ (B s 0) 256 l0,h1,geq_i,d2,asBool_b,h3,cvi_i,wsz,h4,idx_nat _ i 16 h5,h7,tst_t,h6,okA,lss_i,e1,if_true,i1,fld_agg,zM,zN,e2,e3,leq_i,e4,a0,w32n (B s 0 % 32) (by omega),s0,m1,w32n (B s 1 % 64) (by omega),o0]
  rfl
 have e4:decide ((sz:Int)≤2)=false:=dF (by omega)
 have i2:ixsV (.str s) (.int .i64 2)=some (.int .u8 (B s 2:Int)):=ixs_B s .i64 2 (by omega)
 rw[if_neg g4]
 by_cases g5:B s 2<128∨191<B s 2
 ·rw[if_pos g5]
  by_cases g6:B s 2<128
  ·have e5:decide ((B s 2:Int)<128)=true:=dT (by omega)
   simp only[tick_eq,lns_s,some_bind,d1,zF,if_false,i0,idx_nat _ (B s 0) 256 l0,h1,geq_i,d2,asBool_b,h3,cvi_i,wsz,h4,idx_nat _ i 16 h5,h7,tst_t,h6,okA,lss_i,e1,if_true,i1,fld_agg,zM,zN,e2,e3,leq_i,e4,i2,e5,zX]
   rfl
  ·have e5:decide ((B s 2:Int)<128)=false:=dF (by omega)
   have e6:decide ((191:Int)<(B s 2:Int))=true:=dT (by omega)
   simp only[tick_eq,lns_s,some_bind,d1,zF,if_false,i0,idx_nat _ (B s 0) 256 l0,h1,geq_i,d2,asBool_b,h3,cvi_i,wsz,h4,idx_nat _ i 16 h5,h7,tst_t,h6,okA,lss_i,e1,if_true,i1,fld_agg,zM,zN,e2,e3,leq_i,e4,i2,e5,e6]
   rfl
 rw[if_neg g5]
 have e5:decide ((B s 2:Int)<128)=false:=dF (by omega)
 have e6:decide ((191:Int)<(B s 2:Int))=false:=dF (by omega)
 by_cases g7:sz≤3
 ·have e7:decide ((sz:Int)≤3)=true:=dT (by omega)
  have a0:binV .and (.int .u8 (B s 0:Int)) (.int .u8 15)=some (.int .u8 ((B s 0 % 16:Nat):Int)):=tab256 and15_tab (B s 0) l0
  have k0:B s 0 % 16<16:=Nat.mod_lt _ (by decide)
  have s0:binV .shl (.int .i32 ((B s 0 % 16:Nat):Int)) (.int .u64 12)=some (.int .i32 ((B s 0 % 16 * 2 ^ 12:Nat):Int)):=shl32 _ 12 (by decide) (by omega)
  have s1:binV .shl (.int .i32 ((B s 1 % 64:Nat):Int)) (.int .u64 6)=some (.int .i32 ((B s 1 % 64 * 2 ^ 6:Nat):Int)):=shl32 _ 6 (by decide) (by omega)
  have o0:=or32 (B s 0 % 16) 12 (B s 1 % 64 * 2 ^ 6) (by omega) (by omega)
  have o1:=or32 (B s 0 % 16 * 64+B s 1 % 64) 6 (B s 2 % 64) (by omega) (by omega)
  rw[show(B s 0 % 16 * 64+B s 1 % 64) * 2 ^ 6=B s 0 % 16 * 2 ^ 12+B s 1 % 64 * 2 ^ 6 by omega]at o1
  rw[if_pos g7]
  simp only[tick_eq,lns_s,some_bind,d1,zF,if_false,i0,idx_nat _ (B s 0) 256 l0,h1,geq_i,d2,asBool_b,h3,cvi_i,wsz,h4,idx_nat _ i 16 h5,h7,tst_t,h6,okA,lss_i,e1,if_true,i1,fld_agg,zM,zN,e2,e3,leq_i,e4,i2,e5,e6,e7,a0,w32n (B s 0 % 16) (by omega),s0,m1,w32n (B s 1 % 64) (by omega),s1,o0,m2,w32n (B s 2 % 64) (by omega),o1]
  rfl
 have e7:decide ((sz:Int)≤3)=false:=dF (by omega)
 have i3:ixsV (.str s) (.int .i64 3)=some (.int .u8 (B s 3:Int)):=ixs_B s .i64 3 (by omega)
 rw[if_neg g7]
 by_cases g8:B s 3<128∨191<B s 3
 ·rw[if_pos g8]
  by_cases g9:B s 3<128
  ·have e8:decide ((B s 3:Int)<128)=true:=dT (by omega)
   simp only[tick_eq,lns_s,some_bind,d1,zF,if_false,i0,idx_nat _ (B s 0) 256 l0,h1,geq_i,d2,asBool_b,h3,cvi_i,wsz,h4,idx_nat _ i 16 h5,h7,tst_t,h6,okA,lss_i,e1,if_true,i1,fld_agg,zM,zN,e2,e3,leq_i,e4,i2,e5,e6,e7,i3,e8,zX]
   rfl
  ·have e8:decide ((B s 3:Int)<128)=false:=dF (by omega)
   have e9:decide ((191:Int)<(B s 3:Int))=true:=dT (by omega)
   simp only[tick_eq,lns_s,some_bind,d1,zF,if_false,i0,idx_nat _ (B s 0) 256 l0,h1,geq_i,d2,asBool_b,h3,cvi_i,wsz,h4,idx_nat _ i 16 h5,h7,tst_t,h6,okA,lss_i,e1,if_true,i1,fld_agg,zM,zN,e2,e3,leq_i,e4,i2,e5,e6,e7,i3,e8,e9]
   rfl
 rw[if_neg g8]
 have e8:decide ((B s 3:Int)<128)=false:=dF (by omega)
 have e9:decide ((191:Int)<(B s 3:Int))=false:=dF (by omega)
 have a0:binV .and (.int .u8 (B s 0:Int)) (.int .u8 7)=some (.int .u8 ((B s 0 % 8:Nat):Int)):=tab256 and7_tab (B s 0) l0
 have k0:B s 0 % 8<8:=Nat.mod_lt _ (by decide)
 have s0:binV .shl (.int .i32 ((B s 0 % 8:Nat):Int)) (.int .u64 18)=some (.int .i32 ((B s 0 % 8 * 2 ^ 18:Nat):Int)):=shl32 _ 18 (by decide) (by omega)
 have s1:binV .shl (.int .i32 ((B s 1 % 64:Nat):Int)) (.int .u64 12)=some (.int .i32 ((B s 1 % 64 * 2 ^ 12:Nat):Int)):=shl32 _ 12 (by decide) (by omega)
 have s2:binV .shl (.int .i32 ((B s 2 % 64:Nat):Int)) (.int .u64 6)=some (.int .i32 ((B s 2 % 64 * 2 ^ 6:Nat):Int)):=shl32 _ 6 (by decide) (by omega)
 have o0:=or32 (B s 0 % 8) 18 (B s 1 % 64 * 2 ^ 12) (by omega) (by omega)
 have o1:=or32 (B s 0 % 8 * 64+B s 1 % 64) 12 (B s 2 % 64 * 2 ^ 6) (by omega) (by omega)
 have o2:=or32 (B s 0 % 8 * 4096+B s 1 % 64 * 64+B s 2 % 64) 6 (B s 3 % 64) (by omega) (by omega)
 rw[show(B s 0 % 8 * 64+B s 1 % 64) * 2 ^ 12=B s 0 % 8 * 2 ^ 18+B s 1 % 64 * 2 ^ 12 by omega]at o1
 rw[show(B s 0 % 8 * 4096+B s 1 % 64 * 64+B s 2 % 64) * 2 ^ 6=B s 0 % 8 * 2 ^ 18+B s 1 % 64 * 2 ^ 12+B s 2 % 64 * 2 ^ 6 by omega]at o2
 simp only[tick_eq,lns_s,some_bind,d1,zF,if_false,i0,idx_nat _ (B s 0) 256 l0,h1,geq_i,d2,asBool_b,h3,cvi_i,wsz,h4,idx_nat _ i 16 h5,h7,tst_t,h6,okA,lss_i,e1,if_true,i1,fld_agg,zM,zN,e2,e3,leq_i,e4,i2,e5,e6,e7,i3,e8,e9,a0,w32n (B s 0 % 8) (by omega),s0,m1,w32n (B s 1 % 64) (by omega),s1,o0,m2,w32n (B s 2 % 64) (by omega),s2,o1,m3,w32n (B s 3 % 64) (by omega),o2]
 rfl
/-- a first byte that begins nothing -/
theorem slow_bad(s:Str)(c4:Nat)(hn:1≤s.length)(h1:(G_0.drop (B s 0 * 1))[0]?=some (.int .u8 (c4:Int)))(h2:c4=241):P0 f_u8_decodeRuneInStringSlow [.v (.str s)] []=some (.tup [.int .i32 65533,.int .i64 1],[]):=by
 subst h2
 rw[eq_u8_decodeRuneInStringSlow];unfold F_u8_decodeRuneInStringSlow
 have d1:decide (((s.length:Nat):Int)<1)=false:=decide_eq_false (by omega)
 have d2:decide ((240:Int)≤((241:Nat):Int))=true:=by decide
 have i0:ixsV (.str s) (.int .i64 0)=some (.int .u8 (B s 0:Int)):=ixs_B s .i64 0 (by omega)
 have l0:=B_lt s 0
 have x8:binV .shl (.int .i32 (IntKind.i32.wrap ((241:Nat):Int))) (.int .u64 31)=some (.int .i32 (-2147483648)):=by kernel_rfl
 have x9:binV .shr (.int .i32 (-2147483648)) (.int .u64 31)=some (.int .i32 (-1)):=by kernel_rfl
 have x12:=tab256 andnot_tab (B s 0) l0
 have x13:binV .and (.int .i32 65533) (.int .i32 (-1))=some (.int .i32 65533):=by kernel_rfl
 have x14:binV .or (.int .i32 0) (.int .i32 65533)=some (.int .i32 65533):=by kernel_rfl
 simp only[tick_eq,lns_s,some_bind,d1,zF,if_false,i0,idx_nat _ (B s 0) 256 l0,h1,geq_i,d2,asBool_b,if_true,cvi_i,x8,x9,w32n (B s 0) (by omega),x12,x13,x14]
theorem dslow_ok(s:Str)(hn:1≤s.length)(hl:s.length≤1000000000)(hb:128≤B s 0):P0 f_u8_decodeRuneInStringSlow [.v (.str s)] []=some (.tup [.int .i32 ((ud s 0).1:Int),.int .i64 ((ud s 0).2:Int)],[]):=by
 have l0:=B_lt s 0
 have l1:=B_lt s 1
 have l2:=B_lt s 2
 have l3:=B_lt s 3
 have h1:(G_0.drop (B s 0 * 1))[0]?=some (.int .u8 ((firstT (B s 0):Nat):Int)):=tab256 first_tab (B s 0) l0
 rw[ud_eq,Nat.sub_zero,Nat.zero_add,Nat.zero_add,Nat.zero_add]
 have bad:(B s 0<194∨245≤B s 0)→firstT (B s 0)=241∧decodeN s.length (B s 0) (B s 1) (B s 2) (B s 3)=(65533,1):=by
  intro h
  constructor
  ·unfold firstT;repeat' split
   all_goals omega
  ·unfold decodeN
   repeat' split
   all_goals first | rfl | (exfalso;omega)
 by_cases g:B s 0<194∨245≤B s 0
 ·obtain⟨e1,e2⟩:=bad g
  rw[slow_bad s _ hn h1 e1,e2];rfl
 by_cases g1:B s 0<224
 ·rw[← Go.Lib.slow_C2 _ _ _ _ _ hn l1 l2 l3 (by omega)]
  exact slow_gen s 2 128 191 0 2 hn hl (by rw[h1];unfold firstT;rw[if_neg (by omega),if_neg (by omega),if_pos (by omega)]) (by decide) (by kernel_rfl) (by kernel_rfl) (by decide) (by kernel_rfl) (by kernel_rfl) (by decide)
 by_cases g2:B s 0=224
 ·rw[← Go.Lib.slow_E0 _ _ _ _ _ hn l1 l2 l3 g2]
  exact slow_gen s 3 160 191 1 19 hn hl (by rw[h1,g2];rfl) (by decide) (by kernel_rfl) (by kernel_rfl) (by decide) (by kernel_rfl) (by kernel_rfl) (by decide)
 by_cases g3:B s 0=237
 ·rw[← Go.Lib.slow_ED _ _ _ _ _ hn l1 l2 l3 g3]
  exact slow_gen s 3 128 159 2 35 hn hl (by rw[h1,g3];rfl) (by decide) (by kernel_rfl) (by kernel_rfl) (by decide) (by kernel_rfl) (by kernel_rfl) (by decide)
 by_cases g4:B s 0<240
 ·rw[← Go.Lib.slow_E1 _ _ _ _ _ hn l1 l2 l3 (by omega)]
  refine slow_gen s 3 128 191 0 3 hn hl ?_ (by decide) (by kernel_rfl) (by kernel_rfl) (by decide) (by kernel_rfl) (by kernel_rfl) (by decide)
  rw[h1];unfold firstT
  rw[if_neg (by omega),if_neg (by omega),if_neg (by omega),if_neg (by omega)]
  by_cases g5:B s 0<237
  ·rw[if_pos g5]
  ·rw[if_neg g5,if_neg g3,if_pos g4]
 by_cases g5:B s 0=240
 ·rw[← Go.Lib.slow_F0 _ _ _ _ _ hn l1 l2 l3 g5]
  exact slow_gen s 4 144 191 3 52 hn hl (by rw[h1,g5];rfl) (by decide) (by kernel_rfl) (by kernel_rfl) (by decide) (by kernel_rfl) (by kernel_rfl) (by decide)
 by_cases g6:B s 0<244
 ·rw[← Go.Lib.slow_F1 _ _ _ _ _ hn l1 l2 l3 (by omega)]
  refine slow_gen s 4 128 191 0 4 hn hl ?_ (by decide) (by kernel_rfl) (by kernel_rfl) (by decide) (by kernel_rfl) (by kernel_rfl) (by decide)
  rw[h1];unfold firstT
  rw[if_neg (by omega),if_neg (by omega),if_neg (by omega),if_neg (by omega),if_neg (by omega),if_neg (by omega),if_neg (by omega),if_neg (by omega),if_pos g6]
 ·have g7:B s 0=244:=by omega
  rw[← Go.Lib.slow_F4 _ _ _ _ _ hn l1 l2 l3 g7]
  exact slow_gen s 4 128 143 4 68 hn hl (by rw[h1,g7];rfl) (by decide) (by kernel_rfl) (by kernel_rfl) (by decide) (by kernel_rfl) (by kernel_rfl) (by decide)
theorem drune_ok(s:Str)(hn:1≤s.length)(hl:s.length≤1000000000):P0 f_u8_DecodeRuneInString [.v (.str s)] []=some (.tup [.int .i32 ((ud s 0).1:Int),.int .i64 ((ud s 0).2:Int)],[]):=by
 rw[eq_u8_DecodeRuneInString];unfold F_u8_DecodeRuneInString
 have i0:ixsV (.str s) (.int .i64 0)=some (.int .u8 (B s 0:Int)):=ixs_B s .i64 0 (by omega)
 have hne:(s == ([]:Str))=false:=by
  cases s with
  | nil=>simp at hn
  | cons a r=>rfl
 have l0:=B_lt s 0
 by_cases g:B s 0<128
 ·have d:decide ((B s 0:Int)<128)=true:=decide_eq_true (by omega)
  have e:ud s 0=(B s 0,1):=by rw[ud_eq];unfold decodeN;rw[if_pos g]
  simp only[tick_eq,neq_s,hne,zI,some_bind,asBool_b,if_true,i0,lss_i,d,cvi_i,w32n (B s 0) (by omega),e]
  rfl
 ·have d:decide ((B s 0:Int)<128)=false:=decide_eq_false (by omega)
  simp only[tick_eq,neq_s,hne,zI,some_bind,asBool_b,if_true,i0,lss_i,d,zF,if_false,dslow_ok s hn hl (by omega),ext_tup,zM,zN]
end Go.Ev
