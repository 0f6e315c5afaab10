/- What functions compute, put together. -/
import Derived.Test.YtnefgdahdccldaaDoorKSA
import Derived.Lib.DecodeN
import Derived.Test.YtnefgdahdccldaaDoorKPv
import Derived.Test.YtnefgdahdccldaaDoorKSp
set_option linter.all false
open Option renaming map_some→zC
open Bool renaming false_eq_true→zF,and_eq_true→zG,not_true→zH,not_false→zI,true_eq_false→zX
open List renaming getElem?_eq_getElem→zL,getElem?_cons_zero→zM,getElem?_cons_succ→zN,drop_eq_getElem_cons→zO,mem_cons_of_mem→zP,drop_eq_nil_of_le→zQ,drop_zero→zU,take_of_length_le→zV
open Nat renaming le_refl→zR,mul_le_mul_right→zW
open Int renaming natCast_nonneg→zY
section
namespace Go.Ev
attribute [local irreducible] P0
open Go.Lib (decodeN firstT slowN)
def B(s:Str)(i:Nat):Nat:=(s[i]?.getD 0).toNat
def ud(s:Str)(i:Nat):Nat×Nat:=Utf8.decode ⟨s.toArray⟩ i
theorem zde(s:Str)(i:Nat):B s i<256:=(s[i]?.getD 0).toNat_lt
theorem zka(s:Str)(i:Nat):((ByteArray.mk s.toArray).get! i).toNat=B s i:=by
 unfold B ByteArray.get!
 congr 1
 simp[Array.getElem!_eq_getD,Array.getD_eq_getD_getElem?]
 rfl
theorem zcr(s:Str)(i:Nat):ud s i=decodeN (s.length - i) (B s i) (B s (i+1)) (B s (i+2)) (B s (i+3)):=by
 unfold ud
 rw[Go.Lib.decode_at,zka,zka,zka,zka]
 congr 1
theorem Wx{α:Type}{f g:Nat→α}(h:(List.range 256).map f=(List.range 256).map g)(c:Nat)(hc:c<256):f c=g c:=by
 have h2:=congrArg (·[c]?) h
 simp only[List.getElem?_map,List.getElem?_range hc,zC]at h2
 exact Option.some.inj h2
theorem zlg:(List.range 256).map (fun(b:Nat)=>(G_0.drop (b * 1))[0]?)=(List.range 256).map (fun(b:Nat)=>some (V.int .u8 (firstT b:Nat))):=by kernel_rfl
theorem zi6:(List.range 256).map (fun(b:Nat)=>ze .andNot (.int .i32 (b:Int)) (.int .i32 (-1)))=(List.range 256).map (fun(b:Nat)=>some (V.int .i32 0)):=by kernel_rfl
theorem zmr:(List.range 256).map (fun(b:Nat)=>ze .and (.int .u8 (b:Int)) (.int .u8 31))=(List.range 256).map (fun(b:Nat)=>some (V.int .u8 ((b % 32:Nat):Int))):=by kernel_rfl
theorem zmq:(List.range 256).map (fun(b:Nat)=>ze .and (.int .u8 (b:Int)) (.int .u8 15))=(List.range 256).map (fun(b:Nat)=>some (V.int .u8 ((b % 16:Nat):Int))):=by kernel_rfl
theorem znl:(List.range 256).map (fun(b:Nat)=>ze .and (.int .u8 (b:Int)) (.int .u8 7))=(List.range 256).map (fun(b:Nat)=>some (V.int .u8 ((b % 8:Nat):Int))):=by kernel_rfl
theorem Kk:(List.range 256).map (fun(b:Nat)=>ze .and (.int .u8 (b:Int)) (.int .u8 63))=(List.range 256).map (fun(b:Nat)=>some (V.int .u8 ((b % 64:Nat):Int))):=by kernel_rfl
theorem KB(n:Nat)(h:n<2147483648):IntKind.i32.wrap (n:Int)=(n:Int):=IntWalk.i32_in (n:Int) (by omega)
theorem zeP(a k:Nat)(hk:k<32)(h:a * 2 ^ k<2147483648):ze .shl (.int .i32 (a:Int)) (.int .u64 (k:Int))=some (.int .i32 ((a * 2 ^ k:Nat):Int)):=by
 rw[zp6 _ _ _ _ (zY k),Int.toNat_natCast]
 have e:Nat.min k (IntKind.bits .i32)=k:=Nat.min_eq_left (by show k≤32;omega)
 have e2:(a:Int) * (2:Int) ^ k=((a * 2 ^ k:Nat):Int):=by simp
 rw[e,e2,KB _ h]
theorem zlb(q k c:Nat)(hc:c<2 ^ k)(h:q * 2 ^ k+c<2147483648):ze .or (.int .i32 ((q * 2 ^ k:Nat):Int)) (.int .i32 (c:Int))=some (.int .i32 ((q * 2 ^ k+c:Nat):Int)):=by
 have e1:(BitVec.ofInt 32 ((q * 2 ^ k:Nat):Int)).toNat=q * 2 ^ k:=by rw[BitVec.toNat_ofInt];omega
 have e2:(BitVec.ofInt 32 (c:Int)).toNat=c:=by rw[BitVec.toNat_ofInt];omega
 have h2:=Nat.two_pow_add_eq_or_of_lt hc q
 rw[Nat.mul_comm]at h2
 have hb:bits .or .i32 ((q * 2 ^ k:Nat):Int) (c:Int)=((q * 2 ^ k+c:Nat):Int):=by
  show IntKind.i32.wrap ((BitVec.ofInt 32 ((q * 2 ^ k:Nat):Int) ||| BitVec.ofInt 32 (c:Int)).toNat:Nat)=_
  rw[BitVec.toNat_or,e1,e2,← h2,KB _ h]
 simp only[ze,WJ,Yu,decide_true,Bool.or_true,if_pos,hb]
theorem zsr{s:Str}{i:Nat}(h:i<s.length) : ∃ b,s[i]?=some b∧b.toNat=B s i:=by
 refine⟨s[i],zL h,?_⟩
 unfold B;rw[zL h];rfl
theorem zea(s:Str)(k:IntKind)(i:Nat)(h:i<s.length):Zx (.str s) (.int k (i:Int))=some (.int .u8 (B s i:Int)):=by
 obtain⟨b,h1,h2⟩:=zsr h
 rw[JJ s k i b h1,h2]
/-- the road for a first byte whose row is below the marks: sz bytes, the second between lo and hi -/
theorem ZX(s:Str)(sz lo hi i:Nat)(c4:Nat)(hn:1≤s.length)(hl:s.length≤1000000000)(h1:(G_0.drop (B s 0 * 1))[0]?=some (.int .u8 (c4:Int)))(h2:c4<240)(h3:ze .and (.int .u8 (c4:Int)) (.int .u8 7)=some (.int .u8 (sz:Int)))(h4:ze .shr (.int .u8 (c4:Int)) (.int .u64 4)=some (.int .u8 (i:Int)))(h5:i<16)
  (h6:(G_1.drop (i * 2)).take 2=[.int .u8 (lo:Int),.int .u8 (hi:Int)]) (h7:Nat.ble 2 (G_1.drop (i * 2)).length=true) (hz:2≤sz∧sz≤4) :
  P0 z5 [.v (.str s)] []=some (.tup [.int .i32 ((slowN s.length (B s 0) (B s 1) (B s 2) (B s 3) sz lo hi).1:Int),.int .i64 ((slowN s.length (B s 0) (B s 1) (B s 2) (B s 3) sz lo hi).2:Int)],[]):=by
 rw[vU];unfold wl slowN
 have dT : ∀ {p:Prop} [Decidable p],p→decide p=true:=fun h=>decide_eq_true h
 have dF : ∀ {p:Prop} [Decidable p],¬ p→decide p=false:=fun h=>decide_eq_false h
 have d1:decide (((s.length:Nat):Int)<1)=false:=dF (by omega)
 have d2:decide ((240:Int)≤(c4:Int))=false:=dF (by omega)
 have i0:Zx (.str s) (.int .i64 0)=some (.int .u8 (B s 0:Int)):=zea s .i64 0 (by omega)
 have wsz:IntKind.i64.wrap (sz:Int)=(sz:Int):=w64 (by omega)
 have l0:=zde s 0
 have l1:=zde s 1
 have l2:=zde s 2
 have l3:=zde s 3
 have okA:okN 2 (V.agg [.int .u8 (lo:Int),.int .u8 (hi:Int)])=true:=rfl
 by_cases g1:s.length<sz
 ·have e1:decide ((s.length:Int)<(sz:Int))=true:=dT (by omega)
  rw[if_pos g1]
  simp only[zb,qK,za,d1,zF,if_false,i0,zp _ (B s 0) 256 l0,h1,qP,d2,zc,h3,kD,wsz,h4,zp _ i 16 h5,h7,zh,h6,okA,zw,e1,if_true]
  rfl
 have e1:decide ((s.length:Int)<(sz:Int))=false:=dF (by omega)
 rw[if_neg g1]
 have i1:Zx (.str s) (.int .i64 1)=some (.int .u8 (B s 1:Int)):=zea s .i64 1 (by omega)
 by_cases g2:B s 1<lo∨hi<B s 1
 ·rw[if_pos g2]
  by_cases g3:B s 1<lo
  ·have e2:decide ((B s 1:Int)<(lo:Int))=true:=dT (by omega)
   simp only[zb,qK,za,d1,zF,if_false,i0,zp _ (B s 0) 256 l0,h1,qP,d2,zc,h3,kD,wsz,h4,zp _ i 16 h5,h7,zh,h6,okA,zw,e1,if_true,i1,ke,zM,zN,e2,zX]
   rfl
  ·have e2:decide ((B s 1:Int)<(lo:Int))=false:=dF (by omega)
   have e3:decide ((hi:Int)<(B s 1:Int))=true:=dT (by omega)
   simp only[zb,qK,za,d1,zF,if_false,i0,zp _ (B s 0) 256 l0,h1,qP,d2,zc,h3,kD,wsz,h4,zp _ i 16 h5,h7,zh,h6,okA,zw,e1,if_true,i1,ke,zM,zN,e2,e3]
   rfl
 rw[if_neg g2]
 have e2:decide ((B s 1:Int)<(lo:Int))=false:=dF (by omega)
 have e3:decide ((hi:Int)<(B s 1:Int))=false:=dF (by omega)
 have m1:ze .and (.int .u8 (B s 1:Int)) (.int .u8 63)=some (.int .u8 ((B s 1 % 64:Nat):Int)):=Wx Kk (B s 1) l1
 have m2:ze .and (.int .u8 (B s 2:Int)) (.int .u8 63)=some (.int .u8 ((B s 2 % 64:Nat):Int)):=Wx Kk (B s 2) l2
 have m3:ze .and (.int .u8 (B s 3:Int)) (.int .u8 63)=some (.int .u8 ((B s 3 % 64:Nat):Int)):=Wx Kk (B s 3) l3
 have k1:B s 1 % 64<64:=Nat.mod_lt _ (by decide)
 have k2:B s 2 % 64<64:=Nat.mod_lt _ (by decide)
 have k3:B s 3 % 64<64:=Nat.mod_lt _ (by decide)
 by_cases g4:sz≤2
 ·have e4:decide ((sz:Int)≤2)=true:=dT (by omega)
  have a0:ze .and (.int .u8 (B s 0:Int)) (.int .u8 31)=some (.int .u8 ((B s 0 % 32:Nat):Int)):=Wx zmr (B s 0) l0
  have k0:B s 0 % 32<32:=Nat.mod_lt _ (by decide)
  have s0:ze .shl (.int .i32 ((B s 0 % 32:Nat):Int)) (.int .u64 6)=some (.int .i32 ((B s 0 % 32 * 2 ^ 6:Nat):Int)):=zeP _ 6 (by decide) (by omega)
  have o0:=zlb (B s 0 % 32) 6 (B s 1 % 64) (by omega) (by omega)
  rw[if_pos g4]
  simp only[zb,qK,za,d1,zF,if_false,i0,zp _ (B s 0) 256 l0,h1,qP,d2,zc,h3,kD,wsz,h4,zp _ i 16 h5,h7,zh,h6,okA,zw,e1,if_true,i1,ke,zM,zN,e2,e3,Wb,e4,a0,KB (B s 0 % 32) (by omega),s0,m1,KB (B s 1 % 64) (by omega),o0]
  rfl
 have e4:decide ((sz:Int)≤2)=false:=dF (by omega)
 have i2:Zx (.str s) (.int .i64 2)=some (.int .u8 (B s 2:Int)):=zea s .i64 2 (by omega)
 rw[if_neg g4]
 by_cases g5:B s 2<128∨191<B s 2
 ·rw[if_pos g5]
  by_cases g6:B s 2<128
  ·have e5:decide ((B s 2:Int)<128)=true:=dT (by omega)
   simp only[zb,qK,za,d1,zF,if_false,i0,zp _ (B s 0) 256 l0,h1,qP,d2,zc,h3,kD,wsz,h4,zp _ i 16 h5,h7,zh,h6,okA,zw,e1,if_true,i1,ke,zM,zN,e2,e3,Wb,e4,i2,e5,zX]
   rfl
  ·have e5:decide ((B s 2:Int)<128)=false:=dF (by omega)
   have e6:decide ((191:Int)<(B s 2:Int))=true:=dT (by omega)
   simp only[zb,qK,za,d1,zF,if_false,i0,zp _ (B s 0) 256 l0,h1,qP,d2,zc,h3,kD,wsz,h4,zp _ i 16 h5,h7,zh,h6,okA,zw,e1,if_true,i1,ke,zM,zN,e2,e3,Wb,e4,i2,e5,e6]
   rfl
 rw[if_neg g5]
 have e5:decide ((B s 2:Int)<128)=false:=dF (by omega)
 have e6:decide ((191:Int)<(B s 2:Int))=false:=dF (by omega)
 by_cases g7:sz≤3
 ·have e7:decide ((sz:Int)≤3)=true:=dT (by omega)
  have a0:ze .and (.int .u8 (B s 0:Int)) (.int .u8 15)=some (.int .u8 ((B s 0 % 16:Nat):Int)):=Wx zmq (B s 0) l0
  have k0:B s 0 % 16<16:=Nat.mod_lt _ (by decide)
  have s0:ze .shl (.int .i32 ((B s 0 % 16:Nat):Int)) (.int .u64 12)=some (.int .i32 ((B s 0 % 16 * 2 ^ 12:Nat):Int)):=zeP _ 12 (by decide) (by omega)
  have s1:ze .shl (.int .i32 ((B s 1 % 64:Nat):Int)) (.int .u64 6)=some (.int .i32 ((B s 1 % 64 * 2 ^ 6:Nat):Int)):=zeP _ 6 (by decide) (by omega)
  have o0:=zlb (B s 0 % 16) 12 (B s 1 % 64 * 2 ^ 6) (by omega) (by omega)
  have o1:=zlb (B s 0 % 16 * 64+B s 1 % 64) 6 (B s 2 % 64) (by omega) (by omega)
  rw[show(B s 0 % 16 * 64+B s 1 % 64) * 2 ^ 6=B s 0 % 16 * 2 ^ 12+B s 1 % 64 * 2 ^ 6 by omega]at o1
  rw[if_pos g7]
  simp only[zb,qK,za,d1,zF,if_false,i0,zp _ (B s 0) 256 l0,h1,qP,d2,zc,h3,kD,wsz,h4,zp _ i 16 h5,h7,zh,h6,okA,zw,e1,if_true,i1,ke,zM,zN,e2,e3,Wb,e4,i2,e5,e6,e7,a0,KB (B s 0 % 16) (by omega),s0,m1,KB (B s 1 % 64) (by omega),s1,o0,m2,KB (B s 2 % 64) (by omega),o1]
  rfl
 have e7:decide ((sz:Int)≤3)=false:=dF (by omega)
 have i3:Zx (.str s) (.int .i64 3)=some (.int .u8 (B s 3:Int)):=zea s .i64 3 (by omega)
 rw[if_neg g7]
 by_cases g8:B s 3<128∨191<B s 3
 ·rw[if_pos g8]
  by_cases g9:B s 3<128
  ·have e8:decide ((B s 3:Int)<128)=true:=dT (by omega)
   simp only[zb,qK,za,d1,zF,if_false,i0,zp _ (B s 0) 256 l0,h1,qP,d2,zc,h3,kD,wsz,h4,zp _ i 16 h5,h7,zh,h6,okA,zw,e1,if_true,i1,ke,zM,zN,e2,e3,Wb,e4,i2,e5,e6,e7,i3,e8,zX]
   rfl
  ·have e8:decide ((B s 3:Int)<128)=false:=dF (by omega)
   have e9:decide ((191:Int)<(B s 3:Int))=true:=dT (by omega)
   simp only[zb,qK,za,d1,zF,if_false,i0,zp _ (B s 0) 256 l0,h1,qP,d2,zc,h3,kD,wsz,h4,zp _ i 16 h5,h7,zh,h6,okA,zw,e1,if_true,i1,ke,zM,zN,e2,e3,Wb,e4,i2,e5,e6,e7,i3,e8,e9]
   rfl
 rw[if_neg g8]
 have e8:decide ((B s 3:Int)<128)=false:=dF (by omega)
 have e9:decide ((191:Int)<(B s 3:Int))=false:=dF (by omega)
 have a0:ze .and (.int .u8 (B s 0:Int)) (.int .u8 7)=some (.int .u8 ((B s 0 % 8:Nat):Int)):=Wx znl (B s 0) l0
 have k0:B s 0 % 8<8:=Nat.mod_lt _ (by decide)
 have s0:ze .shl (.int .i32 ((B s 0 % 8:Nat):Int)) (.int .u64 18)=some (.int .i32 ((B s 0 % 8 * 2 ^ 18:Nat):Int)):=zeP _ 18 (by decide) (by omega)
 have s1:ze .shl (.int .i32 ((B s 1 % 64:Nat):Int)) (.int .u64 12)=some (.int .i32 ((B s 1 % 64 * 2 ^ 12:Nat):Int)):=zeP _ 12 (by decide) (by omega)
 have s2:ze .shl (.int .i32 ((B s 2 % 64:Nat):Int)) (.int .u64 6)=some (.int .i32 ((B s 2 % 64 * 2 ^ 6:Nat):Int)):=zeP _ 6 (by decide) (by omega)
 have o0:=zlb (B s 0 % 8) 18 (B s 1 % 64 * 2 ^ 12) (by omega) (by omega)
 have o1:=zlb (B s 0 % 8 * 64+B s 1 % 64) 12 (B s 2 % 64 * 2 ^ 6) (by omega) (by omega)
 have o2:=zlb (B s 0 % 8 * 4096+B s 1 % 64 * 64+B s 2 % 64) 6 (B s 3 % 64) (by omega) (by omega)
 rw[show(B s 0 % 8 * 64+B s 1 % 64) * 2 ^ 12=B s 0 % 8 * 2 ^ 18+B s 1 % 64 * 2 ^ 12 by omega]at o1
 rw[show(B s 0 % 8 * 4096+B s 1 % 64 * 64+B s 2 % 64) * 2 ^ 6=B s 0 % 8 * 2 ^ 18+B s 1 % 64 * 2 ^ 12+B s 2 % 64 * 2 ^ 6 by omega]at o2
 simp only[zb,qK,za,d1,zF,if_false,i0,zp _ (B s 0) 256 l0,h1,qP,d2,zc,h3,kD,wsz,h4,zp _ i 16 h5,h7,zh,h6,okA,zw,e1,if_true,i1,ke,zM,zN,e2,e3,Wb,e4,i2,e5,e6,e7,i3,e8,e9,a0,KB (B s 0 % 8) (by omega),s0,m1,KB (B s 1 % 64) (by omega),s1,o0,m2,KB (B s 2 % 64) (by omega),s2,o1,m3,KB (B s 3 % 64) (by omega),o2]
 rfl
/-- a first byte that begins nothing -/
theorem zmK(s:Str)(c4:Nat)(hn:1≤s.length)(h1:(G_0.drop (B s 0 * 1))[0]?=some (.int .u8 (c4:Int)))(h2:c4=241):P0 z5 [.v (.str s)] []=some (.tup [.int .i32 65533,.int .i64 1],[]):=by
 subst h2
 rw[vU];unfold wl
 have d1:decide (((s.length:Nat):Int)<1)=false:=decide_eq_false (by omega)
 have d2:decide ((240:Int)≤((241:Nat):Int))=true:=by decide
 have i0:Zx (.str s) (.int .i64 0)=some (.int .u8 (B s 0:Int)):=zea s .i64 0 (by omega)
 have l0:=zde s 0
 have x8:ze .shl (.int .i32 (IntKind.i32.wrap ((241:Nat):Int))) (.int .u64 31)=some (.int .i32 (-2147483648)):=by kernel_rfl
 have x9:ze .shr (.int .i32 (-2147483648)) (.int .u64 31)=some (.int .i32 (-1)):=by kernel_rfl
 have x12:=Wx zi6 (B s 0) l0
 have x13:ze .and (.int .i32 65533) (.int .i32 (-1))=some (.int .i32 65533):=by kernel_rfl
 have x14:ze .or (.int .i32 0) (.int .i32 65533)=some (.int .i32 65533):=by kernel_rfl
 simp only[zb,qK,za,d1,zF,if_false,i0,zp _ (B s 0) 256 l0,h1,qP,d2,zc,if_true,kD,x8,x9,KB (B s 0) (by omega),x12,x13,x14]
theorem znL(s:Str)(hn:1≤s.length)(hl:s.length≤1000000000)(hb:128≤B s 0):P0 z5 [.v (.str s)] []=some (.tup [.int .i32 ((ud s 0).1:Int),.int .i64 ((ud s 0).2:Int)],[]):=by
 have l0:=zde s 0
 have l1:=zde s 1
 have l2:=zde s 2
 have l3:=zde s 3
 have h1:(G_0.drop (B s 0 * 1))[0]?=some (.int .u8 ((firstT (B s 0):Nat):Int)):=Wx zlg (B s 0) l0
 rw[zcr,Nat.sub_zero,Nat.zero_add,Nat.zero_add,Nat.zero_add]
 have bad:(B s 0<194∨245≤B s 0)→firstT (B s 0)=241∧decodeN s.length (B s 0) (B s 1) (B s 2) (B s 3)=(65533,1):=by
  intro h
  constructor
  ·unfold firstT;repeat' split
   all_goals omega
  ·unfold decodeN
   repeat' split
   all_goals first | rfl | (exfalso;omega)
 by_cases g:B s 0<194∨245≤B s 0
 ·obtain⟨e1,e2⟩:=bad g
  rw[zmK s _ hn h1 e1,e2];rfl
 by_cases g1:B s 0<224
 ·rw[← Go.Lib.slow_C2 _ _ _ _ _ hn l1 l2 l3 (by omega)]
  exact ZX s 2 128 191 0 2 hn hl (by rw[h1];unfold firstT;rw[if_neg (by omega),if_neg (by omega),if_pos (by omega)]) (by decide) (by kernel_rfl) (by kernel_rfl) (by decide) (by kernel_rfl) (by kernel_rfl) (by decide)
 by_cases g2:B s 0=224
 ·rw[← Go.Lib.slow_E0 _ _ _ _ _ hn l1 l2 l3 g2]
  exact ZX s 3 160 191 1 19 hn hl (by rw[h1,g2];rfl) (by decide) (by kernel_rfl) (by kernel_rfl) (by decide) (by kernel_rfl) (by kernel_rfl) (by decide)
 by_cases g3:B s 0=237
 ·rw[← Go.Lib.slow_ED _ _ _ _ _ hn l1 l2 l3 g3]
  exact ZX s 3 128 159 2 35 hn hl (by rw[h1,g3];rfl) (by decide) (by kernel_rfl) (by kernel_rfl) (by decide) (by kernel_rfl) (by kernel_rfl) (by decide)
 by_cases g4:B s 0<240
 ·rw[← Go.Lib.slow_E1 _ _ _ _ _ hn l1 l2 l3 (by omega)]
  refine ZX s 3 128 191 0 3 hn hl ?_ (by decide) (by kernel_rfl) (by kernel_rfl) (by decide) (by kernel_rfl) (by kernel_rfl) (by decide)
  rw[h1];unfold firstT
  rw[if_neg (by omega),if_neg (by omega),if_neg (by omega),if_neg (by omega)]
  by_cases g5:B s 0<237
  ·rw[if_pos g5]
  ·rw[if_neg g5,if_neg g3,if_pos g4]
 by_cases g5:B s 0=240
 ·rw[← Go.Lib.slow_F0 _ _ _ _ _ hn l1 l2 l3 g5]
  exact ZX s 4 144 191 3 52 hn hl (by rw[h1,g5];rfl) (by decide) (by kernel_rfl) (by kernel_rfl) (by decide) (by kernel_rfl) (by kernel_rfl) (by decide)
 by_cases g6:B s 0<244
 ·rw[← Go.Lib.slow_F1 _ _ _ _ _ hn l1 l2 l3 (by omega)]
  refine ZX s 4 128 191 0 4 hn hl ?_ (by decide) (by kernel_rfl) (by kernel_rfl) (by decide) (by kernel_rfl) (by kernel_rfl) (by decide)
  rw[h1];unfold firstT
  rw[if_neg (by omega),if_neg (by omega),if_neg (by omega),if_neg (by omega),if_neg (by omega),if_neg (by omega),if_neg (by omega),if_neg (by omega),if_pos g6]
 ·have g7:B s 0=244:=by omega
  rw[← Go.Lib.slow_F4 _ _ _ _ _ hn l1 l2 l3 g7]
  exact ZX s 4 128 143 4 68 hn hl (by rw[h1,g7];rfl) (by decide) (by kernel_rfl) (by kernel_rfl) (by decide) (by kernel_rfl) (by kernel_rfl) (by decide)
theorem zm3(s:Str)(hn:1≤s.length)(hl:s.length≤1000000000):P0 yJ [.v (.str s)] []=some (.tup [.int .i32 ((ud s 0).1:Int),.int .i64 ((ud s 0).2:Int)],[]):=by
 rw[YO];unfold jp
 have i0:Zx (.str s) (.int .i64 0)=some (.int .u8 (B s 0:Int)):=zea s .i64 0 (by omega)
 have hne:(s == ([]:Str))=false:=by
  cases s with
  | nil=>simp at hn
  | cons a r=>rfl
 have l0:=zde s 0
 by_cases g:B s 0<128
 ·have d:decide ((B s 0:Int)<128)=true:=decide_eq_true (by omega)
  have e:ud s 0=(B s 0,1):=by rw[zcr];unfold decodeN;rw[if_pos g]
  simp only[zb,zeA,hne,zI,za,zc,if_true,i0,zw,d,kD,KB (B s 0) (by omega),e]
  rfl
 ·have d:decide ((B s 0:Int)<128)=false:=decide_eq_false (by omega)
  simp only[zb,zeA,hne,zI,za,zc,if_true,i0,zw,d,zF,if_false,znL s hn hl (by omega),zo,zM,zN]
end Go.Ev
end
section
namespace Go.Ev
attribute [local irreducible] P0
theorem zba(l:List Nat)(n:Nat)(hn:n≤l.length)(hl:l.length≤1000000):yk (jG (.sl (yK l))) (vec [.int .i64 (n:Int)])=some (0,vec [.int .i64 (top l n:Nat)]):=by
 induction n with
 | zero=>
  apply zr
  unfold jG
  apply yes;simp[top]
 | succ n ih=>
  have hx:l[n]?=some l[n]:=zL (by omega)
  have h1:((n+1:Nat):Int) - 1=n:=by omega
  have h2:(0:Int)<((n+1:Nat):Int):=by omega
  by_cases h0:l[n]=0
  ·rw[zy (a':=vec [.int .i64 (n:Int)])]
   ·rw[ih (by omega)];simp[top,hx,h0]
   ·unfold jG
    simp only[zl,YS,za,zc,decide_true,h2,if_pos,W3,h1,w64 (a:=(n:Int)) (by omega),ZG,xV,zp _ n l.length (by omega),Vw,hx,zC,vH,yV,h0]
    simp
  ·have ht:top l (n+1)=n+1:=by unfold top;rw[hx];split<;>simp_all
   rw[ht]
   apply zr
   unfold jG
   simp only[zl,YS,za,zc,decide_true,h2,if_pos,W3,h1,w64 (a:=(n:Int)) (by omega),ZG,xV,zp _ n l.length (by omega),Vw,hx,zC,vH,yV]
   simp[h0]
theorem zgB(l:List Nat)(hl:l.length≤1000000)(hu:U32 l):P0 vL [.v (.sl (yK l))] []=some (.sl (yK (toL (xx l))),[]):=by
 rw[← zh7 hu]
 rw[zg1];unfold zdt
 have h:=zjH l l.length
 by_cases h0:top l l.length=0
 ·have e:norm l=[]:=by rw[norm,h0];rfl
  simp only[zg,za,xV,zba l l.length (zR _) hl,zl,h0,yV,zc,e]
  simp[yK]
 ·have hm:=zgV 4 (top l l.length) (by omega) (by omega)
  have e1:Nat.min (yK l).length (top l l.length)=top l l.length:=by rw[xV];exact Nat.min_eq_right h
  simp only[zg,za,xV,zba l l.length (zR _) hl,zl,yV,zc]
  have e2 : ¬ ((top l l.length:Nat):Int)=0:=by omega
  have e3:Nat.min l.length (top l l.length)=top l l.length:=Nat.min_eq_right h
  simp only[e2,decide_false,zF,if_false,hm,za,zcf,xV,e3,Xs]
  rw[zfa _ _ (by simp[xV];omega)]
  simp only[zU,Xs,List.take_take,Nat.min_self]
  rfl
theorem zq8(c x:Nat)(hx:x<B32):c * B32 ||| x=c * B32+x:=by
 have h:=Nat.two_pow_add_eq_or_of_lt (i:=32) (b:=x) (by simpa[B32]using hx) c
 have e:(2:Nat) ^ 32=B32:=by decide
 rw[e,Nat.mul_comm]at h;exact h.symm
theorem zhb(l:List Nat)(d:Nat)(q2:Nat×Nat)(hq:q2.1=l.length)(hd:0<d)(hd2:d<B32)(hl:l.length≤1000000)(hu:U32 l)(n:Nat)(hn:n≤l.length) :
  yk (kr (.sl (yK l)) (.int .u32 (d:Int)) q2) (vec [.int .u64 ((small d (l.drop n)).2:Int),.int .i64 ((n:Int) - 1),.sl (List.replicate n (.int .u32 0)++yK (small d (l.drop n)).1)])
   = some (0,vec [.int .u64 ((small d l).2:Int),.sl (yK (small d l).1)]):=by
 induction n with
 | zero=>
  apply zr
  unfold kr
  apply yes;simp
 | succ n ih=>
  have hx:l[n]?=some l[n]:=zL (by omega)
  have hdr:l.drop n=l[n]::l.drop (n+1):=zO (by omega)
  have hb:l[n]<B32:=hu _ (List.getElem_mem _)
  have hc:(small d (l.drop (n+1))).2<d:=zdi d hd _
  rw[← ih (by omega)]
  apply zy
  generalize hs:small d (l.drop (n+1))=sm at *
  have hsm:small d (l.drop n)=((sm.2 * B32+l[n]) / d::sm.1,(sm.2 * B32+l[n]) % d):=by rw[hdr];simp only[small,hs]
  rw[hsm]
  have hlt:(sm.2 * B32+l[n]) / d<B32:=by
   rw[Nat.div_lt_iff_lt_mul hd]
   have:sm.2 * B32+B32≤d * B32:=by rw[← Nat.succ_mul];exact zW _ hc
   rw[Nat.mul_comm B32 d];omega
  have hlt2:sm.2 * B32+l[n]<B32 * B32:=by
   have:sm.2 * B32+B32≤B32 * B32:=by rw[← Nat.succ_mul];exact zW _ (by omega)
   omega
  have h1:((n+1:Nat):Int) - 1=n:=by omega
  have hp:(2:Int) ^ Nat.min (32:Int).toNat (IntKind.bits .u64)=(B32:Int):=by decide
  have hB:B32 * B32=18446744073709551616:=by decide
  have hB2:B32=4294967296:=rfl
  unfold kr
  have ha:(sm.2:Int) * (B32:Int)=((sm.2 * B32:Nat):Int):=by simp
  have hdd:((sm.2 * B32+l[n]:Nat):Int).tdiv (d:Int)=(((sm.2 * B32+l[n]) / d:Nat):Int):=by rw[Int.tdiv_eq_ediv_of_nonneg (zY _)];simp
  have hmm:((sm.2 * B32+l[n]:Nat):Int).tmod (d:Int)=(((sm.2 * B32+l[n]) % d:Nat):Int):=by rw[Int.tmod_eq_emod_of_nonneg (zY _)];simp
  have hd0:(d:Int)≠0:=by omega
  have hpos:(0:Int)≤n:=zY n
  have hor:ze .or (.int .u64 ((sm.2 * B32:Nat):Int)) (.int .u64 (l[n]:Int))=some (.int .u64 ((sm.2 * B32+l[n]:Nat):Int)):=by
   have:=u64_or_nat (sm.2 * B32) l[n] (by omega) (by omega)
   rw[zq8 _ _ hb]at this
   simp only[ze,WJ,Yu,decide_true,Bool.or_true,if_pos,this]
  simp only[zl,yp,qP,h1,hpos,decide_true,za,zc,if_pos,zp6 _ _ _ _ (show(0:Int)≤32 by decide),hp,ha]
  rw[zpS (a:=((sm.2 * B32:Nat):Int)) (by omega)]
  simp only[ZG,za,xV,zp _ n l.length (by omega),Vw,hx,zC,vH,kD]
  rw[zpS (a:=(l[n]:Int)) (by omega),zpS (a:=(d:Int)) (by omega)]
  have hq0:(0:Int)≤(((sm.2 * B32+l[n]) / d:Nat):Int):=zY _
  have hq1:(((sm.2 * B32+l[n]) / d:Nat):Int)≤4294967295:=Int.ofNat_le.2 (show _≤4294967295 from Nat.le_of_lt_succ hlt)
  simp only[hor,za,zrt _ _ _ hd0,zkq _ _ _ hd0,hdd,hmm,kD]
  rw[zpS (a:=(((sm.2 * B32+l[n]) / d:Nat):Int)) ⟨hq0,Int.le_trans hq1 (by decide)⟩,zrh (a:=(((sm.2 * B32+l[n]) / d:Nat):Int)) ⟨hq0,hq1⟩]
  simp only[hq,zp _ n l.length (by omega),za,qG,zh,vH,W3,yU,Nat.zero_add,zpO]
  rw[w64 (a:=(n:Int) - 1) (by omega)]
  rfl
theorem zlu(l:List Nat)(d:Nat)(hd:0<d)(hd2:d<B32)(hl:l.length≤1000000)(hu:U32 l) :
  P0 vz [.v (.sl (yK l)),.v (.int .u32 (d:Int))] []=some (.tup [.sl (yK (toL (xx l / d))),.int .u32 ((xx l % d:Nat):Int)],[]):=by
 rw[zfK];unfold zab
 have hlt:=zdi d hd l
 have hB2:B32=4294967296:=rfl
 obtain⟨hv1,hv2⟩:=zei d hd l
 have h:=zhb l d (l.length,l.length) rfl hd hd2 hl hu l.length (zR _)
 simp only[List.drop_length,small,yK,List.map_nil,List.append_nil]at h
 simp only[zg,za,xV,zgV 4 l.length (by omega) (by omega)]
 rw[w64 (a:=(l.length:Int) - 1) (by omega)]
 simp only[yK]at h ⊢
 rw[show((0:Nat):Int)=0 from rfl]at h
 rw[h]
 have e:List.map (fun(x:Nat)=>V.int .u32 (x:Int)) (small d l).1=yK (small d l).1:=rfl
 simp only[za,zl,yp,e,yU,zU,Xs]
 rw[zV (by rw[zed];omega),zgB _ (by rw[zed];omega) (zlQ d hd l hu),hv1]
 simp only[za,kD]
 rw[zrh (a:=((small d l).2:Int)) (by omega),hv2]
 rfl
end Go.Ev
end
section
namespace Go.Ev
attribute [local irreducible] P0
theorem zje(f:Nat) : ∀ (n k:Nat),n<10 ^ f→(toL n).length≤1000000→k+f≤1000000000 →
  yk qC (vec [.sl (yK (toL n)),.int .i64 (k:Int)])=some (0,vec [.sl (yK (toL (XO n).1)),.int .i64 ((k+(XO n).2:Nat):Int)]):=by
 induction f with
 | zero=>
  intro n k h _ _
  have:n=0:=by simpa using h
  subst this
  apply zr
  unfold qC
  apply yes;simp[zdg,zd1,yK]
 | succ f ih=>
  intro n k h hl hk
  by_cases h0:n=0
  ·subst h0
   apply zr
   unfold qC
   apply yes;simp[zdg,zd1,yK]
  have hne:toL n≠[]:=fun e=>h0 (zpK.1 e)
  have hlen:(0:Int)<((toL n).length:Int):=by
   have:0<(toL n).length:=List.length_pos_iff.2 hne
   omega
  have hs:P0 vz [.v (.sl (yK (toL n))),.v (.int .u32 10)] []=_:=zlu (toL n) 10 (by decide) (by decide) hl (zfR n)
  rw[WB]at hs
  by_cases h2:n % 10=0
  ·have hl':(toL (n / 10)).length≤(toL n).length:=by
    apply zkH
    calc n / 10≤n:=Nat.div_le_self _ _
     _=xx (toL n):=(WB n).symm
     _<_:=zgu _ (zfR n)
   have:=ih (n / 10) (k+1) (by rw[Nat.div_lt_iff_lt_mul (by decide)];rw[Nat.pow_succ]at h;exact h) (by omega) (by omega)
   rw[ze7 h0 h2,show k+((XO (n / 10)).2+1)=k+1+(XO (n / 10)).2 by omega,← this]
   apply zy
   unfold qC
   have w:=w64 (a:=(k:Int)+1) (by omega)
   apply yes
   simp only[zl,yp,zg,za,xV,gt_iff_lt,hlen,decide_true,if_pos,hs,zo,h2]
   simp[w]
  ·rw[zeF (.inr h2)]
   apply zr
   unfold qC
   have h2' : ¬ ((n % 10:Nat):Int)=0:=by omega
   apply yes
   simp only[zl,yp,zg,za,xV,gt_iff_lt,hlen,decide_true,if_pos,hs,zo]
   simp only[zM,zN,za,zeJ,h2',decide_false,zc,zI,if_pos]
   simp
theorem zmx(l:List Nat)(hu:U32 l)(hl:l.length≤100000) :
  P0 jb [.v (.sl (yK l))] []=some (.tup [.sl (yK (toL (XO (xx l)).1)),.int .i64 ((XO (xx l)).2:Int)],[]):=by
 rw[zhf];unfold zcQ
 have hlt:=zoW l hu
 have h:=zje (10 * l.length) (xx l) 0 hlt (Nat.le_trans (zkH (zgu l hu)) (by omega)) (by omega)
 rw[show((0:Nat):Int)=0 from rfl,Nat.zero_add]at h
 simp only[zgB l (by omega) hu,za]
 rw[h];rfl
end Go.Ev
end
section
namespace Go.Ev
attribute [local irreducible] P0
def v7(s:Str):Nat→Nat→Bool
 | 0,_=>true
 | f+1,i=>if i<s.length then(if(ud s i).1=65533∧(ud s i).2=1 then false else v7 s f (i+(ud s i).2))else true
def zhw(s:Str):Bool:=v7 s (s.length+1) 0
theorem zq6(s:Str)(i:Nat):1≤(ud s i).2∧(ud s i).2≤4∧(ud s i).1≤1114111:=by
 have l0:=zde s i
 rw[zcr];unfold Go.Lib.decodeN
 repeat' split
 all_goals simp only;omega
theorem zgo(s:Str)(i j:Nat):B (s.drop i) j=B s (i+j):=by unfold B;rw[List.getElem?_drop]
theorem zpC(s:Str)(i:Nat):ud (s.drop i) 0=ud s i:=by
 rw[zcr,zcr,zgo,zgo,zgo,zgo,List.length_drop];rfl
theorem zes(s:Str)(k:IntKind)(i:Nat)(h:i≤s.length):JB (.str s) (some (.int k (i:Int))) none=some (.str (s.drop i)):=by
 unfold JB
 simp only[jw k (i:Int) s.length (by omega),za,Int.toNat_natCast]
 rw[zV (by rw[List.length_drop];omega)]
theorem QF(k:IntKind)(n:Nat):YQ (.int k (n:Int))=n:=by simp[YQ]
theorem Qt(s:Str):zdb (.str s)=s:=rfl
theorem zii(s:Str)(hl:s.length≤1000000000)(f:Nat) : ∀ i,s.length<i+f →
  ∃ j v,yk (wm (.str s)) (vec [.str s,.int .i64 (i:Int)])=some (j,v)∧((v7 s f i=true→j=0)∧(v7 s f i=false→j=1∧v 0 = .bool false)):=by
 induction f with
 | zero=>
  intro i hi
  refine⟨0,vec [],zr ?_,fun _=>rfl,fun h=>by simp[v7]at h⟩
  unfold wm
  simp only[zb,zl,yp,QF,Qt]
  rw[if_neg (by omega)]
 | succ f ih=>
  intro i hi
  by_cases hlt:i<s.length
  ·obtain⟨p1,p2,p3⟩:=zq6 s i
   obtain⟨j,v,h1,h2,h3⟩:=ih (i+(ud s i).2) (by omega)
   have hgo:yk (wm (.str s)) (vec [.str s,.int .i64 ((i+(ud s i).2:Nat):Int)])=some (j,v):=h1
   have e1:(Utf8.decode ⟨s.toArray⟩ i)=ud s i:=rfl
   have hrr:=zm3 (s.drop i) (by rw[List.length_drop];omega) (by rw[List.length_drop];omega)
   rw[zpC]at hrr
   by_cases hb:(ud s i).1=65533
   ·have hb':((((ud s i).1:Nat):Int) != 65533)=false:=by rw[hb];rfl
    by_cases hn:(ud s i).2=1
    ·refine⟨1,vec [.bool false],zr ?_,fun h => ?_,fun _=>⟨rfl,rfl⟩⟩
     ·unfold wm
      simp only[zb,zl,yp,QF,Qt]
      rw[if_pos hlt,e1,hb']
      simp only[zb,zF,if_false,zl,yp,QF,Qt,zes s .i64 i (by omega),za,hrr,zo,zM,zN,yV,hn,show decide (((1:Nat):Int)=1)=true by decide,zc,if_true]
     ·rw[v7,if_pos hlt,if_pos ⟨hb,hn⟩]at h;contradiction
    ·refine⟨j,v,?_,fun h=>h2 ?_,fun h=>h3 ?_⟩
     ·rw[← hgo]
      apply zy
      unfold wm
      have hn':decide ((((ud s i).2:Nat):Int)=1)=false:=decide_eq_false (by omega)
      simp only[zb,zl,yp,QF,Qt]
      rw[if_pos hlt,e1,hb']
      simp only[zb,zF,if_false,zl,yp,QF,Qt,zes s .i64 i (by omega),za,hrr,zo,zM,zN,yV,hn',zc]
      rfl
     ·rw[v7,if_pos hlt,if_neg (fun q=>hn q.2)]at h;exact h
     ·rw[v7,if_pos hlt,if_neg (fun q=>hn q.2)]at h;exact h
   ·have hb':((((ud s i).1:Nat):Int) != 65533)=true:=by
     rw[bne_iff_ne];omega
    refine⟨j,v,?_,fun h=>h2 ?_,fun h=>h3 ?_⟩
    ·rw[← hgo]
     apply zy
     unfold wm
     simp only[zb,zl,yp,QF,Qt]
     rw[if_pos hlt,e1,hb',if_pos rfl]
     rfl
    ·rw[v7,if_pos hlt,if_neg (fun q=>hb q.1)]at h;exact h
    ·rw[v7,if_pos hlt,if_neg (fun q=>hb q.1)]at h;exact h
  ·refine⟨0,vec [],zr ?_,fun _=>rfl,fun h=>by rw[v7,if_neg hlt]at h;contradiction⟩
   unfold wm
   simp only[zb,zl,yp,QF,Qt]
   rw[if_neg hlt]
theorem zkN(s:Str):zaf (.str s)=some s:=rfl
theorem ze3(s:Str)(hl:s.length≤1000000000):P0 wZ [.v (.str s)] []=some (.bool (zhw s),[]):=by
 obtain⟨j,v,h1,h2,h3⟩:=zii s hl (s.length+1) 0 (by omega)
 rw[zgm];unfold KW
 simp only[zb,zkN,za,h1]
 unfold zhw
 cases h:v7 s (s.length+1) 0 with
 | true=>rw[h2 h,if_pos rfl]
 | false=>
  obtain⟨rfl,hv⟩:=h3 h
  rw[if_neg (by decide)]
  show some (v 0,[])=_
  rw[hv]
theorem znI(n:Nat) : ∀ (pre r:Str),r.length≤n→(dec8 r).isSome=true → ∀ f,v7 (pre++r) f pre.length=true:=by
 induction n with
 | zero=>
  intro pre r hr h f
  have:r=[]:=by cases r with | nil=>rfl | cons _ _=>simp at hr
  subst this
  cases f with
  | zero=>rfl
  | succ f=>rw[v7,if_neg (by simp)]
 | succ n ih=>
  intro pre r hr h f
  cases f with
  | zero=>rfl
  | succ f=>
   have asc : ∀ (b:UInt8) (t:Str),r=b::t→b.toNat<128→(dec8 t).isSome=true→v7 (pre++r) (f+1) pre.length=true:=by
    intro b t hrt hb ht
    have hB:B (pre++r) pre.length=b.toNat:=by unfold B;rw[hrt];simp
    have e:ud (pre++r) pre.length=(b.toNat,1):=by rw[zcr,hB];unfold Go.Lib.decodeN;rw[if_pos hb]
    rw[v7,e]
    split
    ·rw[if_neg (by simp only;omega)]
     have:=ih (pre++[b]) t (by rw[hrt]at hr;simpa using hr) ht f
     rw[hrt]
     simpa using this
    ·rfl
   match r,hr,h,asc with
   | [],_,_,_=>rw[v7,if_neg (by simp)]
   | [b],hr,h,asc=>
    have h':b.toNat<128:=by
     simp only[dec8]at h;split at h<;>first | assumption | simp at h
    exact asc b [] rfl h' rfl
   | b::c::t,hr,h,asc=>
    by_cases hbc:b=195∧c=169
    ·obtain⟨rfl,rfl⟩:=hbc
     have ht:(dec8 t).isSome=true:=by simpa[dec8]using h
     have hB:B (pre++195::169::t) pre.length=195:=by unfold B;simp
     have hB1:B (pre++195::169::t) (pre.length+1)=169:=by unfold B;simp
     have e:ud (pre++195::169::t) pre.length=(233,2):=by
      rw[zcr,hB,hB1];unfold Go.Lib.decodeN
      rw[if_neg (by decide),if_pos ⟨by decide,by simp,by decide⟩,if_pos (by decide)]
     rw[v7,e]
     split
     ·rw[if_neg (by decide)]
      have:=ih (pre++[195,169]) t (by simp at hr ⊢;omega) ht f
      simpa using this
     ·rfl
    ·have h2:b.toNat<128∧(dec8 (c::t)).isSome=true:=by
      rw[dec8.eq_3 _ _ (by intro r' h1 h2;exact hbc (by simp_all))]at h
      split at h
      ·next hb=>exact⟨hb,by simpa using h⟩
      ·simp at h
     exact asc b (c::t) rfl h2.1 h2.2
theorem zkc{s:Str}(h:(dec8 s).isSome=true):zhw s=true:=znI s.length [] s (zR _) h (s.length+1)
/-- may that be a text? -/
def X4(s:Str):Bool:=decide (s.length≤2000) && zhw s
theorem Wv(s:Str):P0 ve [.v (.str s)] []=some (.bool (X4 s),[]):=by
 rw[zfP];unfold zaj X4
 by_cases h:s.length≤2000
 ·have d:decide (((s.length:Nat):Int)≤2000)=true:=decide_eq_true (by omega)
  simp only[zb,qK,za,d,if_true,ze3 s (by omega),decide_eq_true h,Bool.true_and]
 ·have d:decide (((s.length:Nat):Int)≤2000)=false:=decide_eq_false (by omega)
  simp only[zb,qK,za,d,zF,if_false,decide_eq_false h,Bool.false_and]
end Go.Ev
end
section
namespace Go.Ev
attribute [local irreducible] P0
theorem zrZ(n:Nat):(XO n).2=0↔n=0∨n % 10≠0:=by
 constructor
 ·intro h
  by_cases h0:n≠0∧n % 10=0
  ·rw[ze7 h0.1 h0.2]at h;simp at h
  ·omega
 ·intro h;rw[zeF h]
def nokB(n:Nm):Bool:=if n.m=[]then(!n.neg && decide (n.e=0))else decide (n.m.length≤90∧lat n.m (n.m.length - 1)≠0 ∧ -1200≤n.e∧n.e≤1200∧xx n.m % 10≠0)
theorem zoY{l:List Nat}(h:l≠[])(h2:lat l (l.length - 1)≠0):Nrm l∧xx l≠0:=by
 have hp:=List.length_pos_iff.2 h
 have hn:Nrm l:=by
  unfold Nrm;intro h3
  unfold lat at h2;rw[h3]at h2;exact h2 rfl
 exact⟨hn,fun h0=>h (zkz hn h0)⟩
theorem zjo(n:Nm)(hu:U32 n.m)(hl:n.m.length≤9223372036854775807):P0 vy [.v n.val] []=some (.bool (nokB n),[]):=by
 rw[zgg];unfold zap
 unfold nokB
 by_cases h0:n.m=[]
 ·rw[if_pos h0]
  cases hn:n.neg<;>(apply yes;simp[h0,hn])
 ·have hp:=List.length_pos_iff.2 h0
  rw[if_neg h0]
  have e2:=w64 (a:=(n.m.length:Int) - 1) (by omega)
  have e3:=zpZ .i64 ((n.m.length:Int) - 1) n.m.length (by omega)
  have e4:((n.m.length:Int) - 1).toNat=n.m.length - 1:=by omega
  have e8:n.m.length - 1<n.m.length:=by omega
  have e5:n.m[n.m.length - 1]=lat n.m (n.m.length - 1):=by unfold lat;rw[zL e8];rfl
  by_cases c1:n.m.length≤90
  ·have ht:=zmx n.m hu (by omega)
   have c1' : ¬ ((90:Int)<(n.m.length:Int))∧(n.m.length:Int)≤90:=by omega
   by_cases c2:lat n.m (n.m.length - 1)=0
   ·apply yes;simp[h0,c1',e2,e3,e4,e8,e5,c2]
   ·by_cases c3:n.e < -1200
    ·have c3' : ¬ (-1200≤n.e):=by omega
     apply yes;simp[h0,c1',e2,e3,e4,e8,e5,c2,c3,c3']
    ·have c3' : ¬ (n.e < -1200) ∧ -1200≤n.e:=by omega
     by_cases c4:1200<n.e
     ·have c4' : ¬ (n.e≤1200):=by omega
      apply yes;simp[h0,c1',e2,e3,e4,e8,e5,c2,c3',c4,c4']
     ·have c4' : ¬ (1200<n.e)∧n.e≤1200:=by omega
      have hv:=(zoY h0 c2).2
      have c5:(XO (xx n.m)).2=0 ↔ ¬ xx n.m % 10=0:=by rw[zrZ];omega
      apply yes;simp[h0,c1,c1',e2,e3,e4,e8,e5,c2,c3',c4',ht,c5]
  ·have c1':((90:Int)<(n.m.length:Int)) ∧ ¬ (n.m.length:Int)≤90:=by omega
   apply yes;simp[h0,c1',c1]
theorem Nm.ok.nokB{n:Nm}(h:n.ok):nokB n=true:=by
 unfold Ev.nokB
 rcases h with⟨h1,h2,h3⟩ | ⟨h1,h2,h3,h4,h5,h6,h7⟩
 ·rw[if_pos h1,h2,h3];rfl
 ·rw[if_neg h1,decide_eq_true_eq]
  refine⟨h3,?_,h5,h6,by rw[← (zei 10 (by decide) n.m).2];exact h7⟩
  have hp:=List.length_pos_iff.2 h1
  unfold lat
  intro h0
  rw[zL (by omega)]at h0
  exact h4 (by rw[zL (by omega)];congr 1)
theorem zo1{i:Nat}(h:i≤9223372036854775806):IntKind.i64.wrap ((i:Int)+1)=((i+1:Nat):Int):=w64 (a:=(i:Int)+1) (by omega)
/-- names that an object may have -/
def Vd(l:List Str)(i:Nat):Prop := ∀ k (h:k<l.length),i≤k→X4 l[k]=true∧(∀ (h0:0<k),lt (l[k - 1]'(by omega)) l[k]=true)
theorem ziy(l:List Str)(hl:l.length≤9223372036854775807)(m:Nat) : ∀ i,i+m=l.length →
  (Vd l i→yk (yP l.length (.sl (strs l))) (vec [.int .i64 (i:Int)])=some (0,vec []))∧(¬ Vd l i→yk (yP l.length (.sl (strs l))) (vec [.int .i64 (i:Int)])=some (1,vec [.bool false])):=by
 induction m with
 | zero=>
  intro i hi
  refine⟨fun _=>zr ?_,fun h=>absurd (fun k hk hik=>by omega) h⟩
  unfold yP
  have c1 : ¬ (i:Int)<(l.length:Int):=by omega
  simp only[zb,zl,zw,c1,decide_false,za,zc,zF,if_false]
 | succ m ih=>
  intro i hi
  have h1:i<l.length:=by omega
  have c1:(i:Int)<(l.length:Int):=by omega
  have hx:l[i]?=some l[i]:=zL h1
  obtain⟨q1,q2⟩:=ih (i+1) (by omega)
  have split:Vd l i↔(X4 l[i]=true∧(∀ h0:0<i,lt (l[i - 1]'(by omega)) l[i]=true))∧Vd l (i+1):=by
   constructor
   ·intro h;exact⟨h i h1 (zR i),fun k hk hik=>h k hk (by omega)⟩
   ·rintro⟨ha,hb⟩ k hk hik
    by_cases e:k=i
    ·subst e;exact ha
    ·exact hb k hk (by omega)
  by_cases ht:X4 l[i]=true
  ·by_cases h0:0<i
   ·have c3:(0:Int)<(i:Int):=by omega
    have hm:IntKind.i64.wrap ((i:Int) - 1)=((i - 1:Nat):Int):=by rw[w64 (a:=(i:Int) - 1) (by omega)];omega
    have hy:l[i - 1]?=some l[i - 1]:=zL (by omega)
    cases hlt:lt (l[i - 1]'(by omega)) l[i]with
    | true=>
     have g1:Op.bytesLess (l[i - 1]'(by omega)) l[i]=true:=hlt
     have step:yk (yP l.length (.sl (strs l))) (vec [.int .i64 (i:Int)])=yk (yP l.length (.sl (strs l))) (vec [.int .i64 ((i+1:Nat):Int)]):=by
      apply zy
      unfold yP
      simp only[zb,zl,zw,c1,decide_true,za,zc,if_true,yI,zf,zp _ i l.length h1,xB,hx,zC,y4,Wv,ht,y0,zH,YS,c3,W3,hm,zp _ (i - 1) l.length (by omega),hy,znU,g1,zF,if_false,xo,zo1 (i:=i) (by omega)]
     rw[step]
     exact⟨fun h=>q1 (split.1 h).2,fun h=>q2 (fun h2=>h (split.2 ⟨⟨ht,fun _=>hlt⟩,h2⟩))⟩
    | false=>
     have g1:Op.bytesLess (l[i - 1]'(by omega)) l[i]=false:=hlt
     refine⟨fun h => ?_,fun _=>zr ?_⟩
     ·have:=(split.1 h).1.2 h0;rw[hlt]at this;contradiction
     ·unfold yP
      simp only[zb,zl,zw,c1,decide_true,za,zc,if_true,yI,zf,zp _ i l.length h1,xB,hx,zC,y4,Wv,ht,y0,zH,YS,c3,W3,hm,zp _ (i - 1) l.length (by omega),hy,znU,g1,zI]
   ·have c3 : ¬ (0:Int)<(i:Int):=by omega
    have step:yk (yP l.length (.sl (strs l))) (vec [.int .i64 (i:Int)])=yk (yP l.length (.sl (strs l))) (vec [.int .i64 ((i+1:Nat):Int)]):=by
     apply zy
     unfold yP
     simp only[zb,zl,zw,c1,decide_true,za,zc,if_true,yI,zf,zp _ i l.length h1,xB,hx,zC,y4,Wv,ht,y0,zH,YS,c3,decide_false,zF,if_false,xo,zo1 (i:=i) (by omega)]
    rw[step]
    exact⟨fun h=>q1 (split.1 h).2,fun h=>q2 (fun h2=>h (split.2 ⟨⟨ht,fun h=>absurd h h0⟩,h2⟩))⟩
  ·have ht':X4 l[i]=false:=by simpa using ht
   refine⟨fun h=>absurd (split.1 h).1.1 ht,fun _=>zr ?_⟩
   unfold yP
   simp only[zb,zl,zw,c1,decide_true,za,zc,if_true,yI,zf,zp _ i l.length h1,xB,hx,zC,y4,Wv,ht',y0,zI,zX,if_false]
def zmz(l:List Str):Prop:=Vd l 0∧l.length≤300
open Classical in
noncomputable def zaF(l:List Str):Bool:=decide (zmz l)
theorem zcI(l:List Str):zaF l=true↔zmz l:=by unfold zaF;exact @decide_eq_true_iff (zmz l) (Classical.propDecidable _)
theorem znQ{l:List Str}(h : ¬ zmz l):zaF l=false:=by
 cases hb:zaF l with
 | false=>rfl
 | true=>exact absurd ((zcI l).1 hb) h
theorem zk4(l:List Str)(hl:l.length≤9223372036854775807):P0 vJ [.v (.sl (strs l))] []=some (.bool (zaF l),[]):=by
 obtain⟨q1,q2⟩:=ziy l hl l.length 0 (by omega)
 rw[show((0:Nat):Int)=0 from rfl]at q1 q2
 rw[zdW];unfold Jy
 by_cases h:Vd l 0
 ·simp only[zb,zg,zf,za,q1 h,if_true]
  by_cases h3:l.length≤300
  ·rw[decide_eq_true (show((l.length:Nat):Int)≤300 by omega),(zcI l).2 ⟨h,h3⟩]
  ·rw[decide_eq_false (show ¬ ((l.length:Nat):Int)≤300 by omega),znQ (fun q=>h3 q.2)]
 ·simp only[zb,zg,zf,za,q2 h,Nat.one_ne_zero,if_false,zl]
  rw[znQ (fun q=>h q.1)]
end Go.Ev
end
section
namespace Go.Ev
attribute [local irreducible] P0
theorem zly(T N S K I:Bool):(((if T=true then some (V.bool N)else some (.bool false):Option V)).bind fun x52=>(asBool x52).bind fun b53=>((if b53=true then some (V.bool S)else some (.bool false):Option V)).bind fun x54=>(asBool x54).bind fun b55=>((if b55=true then some (V.bool K)else some (.bool false):Option V)).bind fun x56=>(asBool x56).bind fun b57=>((if b57=true then some (V.bool I)else some (.bool false):Option V)).bind fun x58=>some (x58,([]:List V)))=some (.bool (T && N && S && K && I),[]):=by
 cases T<;>cases N<;>cases S<;>cases K<;>rfl
theorem zsz(N S K I:Bool):((asBool (V.bool N)).bind fun b53=>((if b53=true then some (V.bool S)else some (.bool false):Option V)).bind fun x54=>(asBool x54).bind fun b55=>((if b55=true then some (V.bool K)else some (.bool false):Option V)).bind fun x56=>(asBool x56).bind fun b57=>((if b57=true then some (V.bool I)else some (.bool false):Option V)).bind fun x58=>some (x58,([]:List V)))=some (.bool (true && N && S && K && I),[]):=by
 cases N<;>cases S<;>cases K<;>rfl
def Xe(n:Nm):Bool := !n.neg && decide (n.m=[]) && decide (n.e=0)
def k0(t:Tree):Bool:=((t.k.length:Nat):Int) == 0
def v0(t:Tree):Bool:=((t.v.length:Nat):Int) == 0
/-- a value's own fields are such as its kind has -/
noncomputable def ownB(t:Tree):Bool:=
 if t.kind=1 then !t.b && Xe t.n && decide (t.s=[]) && k0 t && v0 t
 else if t.kind=2 then true && Xe t.n && decide (t.s=[]) && k0 t && v0 t
 else if t.kind=3 then !t.b && nokB t.n && decide (t.s=[]) && k0 t && v0 t
 else if t.kind=4 then !t.b && Xe t.n && X4 t.s && k0 t && v0 t
 else if t.kind=5 then !t.b && Xe t.n && decide (t.s.length≤2000) && k0 t && v0 t
 else if t.kind=7 then !t.b && Xe t.n && decide (t.s=[]) && (zaF t.k && decide (t.k.length=t.v.length)) && decide (t.v.length≤300)
 else if t.kind=6 then !t.b && Xe t.n && decide (t.s=[]) && k0 t && decide (t.v.length≤300)
 else false
/-- bounds that any value in memory keeps -/
def zrd(t:Tree):Prop:=U32 t.n.m∧t.n.m.length≤9223372036854775807∧t.k.length≤9223372036854775807
theorem zn6{α:Type}(l:List α):((((l.length:Nat):Int)) == 0)=decide (l=[]):=by
 cases l with
 | nil=>rfl
 | cons a r=>
  have : ¬ (((a::r).length:Nat):Int)=0:=by simp only[List.length_cons];omega
  rw[decide_eq_false (by simp),beq_eq_false_iff_ne];exact this
theorem zfq(s:Str):(s == ([]:Str))=decide (s=[]):=by cases s<;>rfl
theorem zkB(t:Tree)(h:zrd t):P0 qn [.v t.val] []=some (.bool (ownB t),[]):=by
 obtain⟨hu,hm,hk⟩:=h
 rw[zis];unfold zcY
 have e1:(((t.n.m.length:Nat):Int) == 0)=decide (t.n.m=[]):=zn6 _
 have e2:(((t.k.length:Nat):Int) == 0)=decide (t.k=[]):=zn6 _
 have e3:(((t.v.length:Nat):Int) == 0)=decide (t.v=[]):=zn6 _
 have x8:(if(!t.n.neg)=true then(zn t.val 3).bind fun c6=>(yX c6).bind fun n7=>some (.bool ((((n7:Nat):Int):Int) == 0))else some (.bool false):Option V)=some (.bool (!t.n.neg && decide (t.n.m=[]))):=by
  cases t.n.neg with
  | true=>rfl
  | false=>simp only[zb,zI,if_true,zpU,za,zg,xV,e1,Bool.true_and]
 have x12:(if(!t.n.neg && decide (t.n.m=[]))=true then(zn t.val 4).bind fun c10=>(ze .eql c10 (.int .i64 0)).bind fun x11=>some x11 else some (.bool false):Option V)=some (.bool (Xe t.n)):=by
  unfold Xe
  cases (!t.n.neg && decide (t.n.m=[]))with
  | false=>rfl
  | true=>simp only[zb,if_true,zqo,za,yV,Bool.true_and]
 by_cases h1:t.kind=1
 ·rw[show ownB t=_ from if_pos h1]
  simp only[zb,zd,zh,jv,zdv,zdz,Kh,zav,qj,za,y0,zc,x8,x12,jU,zfq,zg,zf,zm,yV,h1,Int.reduceEq,decide_true,if_true,zl]
  exact zly (!t.b) (Xe t.n) (decide (t.s=[])) (k0 t) (v0 t)
 by_cases h2:t.kind=2
 ·rw[show ownB t=_ from(if_neg h1).trans (if_pos h2)]
  simp only[zb,zd,zh,jv,zdv,zdz,Kh,zav,qj,za,y0,zc,x8,x12,jU,zfq,zg,zf,zm,yV,h2,Int.reduceEq,decide_true,decide_false,zF,if_false,if_true,zl]
  exact zsz (Xe t.n) (decide (t.s=[])) (k0 t) (v0 t)
 by_cases h3:t.kind=3
 ·rw[show ownB t=_ from(if_neg h1).trans ((if_neg h2).trans (if_pos h3))]
  simp only[zb,zd,zh,jv,zdv,zdz,Kh,zav,qj,za,y0,zc,x8,x12,jU,zfq,zg,zf,zm,yV,h3,Int.reduceEq,decide_true,decide_false,zF,if_false,if_true,zl,zpN,zjo t.n hu hm]
  exact zly (!t.b) (nokB t.n) (decide (t.s=[])) (k0 t) (v0 t)
 by_cases h4:t.kind=4
 ·rw[show ownB t=_ from(if_neg h1).trans ((if_neg h2).trans ((if_neg h3).trans (if_pos h4)))]
  simp only[zb,zd,zh,jv,zdv,zdz,Kh,zav,qj,za,y0,zc,x8,x12,jU,zfq,zg,zf,zm,yV,h4,Int.reduceEq,decide_true,decide_false,zF,if_false,if_true,zl,Wv]
  exact zly (!t.b) (Xe t.n) (X4 t.s) (k0 t) (v0 t)
 by_cases h5:t.kind=5
 ·rw[show ownB t=_ from(if_neg h1).trans ((if_neg h2).trans ((if_neg h3).trans ((if_neg h4).trans (if_pos h5))))]
  have e5:decide (((t.s.length:Nat):Int)≤2000)=decide (t.s.length≤2000):=by
   by_cases q:t.s.length≤2000
   ·rw[decide_eq_true q,decide_eq_true (by omega)]
   ·rw[decide_eq_false q,decide_eq_false (by omega)]
  simp only[zb,zd,zh,jv,zdv,zdz,Kh,zav,qj,za,y0,zc,x8,x12,jU,zfq,zg,zf,zm,yV,h5,Int.reduceEq,decide_true,decide_false,zF,if_false,if_true,zl,qK]
  rw[e5]
  exact zly (!t.b) (Xe t.n) (decide (t.s.length≤2000)) (k0 t) (v0 t)
 have e300:decide (((t.v.length:Nat):Int)≤300)=decide (t.v.length≤300):=by
  by_cases q:t.v.length≤300
  ·rw[decide_eq_true q,decide_eq_true (by omega)]
  ·rw[decide_eq_false q,decide_eq_false (by omega)]
 have z2:(2:Nat)=0↔False:=by decide
 have z1:(2 - 1:Nat)=0↔False:=by decide
 by_cases h7:t.kind=7
 ·rw[show ownB t=_ from(if_neg h1).trans ((if_neg h2).trans ((if_neg h3).trans ((if_neg h4).trans ((if_neg h5).trans (if_pos h7)))))]
  have x44:(if zaF t.k=true then(zn t.val 6).bind fun c40=>(yX c40).bind fun n41=>(zn t.val 7).bind fun c42=>(yX c42).bind fun n43=>some (.bool ((((n41:Nat):Int):Int) == ((n43:Nat):Int)))else some (.bool false):Option V)=some (.bool (zaF t.k && decide (t.k.length=t.v.length))):=by
   cases zaF t.k with
   | false=>rfl
   | true=>
    have:(((t.k.length:Nat):Int) == ((t.v.length:Nat):Int))=decide (t.k.length=t.v.length):=by
     by_cases q:t.k.length=t.v.length
     ·rw[decide_eq_true q,q];simp
     ·rw[decide_eq_false q,beq_eq_false_iff_ne];omega
    simp only[zb,if_true,zav,qj,za,zg,zf,zm,this,Bool.true_and]
  simp only[zb,zd,zh,jv,zdv,zdz,Kh,zav,qj,za,y0,zc,x8,x12,jU,zfq,zg,zf,zm,yV,h7,Int.reduceEq,decide_true,decide_false,zF,if_false,if_true,zl,zk4 t.k hk,x44,z2,z1]
  rw[e300]
  exact zly (!t.b) (Xe t.n) (decide (t.s=[])) (zaF t.k && decide (t.k.length=t.v.length)) (decide (t.v.length≤300))
 by_cases h6:t.kind=6
 ·rw[show ownB t=_ from(if_neg h1).trans ((if_neg h2).trans ((if_neg h3).trans ((if_neg h4).trans ((if_neg h5).trans ((if_neg h7).trans (if_pos h6))))))]
  simp only[zb,zd,zh,jv,zdv,zdz,Kh,zav,qj,za,y0,zc,x8,x12,jU,zfq,zg,zf,zm,yV,h6,Int.reduceEq,decide_true,decide_false,zF,if_false,if_true,zl,z2,z1]
  rw[e300]
  exact zly (!t.b) (Xe t.n) (decide (t.s=[])) (k0 t) (decide (t.v.length≤300))
 ·rw[show ownB t=false from(if_neg h1).trans ((if_neg h2).trans ((if_neg h3).trans ((if_neg h4).trans ((if_neg h5).trans ((if_neg h7).trans (if_neg h6))))))]
  simp only[zb,zd,zh,jv,zdv,zdz,Kh,zav,qj,za,y0,zc,x8,x12,jU,zfq,zg,zf,zm,yV,h1,h2,h3,h4,h5,h6,h7,decide_false,zF,if_false,Nat.one_ne_zero,Nat.sub_self,if_true,zl]
end Go.Ev
end
section
namespace Go.Ev
attribute [local irreducible] P0
mutual
def depth:Tree→Nat
 | .mk _ _ _ _ _ v=>1+depthL v
def depthL:List Tree→Nat
 | []=>0
 | x::r=>max (depth x) (depthL r)
end
theorem YR(t:Tree):depth t=1+depthL t.v:=by cases t;rw[depth];rfl
theorem zmd{l:List Tree}{x:Tree}(h:x∈l):depth x≤depthL l:=by
 induction l with
 | nil=>simp at h
 | cons y r ih=>
  rw[depthL]
  rcases List.mem_cons.1 h with rfl | h
  ·omega
  ·have:=ih h;omega
theorem zeL{l:List Tree}{x:Tree}(h:x∈l):vo x≤nodesL l:=by
 induction l with
 | nil=>simp at h
 | cons y r ih=>
  rw[nodesL]
  rcases List.mem_cons.1 h with rfl | h
  ·omega
  ·have:=ih h;omega
theorem Kc(t:Tree):1≤vo t:=by rw[vW];omega
theorem zcu(l:List Tree):l.length≤nodesL l:=by
 induction l with
 | nil=>simp
 | cons x r ih=>rw[nodesL,List.length_cons];have:=Kc x;omega
inductive OkG:Tree→Prop
 | mk (t:Tree) (h:ownB t=true) (hv : ∀ x,x∈t.v→OkG x):OkG t
theorem OkG.own{t:Tree}(h:OkG t):ownB t=true:=by cases h;assumption
theorem OkG.sub{t:Tree}(h:OkG t) : ∀ x,x∈t.v→OkG x:=by cases h;assumption
inductive TameT:Tree→Prop
 | mk (t:Tree) (h:zrd t) (hv : ∀ x,x∈t.v→TameT x):TameT t
theorem zpW{t:Tree}(h:ownB t=true):t.v.length≤300:=by
 have v0f:v0 t=true→t.v.length≤300:=fun q=>by unfold v0 at q;have:=eq_of_beq q;omega
 unfold ownB at h
 repeat' (split at h)
 all_goals first
  | contradiction
  | (simp only[zG,decide_eq_true_eq]at h;first | exact h.2 | exact v0f h.2)
/-- what is asked of a value, so deep, with so many left -/
def Fits(t:Tree)(deep:Nat)(left:Int):Prop:=OkG t∧deep+depth t≤65∧(vo t:Int)≤left
def zhg(l:List Tree)(deep:Nat)(left:Int):Prop:=(∀ x,x∈l→OkG x∧deep+depth x≤65)∧(nodesL l:Int)≤left
theorem ziR(t:Tree)(deep:Nat)(hd:deep≤1000)(hl:t.v.length≤300)
  (hc : ∀ x,x∈t.v → ∀ left:Int,0≤left→left≤2000 → ∃ b left',P0 xF [.v x.val,.v (.int .i64 ((deep+1:Nat):Int)),.p 0 0] [(false,1,.int .i64 left)]=some (.bool b,[.int .i64 left'])∧(b=true↔Fits x (deep+1) left)∧(b=true→left'=left - vo x)) (m:Nat) : ∀ i (left:Int),i+m=t.v.length→0≤left→left≤2000 →
  ∃ j v left',yk (vr t.v.length (.sl (trs t.v)) (.int .i64 (deep:Int))) (vec [.int .i64 (i:Int),.int .i64 left])=some (j,v)∧((zhg (t.v.drop i) (deep+1) left∧j=0∧v=vec [.int .i64 left']∧left'=left - nodesL (t.v.drop i))∨(¬ zhg (t.v.drop i) (deep+1) left∧j=1∧v=vec [.bool false,.int .i64 left'])):=by
 induction m with
 | zero=>
  intro i left hi h0 h1
  have e:t.v.drop i=[]:=zQ (by omega)
  refine⟨0,vec [.int .i64 left],left,zr ?_,.inl ⟨?_,rfl,rfl,?_⟩⟩
  ·unfold vr
   have c1 : ¬ (i:Int)<(t.v.length:Int):=by omega
   simp only[zb,zl,yp,zw,c1,decide_false,za,zc,zF,if_false]
  ·rw[e];exact⟨fun x hx=>by simp at hx,by simp[nodesL];exact h0⟩
  ·rw[e];simp[nodesL]
 | succ m ih=>
  intro i left hi h0 h1
  have hlt:i<t.v.length:=by omega
  have c1:(i:Int)<(t.v.length:Int):=by omega
  have hx:t.v[i]?=some t.v[i]:=zL hlt
  obtain⟨b,l1,p1,p2,p3⟩:=hc _ (List.getElem_mem hlt) left h0 h1
  have hdr:=zO hlt
  have wd:IntKind.i64.wrap ((deep:Int)+1)=((deep+1:Nat):Int):=zo1 (by omega)
  cases b with
  | true=>
   have hf:=p2.1 rfl
   have hl1:=p3 rfl
   have hnp:=Kc t.v[i]
   obtain⟨f1,f2,f3⟩:=hf
   obtain⟨j,v,l2,q1,q2⟩:=ih (i+1) l1 (by omega) (by omega) (by omega)
   refine⟨j,v,l2,?_,?_⟩
   ·rw[← q1]
    apply zy
    unfold vr
    simp only[zb,zl,yp,zw,c1,decide_true,za,zc,if_true,xQ,zm,zp _ i t.v.length hlt,jy,hx,zC,zd,zh,xo,wd,p1,zM,y0,zH,zF,if_false,zo1 (i:=i) (by omega)]
   ·have key:zhg (t.v.drop i) (deep+1) left↔zhg (t.v.drop (i+1)) (deep+1) l1:=by
     rw[hdr]
     constructor
     ·rintro⟨a1,a2⟩
      rw[nodesL]at a2
      exact⟨fun x hx=>a1 x (zP _ hx),by omega⟩
     ·rintro⟨a1,a2⟩
      refine⟨fun x hx => ?_,by rw[nodesL];omega⟩
      rcases List.mem_cons.1 hx with rfl | hx
      ·exact⟨f1,f2⟩
      ·exact a1 x hx
    rcases q2 with⟨g1,g2,g3,g4⟩ | ⟨g1,g2,g3⟩
    ·exact .inl ⟨key.2 g1,g2,g3,by rw[hdr,nodesL];omega⟩
    ·exact .inr ⟨fun q=>g1 (key.1 q),g2,g3⟩
  | false=>
   refine⟨1,vec [.bool false,.int .i64 l1],l1,zr ?_,.inr ⟨fun q => ?_,rfl,rfl⟩⟩
   ·unfold vr
    simp only[zb,zl,yp,zw,c1,decide_true,za,zc,if_true,xQ,zm,zp _ i t.v.length hlt,jy,hx,zC,zd,zh,xo,wd,p1,zM,y0,zI]
   ·rw[hdr]at q
    obtain⟨a1,a2⟩:=q
    rw[nodesL]at a2
    have:=p2.2 ⟨(a1 _ List.mem_cons_self).1,(a1 _ List.mem_cons_self).2,by omega⟩
    contradiction
theorem zlN(t:Tree)(ht:TameT t) : ∀ (deep:Nat) (left:Int),deep≤66→0≤left→left≤2000 → ∃ b left',P0 xF [.v t.val,.v (.int .i64 (deep:Int)),.p 0 0] [(false,1,.int .i64 left)]=some (.bool b,[.int .i64 left'])∧(b=true↔Fits t deep left)∧(b=true→left'=left - vo t):=by
 induction ht with
 | mk t htm hv ih=>
  intro deep left hd h0 h1
  rw[zdM];unfold QS
  have w1:IntKind.i64.wrap (left - 1)=left - 1:=w64 (by omega)
  have hn:=Kc t
  by_cases c1:left - 1<0
  ·refine⟨false,left - 1,?_,⟨fun h=>by contradiction,fun h => ?_⟩,fun h=>by contradiction⟩
   ·simp only[zb,zd,zh,W3,w1,za,qG,vH,zw,c1,decide_true,zc,zX,if_false,if_true]
   ·have:=h.2.2;omega
  by_cases c2:64<deep
  ·have c2':(64:Int)<(deep:Int):=by omega
   refine⟨false,left - 1,?_,⟨fun h=>by contradiction,fun h => ?_⟩,fun h=>by contradiction⟩
   ·simp only[zb,zd,zh,W3,w1,za,qG,vH,zw,c1,decide_false,zc,if_true,YS,c2',decide_true,zX,if_false]
   ·have:=h.2.1;rw[YR]at this;omega
  have c2' : ¬ (64:Int)<(deep:Int):=by omega
  cases ho:ownB t with
  | false=>
   refine⟨false,left - 1,?_,⟨fun h=>by contradiction,fun h => ?_⟩,fun h=>by contradiction⟩
   ·simp only[zb,zd,zh,W3,w1,za,qG,vH,zw,c1,decide_false,zc,if_true,YS,c2',zkB t htm,ho,y0,zI]
   ·have:=h.1.own;rw[ho]at this;contradiction
  | true=>
   have hl:=zpW ho
   obtain⟨j,v,l2,q1,q2⟩:=ziR t deep (by omega) hl (fun x hx left a b=>ih x hx (deep+1) left (by omega) a b) t.v.length 0 (left - 1) (by omega) (by omega) (by omega)
   rw[show((0:Nat):Int)=0 from rfl]at q1
   rw[zU]at q2
   have key:zhg t.v (deep+1) (left - 1)↔Fits t deep left:=by
    constructor
    ·rintro⟨a1,a2⟩
     refine⟨.mk t ho (fun x hx=>(a1 x hx).1),?_,by rw[vW];omega⟩
     rw[YR]
     have : ∀ l:List Tree,(∀ x,x∈l→deep+1+depth x≤65)→deep+1≤65→deep+(1+depthL l)≤65:=by
      intro l
      induction l with
      | nil=>intro _ h;simp[depthL];omega
      | cons y r ihr=>
       intro h h2
       have g1:=h y List.mem_cons_self
       have g2:=ihr (fun x hx=>h x (zP _ hx)) h2
       rw[depthL];omega
     exact this t.v (fun x hx=>(a1 x hx).2) (by omega)
    ·rintro⟨a1,a2,a3⟩
     rw[vW]at a3
     rw[YR]at a2
     exact⟨fun x hx=>⟨a1.sub x hx,by have:=zmd hx;omega⟩,by omega⟩
   have main : ∀ {b:Bool} {l':Int},(if j=0 then some (V.bool true,[v 0])else some (v 0,[v 1]):Option (V×List V))=some (.bool b,[.int .i64 l'])→(tst (okN 8 t.val) ((ze .sub (.int .i64 left) (.int .i64 1)).bind fun x1=>
     tst (okN 1 x1) ((zn x1 0).bind fun c2=>(ze .lss c2 (.int .i64 0)).bind fun x3=>(asBool x3).bind fun b4=>((if b4=false then(ze .gtr (.int .i64 (deep:Int)) (.int .i64 64)).bind fun x5=>some x5 else some (.bool true):Option V)).bind fun x6=>(asBool x6).bind fun b7=>
     ((if b7=false then(P0 qn [.v t.val] []).bind fun r8=>(unV .not r8.1).bind fun x9=>some x9 else some (.bool true):Option V)).bind fun x10=>(asBool x10).bind fun b11=>if b11=true then some ((.bool false),[c2])else(zn t.val 7).bind fun c12=>(yX c12).bind fun n13=>
     (yk (vr n13 c12 (.int .i64 (deep:Int))) (vec [(.int .i64 0),c2])).bind fun o26=>if o26.1=0 then some ((.bool true),[(o26.2 0)])else some ((o26.2 0),[(o26.2 1)]))))=some (.bool b,[.int .i64 l']):=by
    intro b l' h
    simp only[zb,zd,zh,W3,w1,za,qG,vH,zw,c1,decide_false,zc,if_true,YS,c2',zkB t htm,ho,y0,zH,zF,if_false,qj,zg,zm,q1]
    exact h
   rcases q2 with⟨g1,g2,g3,g4⟩ | ⟨g1,g2,g3⟩
   ·refine⟨true,l2,main (by rw[g2,g3];rfl),⟨fun _=>key.1 g1,fun _=>rfl⟩,fun _=>by rw[g4,vW];omega⟩
   ·refine⟨false,l2,main (by rw[g2,g3];rfl),⟨fun h=>by contradiction,fun h=>absurd (key.2 h) g1⟩,fun h=>by contradiction⟩
theorem zlK(t:Tree)(ht:TameT t) : ∃ b,P0 xj [.v t.val] []=some (.bool b,[])∧(b=true↔OkG t∧depth t≤64∧vo t≤2000):=by
 obtain⟨b,l',h1,h2,h3⟩:=zlN t ht 1 2000 (by decide) (by decide) (by decide)
 have h1:P0 xF [.v t.val,.v (.int .i64 1),.p 0 0] [(false,1,.int .i64 2000)]=some (.bool b,[.int .i64 l']):=h1
 refine⟨b,?_,h2.trans ⟨fun⟨a1,a2,a3⟩=>⟨a1,by omega,by omega⟩,fun⟨a1,a2,a3⟩=>⟨a1,by omega,by omega⟩⟩⟩
 rw[zdI];unfold QT
 simp only[zb,zd,zh,h1,za,zM]
end Go.Ev
end
section
namespace Go.Ev
attribute [local irreducible] P0
def w1(t:Tree):Nat:=1+(if t.kind=3 then t.n.m.length else if t.kind=4 then t.s.length else if t.kind=5 then t.s.length else 0)
mutual
def yj:Tree→Nat
 | .mk kind b n s k v=>w1 (.mk kind b n s k v)+weightL v
def weightL:List Tree→Nat
 | []=>0
 | x::r=>yj x+weightL r
end
theorem xZ(t:Tree):yj t=w1 t+weightL t.v:=by cases t;rw[yj];rfl
theorem Qa(t:Tree):1≤w1 t:=by unfold w1;omega
theorem zfS(l:List Tree)(i:Nat)(h:i<l.length):weightL (l.drop i)=yj l[i]+weightL (l.drop (i+1)):=by
 rw[zO h,weightL]
theorem QA{l:List Tree}{x:Tree}(h:x∈l):yj x≤weightL l:=by
 induction l with
 | nil=>simp at h
 | cons y r ih=>
  rw[weightL]
  rcases List.mem_cons.1 h with rfl | h
  ·omega
  ·have:=ih h;omega
theorem WL(l:List Tree):l.length≤weightL l:=by
 induction l with
 | nil=>simp
 | cons x r ih=>rw[weightL,List.length_cons,xZ];have:=Qa x;omega
theorem zgK(t:Tree)(hl:t.v.length≤1000000000)(hw : ∀ x,x∈t.v→P0 xz [.v x.val] []=some (.int .i64 (yj x:Nat),[]))(m:Nat) : ∀ (i a:Nat),i+m=t.v.length→a+weightL (t.v.drop i)≤1000000000 →
  yk (qW t.v.length (.sl (trs t.v))) (vec [.int .i64 (a:Int),.int .i64 (i:Int)])=some (0,vec [.int .i64 ((a+weightL (t.v.drop i):Nat):Int)]):=by
 induction m with
 | zero=>
  intro i a hi ha
  apply zr
  unfold qW
  have c1 : ¬ (i:Int)<(t.v.length:Int):=by omega
  have e:t.v.drop i=[]:=zQ (by omega)
  simp only[zb,zl,yp,zw,c1,decide_false,za,zc,zF,if_false,e,weightL,Nat.add_zero]
 | succ m ih=>
  intro i a hi ha
  have hlt:i<t.v.length:=by omega
  have c1:(i:Int)<(t.v.length:Int):=by omega
  have hx:t.v[i]?=some t.v[i]:=zL hlt
  rw[zfS _ _ hlt]at ha ⊢
  have wa:IntKind.i64.wrap ((a:Int)+((yj t.v[i]:Nat):Int))=((a+yj t.v[i]:Nat):Int):=w64 (a:=(a:Int)+((yj t.v[i]:Nat):Int)) (by omega)
  rw[← Nat.add_assoc,← ih (i+1) (a+yj t.v[i]) (by omega) (by omega)]
  apply zy
  unfold qW
  simp only[zb,zl,yp,zw,c1,decide_true,za,zc,if_true,xQ,zm,zp _ i t.v.length hlt,jy,hx,zC,zd,zh,hw _ (List.getElem_mem hlt),xo,wa,yM (i:=i) (by omega)]
theorem Xq : ∀ t:Tree,yj t≤1000000000→P0 xz [.v t.val] []=some (.int .i64 (yj t:Nat),[]):=by
 intro t
 induction t using Tree.ind with
 | h t ih=>
  intro hw
  rw[xZ]at hw
  have hlen:=WL t.v
  have hp:=Qa t
  have hloop:=zgK t (by omega) (fun x hx=>ih x hx (by have:=QA hx;omega)) t.v.length 0 (w1 t) (by omega) (by rw[zU];omega)
  rw[zU,show((0:Nat):Int)=0 from rfl,← xZ]at hloop
  rw[zdp];unfold VU
  by_cases h3:t.kind=3
  ·have e:w1 t=1+t.n.m.length:=by unfold w1;rw[if_pos h3]
   have wn:IntKind.i64.wrap (1+((t.n.m.length:Nat):Int))=((w1 t:Nat):Int):=by rw[w64 (a:=1+((t.n.m.length:Nat):Int)) (by omega)];omega
   simp only[zb,zd,zh,jv,za,yV,h3,decide_true,zc,if_true,zpU,zg,xV,wn,qj,zm,zl,hloop]
  by_cases h45:t.kind=4∨t.kind=5
  ·have e:w1 t=1+t.s.length:=by unfold w1;rw[if_neg h3];rcases h45 with h | h<;>simp[h]
   have wn:IntKind.i64.wrap (1+((t.s.length:Nat):Int))=((w1 t:Nat):Int):=by rw[w64 (a:=1+((t.s.length:Nat):Int)) (by omega)];omega
   rcases h45 with h | h
   ·simp only[zb,zd,zh,jv,za,yV,h,Int.reduceEq,decide_true,decide_false,zc,zF,if_false,if_true,zl,Kh,qK,wn,qj,zg,zm,hloop]
   ·simp only[zb,zd,zh,jv,za,yV,h,Int.reduceEq,decide_true,decide_false,zc,zF,if_false,if_true,zl,Kh,qK,wn,qj,zg,zm,hloop]
  ·have e:w1 t=1:=by
    unfold w1;rw[if_neg h3,if_neg (fun h=>h45 (.inl h)),if_neg (fun h=>h45 (.inr h))]
   have h4 : ¬ t.kind=4:=fun h=>h45 (.inl h)
   have h5 : ¬ t.kind=5:=fun h=>h45 (.inr h)
   rw[e,show((1:Nat):Int)=1 from rfl]at hloop
   simp only[zb,zd,zh,jv,za,yV,h3,h4,h5,decide_false,zc,zF,if_false,zl,qj,zg,zm,hloop]
theorem zjL(t:Tree)(hl:t.v.length≤1000000000)(hw : ∀ x,x∈t.v→P0 xN [.v x.val] []=some (.int .i64 (vo x:Nat),[]))(m:Nat) : ∀ (i a:Nat),i+m=t.v.length→a+nodesL (t.v.drop i)≤1000000000 →
  yk (jE t.v.length (.sl (trs t.v))) (vec [.int .i64 (a:Int),.int .i64 (i:Int)])=some (0,vec [.int .i64 ((a+nodesL (t.v.drop i):Nat):Int)]):=by
 induction m with
 | zero=>
  intro i a hi ha
  apply zr
  unfold jE
  have c1 : ¬ (i:Int)<(t.v.length:Int):=by omega
  have e:t.v.drop i=[]:=zQ (by omega)
  simp only[zb,zl,yp,zw,c1,decide_false,za,zc,zF,if_false,e,nodesL,Nat.add_zero]
 | succ m ih=>
  intro i a hi ha
  have hlt:i<t.v.length:=by omega
  have c1:(i:Int)<(t.v.length:Int):=by omega
  have hx:t.v[i]?=some t.v[i]:=zL hlt
  have hd:nodesL (t.v.drop i)=vo t.v[i]+nodesL (t.v.drop (i+1)):=by rw[zO hlt,nodesL]
  rw[hd]at ha ⊢
  have wa:IntKind.i64.wrap ((a:Int)+((vo t.v[i]:Nat):Int))=((a+vo t.v[i]:Nat):Int):=w64 (a:=(a:Int)+((vo t.v[i]:Nat):Int)) (by omega)
  rw[← Nat.add_assoc,← ih (i+1) (a+vo t.v[i]) (by omega) (by omega)]
  apply zy
  unfold jE
  simp only[zb,zl,yp,zw,c1,decide_true,za,zc,if_true,xQ,zm,zp _ i t.v.length hlt,jy,hx,zC,zd,zh,hw _ (List.getElem_mem hlt),xo,wa,yM (i:=i) (by omega)]
theorem J0 : ∀ t:Tree,vo t≤1000000000→P0 xN [.v t.val] []=some (.int .i64 (vo t:Nat),[]):=by
 intro t
 induction t using Tree.ind with
 | h t ih=>
  intro hw
  rw[vW]at hw
  have hlen:=zcu t.v
  have hloop:=zjL t (by omega) (fun x hx=>ih x hx (by have:=zeL hx;omega)) t.v.length 0 1 (by omega) (by rw[zU];omega)
  rw[zU,show((0:Nat):Int)=0 from rfl,show((1:Nat):Int)=1 from rfl,← vW]at hloop
  rw[zdO];unfold Js
  simp only[zb,zd,zh,qj,za,zg,zm,hloop,zl]
theorem zqN(a b:Nat):zhU (.int .i64 (a:Int)) [.int .i64 (b:Int)]=some (.int .i64 ((max a b:Nat):Int)):=by
 simp only[zhU,if_pos]
 congr 2
 split<;>omega
theorem ziS(t:Tree)(hl:t.v.length≤1000000000)(hw : ∀ x,x∈t.v→P0 xL [.v x.val] []=some (.int .i64 (depth x:Nat),[]))(m:Nat) : ∀ (i a:Nat),i+m=t.v.length →
  yk (jB t.v.length (.sl (trs t.v))) (vec [.int .i64 (a:Int),.int .i64 (i:Int)])=some (0,vec [.int .i64 ((max a (depthL (t.v.drop i)):Nat):Int)]):=by
 induction m with
 | zero=>
  intro i a hi
  apply zr
  unfold jB
  have c1 : ¬ (i:Int)<(t.v.length:Int):=by omega
  have e:t.v.drop i=[]:=zQ (by omega)
  simp only[zb,zl,yp,zw,c1,decide_false,za,zc,zF,if_false,e,depthL,Nat.max_zero]
 | succ m ih=>
  intro i a hi
  have hlt:i<t.v.length:=by omega
  have c1:(i:Int)<(t.v.length:Int):=by omega
  have hx:t.v[i]?=some t.v[i]:=zL hlt
  have hd:depthL (t.v.drop i)=max (depth t.v[i]) (depthL (t.v.drop (i+1))):=by rw[zO hlt,depthL]
  rw[hd,← Nat.max_assoc,← ih (i+1) (max a (depth t.v[i])) (by omega)]
  apply zy
  unfold jB
  simp only[zb,zl,yp,zw,c1,decide_true,za,zc,if_true,xQ,zm,zp _ i t.v.length hlt,jy,hx,zC,zd,zh,hw _ (List.getElem_mem hlt),zqN,xo,yM (i:=i) (by omega)]
theorem zgI : ∀ t:Tree,depth t≤vo t:=by
 intro t
 induction t using Tree.ind with
 | h t ih=>
  rw[YR,vW]
  have : ∀ l:List Tree,(∀ x,x∈l→depth x≤vo x)→depthL l≤nodesL l:=by
   intro l
   induction l with
   | nil=>intro _;simp[depthL]
   | cons y r ihr=>
    intro h
    have h1:=h y List.mem_cons_self
    have h2:=ihr (fun x hx=>h x (zP _ hx))
    rw[depthL,nodesL];omega
  have:=this t.v ih
  omega
theorem zew : ∀ t:Tree,vo t≤1000000000→P0 xL [.v t.val] []=some (.int .i64 (depth t:Nat),[]):=by
 intro t
 induction t using Tree.ind with
 | h t ih=>
  intro hw
  have hdn:=zgI t
  rw[vW]at hw
  have hlen:=zcu t.v
  have hloop:=ziS t (by omega) (fun x hx=>ih x hx (by have:=zeL hx;omega)) t.v.length 0 0 (by omega)
  rw[zU,show((0:Nat):Int)=0 from rfl,Nat.zero_max]at hloop
  rw[YR,vW]at hdn
  have wd:IntKind.i64.wrap (1+((depthL t.v:Nat):Int))=((depth t:Nat):Int):=by rw[w64 (a:=1+((depthL t.v:Nat):Int)) (by omega),YR];omega
  rw[zdK];unfold Ju
  simp only[zb,zd,zh,qj,za,zg,zm,hloop,zl,xo,wd]
end Go.Ev
end
section
namespace Go.Ev
attribute [local irreducible] P0
theorem Kt{t:Tree}(h:t.k=[]):k0 t=true:=by unfold k0;rw[h];rfl
theorem zcW{t:Tree}(h:t.v=[]):v0 t=true:=by unfold v0;rw[h];rfl
theorem zj6{s:Str}(h:(dec8 s).isSome=true)(hl:s.length≤2000):X4 s=true:=by
 unfold X4;rw[decide_eq_true hl,zkc h];rfl
theorem zqX{l:List Str}(hs:Srt l)(hn : ∀ x,x∈l→(dec8 x).isSome=true∧x.length≤2000)(hl:l.length≤300):zmz l:=
 ⟨fun k hk _=>⟨zj6 (hn _ (List.getElem_mem hk)).1 (hn _ (List.getElem_mem hk)).2,fun h0=>zq5 hs (k - 1) k hk (by omega)⟩,hl⟩
theorem zrV{t:Tree}(h:t.kind=1):ownB t=(!t.b && Xe t.n && decide (t.s=[]) && k0 t && v0 t):=if_pos h
theorem zrR{t:Tree}(h:t.kind=2):ownB t=(true && Xe t.n && decide (t.s=[]) && k0 t && v0 t):=(if_neg (by omega)).trans (if_pos h)
theorem zrl{t:Tree}(h:t.kind=3):ownB t=(!t.b && nokB t.n && decide (t.s=[]) && k0 t && v0 t):=(if_neg (by omega)).trans ((if_neg (by omega)).trans (if_pos h))
theorem zrJ{t:Tree}(h:t.kind=4):ownB t=(!t.b && Xe t.n && X4 t.s && k0 t && v0 t):=(if_neg (by omega)).trans ((if_neg (by omega)).trans ((if_neg (by omega)).trans (if_pos h)))
theorem zro{t:Tree}(h:t.kind=5):ownB t=(!t.b && Xe t.n && decide (t.s.length≤2000) && k0 t && v0 t):=(if_neg (by omega)).trans ((if_neg (by omega)).trans ((if_neg (by omega)).trans ((if_neg (by omega)).trans (if_pos h))))
theorem zse{t:Tree}(h:t.kind=7):ownB t=(!t.b && Xe t.n && decide (t.s=[]) && (zaF t.k && decide (t.k.length=t.v.length)) && decide (t.v.length≤300)):=(if_neg (by omega)).trans ((if_neg (by omega)).trans ((if_neg (by omega)).trans ((if_neg (by omega)).trans ((if_neg (by omega)).trans (if_pos h)))))
theorem zr1{t:Tree}(h:t.kind=6):ownB t=(!t.b && Xe t.n && decide (t.s=[]) && k0 t && decide (t.v.length≤300)):=(if_neg (by omega)).trans ((if_neg (by omega)).trans ((if_neg (by omega)).trans ((if_neg (by omega)).trans ((if_neg (by omega)).trans ((if_neg (by omega)).trans (if_pos h))))))
theorem OkT.ownB{t:Tree}(h:OkT t):ownB t=true:=by
 cases h with
 | null=>rw[zrV rfl,Kt rfl,zcW rfl];rfl
 | bool b=>rw[zrR rfl,Kt rfl,zcW rfl];rfl
 | num n hn=>rw[zrl rfl,Kt rfl,zcW rfl,show nokB (Tree.mk 3 false n [] [] []).n=true from hn.nokB];rfl
 | text s hs hl=>rw[zrJ rfl,Kt rfl,zcW rfl,show X4 (Tree.mk 4 false .zero s [] []).s=true from zj6 hs hl];rfl
 | bytes s hl=>rw[zro rfl,Kt rfl,zcW rfl,decide_eq_true (show(Tree.mk 5 false .zero s [] []).s.length≤2000 from hl)];rfl
 | arr v hl hv=>rw[zr1 rfl,Kt rfl,decide_eq_true (show(Tree.mk 6 false .zero [] [] v).v.length≤300 from hl)];rfl
 | obj l hs hl hn hv=>
  have e1:zaF (Ev.obj l).k=true:=(zcI _).2 (zqX (l:=names l) hs hn (by rw[jg];exact hl))
  have e2:decide ((Ev.obj l).k.length=(Ev.obj l).v.length)=true:=decide_eq_true (by show(names l).length=(yn l).length;rw[jg,jf])
  have e3:decide ((Ev.obj l).v.length≤300)=true:=decide_eq_true (by show(yn l).length≤300;rw[jf];exact hl)
  rw[zse rfl,e1,e2,e3];rfl
theorem OkT.okG{t:Tree}:OkT t→OkG t:=by
 induction t using Tree.ind with
 | h t ih=>exact fun h => .mk t h.ownB (fun x hx=>ih x hx (h.sub x hx))
theorem OkT.tame{t:Tree}:OkT t→TameT t:=by
 induction t using Tree.ind with
 | h t ih=>exact fun h => .mk t ⟨(zom h.num_ok).1,by have:=(zom h.num_ok).2.2;omega,by have:=h.lens.1;omega⟩ (fun x hx=>ih x hx (h.sub x hx))
theorem zhM{t:Tree}(h:OkT t)(hd:depth t≤64)(hn:vo t≤2000):P0 xj [.v t.val] []=some (.bool true,[]):=by
 obtain⟨b,h1,h2⟩:=zlK t h.tame
 rw[h1,h2.2 ⟨h.okG,hd,hn⟩]
end Go.Ev
end
section
namespace Go.Ev
attribute [local irreducible] P0
theorem zkG(a b:Nat):(((a:Nat):Int) != ((b:Nat):Int)) = !decide (a=b):=by
 by_cases h:a=b
 ·subst h;simp
 ·have : ¬ ((a:Int)=(b:Int)):=by omega
  simp[h,bne,this]
theorem zno(a b:List Str)(hl:a.length=b.length)(hb:a.length≤1000000)(k:Nat) : ∀ i,i+k=a.length →
  (a.drop i=b.drop i→yk (yz a.length (.sl (strs a)) (.sl (strs b))) (vec [.int .i64 (i:Int)])=some (0,vec []))∧(a.drop i≠b.drop i→yk (yz a.length (.sl (strs a)) (.sl (strs b))) (vec [.int .i64 (i:Int)])=some (1,vec [.bool false])):=by
 induction k with
 | zero=>
  intro i hi
  have e1:a.drop i=[]:=zQ (by omega)
  have e2:b.drop i=[]:=zQ (by omega)
  refine⟨fun _=>zr ?_,fun h=>absurd (e1.trans e2.symm) h⟩
  unfold yz
  have c1 : ¬ (i:Int)<(a.length:Int):=by omega
  simp only[zb,zl,zw,c1,decide_false,za,zc,zF,if_false]
 | succ k ih=>
  intro i hi
  have h1:i<a.length:=by omega
  have h2:i<b.length:=by omega
  have c1:(i:Int)<(a.length:Int):=by omega
  have hx:a[i]?=some a[i]:=zL h1
  have hy:b[i]?=some b[i]:=zL h2
  have hd:a.drop i=b.drop i↔a[i]=b[i]∧a.drop (i+1)=b.drop (i+1):=by rw[zO h1,zO h2];exact List.cons_eq_cons
  by_cases he:a[i]=b[i]
  ·have heb:(b[i] == b[i])=true:=by simp
   have step:yk (yz a.length (.sl (strs a)) (.sl (strs b))) (vec [.int .i64 (i:Int)])=yk (yz a.length (.sl (strs a)) (.sl (strs b))) (vec [.int .i64 ((i+1:Nat):Int)]):=by
    apply zy
    unfold yz
    simp only[zb,zl,zw,c1,decide_true,za,zc,if_true,yI,zf,zp _ i a.length h1,zp _ i b.length h2,xB,hx,hy,zC,y4,zeA,he,heb,zH,zF,if_false,xo,yM (i:=i) (by omega)]
   rw[step]
   obtain⟨q1,q2⟩:=ih (i+1) (by omega)
   exact⟨fun h=>q1 (hd.1 h).2,fun h=>q2 (fun e=>h (hd.2 ⟨he,e⟩))⟩
  ·refine⟨fun h=>absurd (hd.1 h).1 he,fun _=>zr ?_⟩
   have heb:(a[i] == b[i])=false:=by simpa using he
   unfold yz
   simp only[zb,zl,zw,c1,decide_true,za,zc,if_true,yI,zf,zp _ i a.length h1,zp _ i b.length h2,xB,hx,hy,zC,y4,zeA,heb,zI]
theorem seq_ok(a b:List Str)(hb:a.length≤1000000):P0 ya [.v (.sl (strs a)),.v (.sl (strs b))] []=some (.bool (decide (a=b)),[]):=by
 rw[XW];unfold jT
 by_cases hl:a.length=b.length
 ·have h:=zno a b hl hb a.length 0 (by omega)
  rw[zU,zU,show((0:Nat):Int)=0 from rfl]at h
  have hn:(((a.length:Nat):Int) != ((b.length:Nat):Int))=false:=by rw[zkG,decide_eq_true hl];rfl
  by_cases he:a=b
  ·simp only[zb,zg,zf,za,hn,zF,if_false,h.1 he,if_true,decide_eq_true he]
  ·simp only[zb,zg,zf,za,hn,zF,if_false,h.2 he,Nat.one_ne_zero,zl,decide_eq_false he]
 ·have he:a≠b:=fun e=>hl (by rw[e])
  have hn:(((a.length:Nat):Int) != ((b.length:Nat):Int))=true:=by rw[zkG,decide_eq_false hl];rfl
  simp only[zb,zg,zf,za,hn,if_true,decide_eq_false he]
theorem TameT.tame{t:Tree}(h:TameT t):zrd t:=by cases h;assumption
theorem TameT.sub{t:Tree}(h:TameT t) : ∀ x,x∈t.v→TameT x:=by cases h;assumption
end Go.Ev
end
