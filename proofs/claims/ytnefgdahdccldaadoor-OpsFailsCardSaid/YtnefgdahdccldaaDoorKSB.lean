/- What functions compute, put together. -/
import Derived.Test.YtnefgdahdccldaaDoorKSA
import Derived.Lib.DecodeN
import Derived.Test.YtnefgdahdccldaaDoorKPv
import Derived.Test.YtnefgdahdccldaaDoorKSp
set_option linter.all false
open Option renaming map_some->zC
open Bool renaming false_eq_true->zF,and_eq_true->zG,not_true->zH,not_false->zI,true_eq_false->zX
open List renaming getElem?_eq_getElem->zL,getElem?_cons_zero->zM,getElem?_cons_succ->zN,drop_eq_getElem_cons->zO,mem_cons_of_mem->zP,drop_eq_nil_of_le->zQ,drop_zero->zU,take_of_length_le->zV
open Nat renaming le_refl->zR,mul_le_mul_right->zW
open Int renaming natCast_nonneg->zY
namespace Go.Ev
abbrev xk:=And.intro @zn @wt
end Go.Ev
namespace Go.Ev
abbrev Z2:=And.intro @zv @X3
end Go.Ev
namespace Go.Ev
abbrev we:=And.intro @if_true.{1} (And.intro @zBx @z5)
end Go.Ev
namespace Go.Ev
abbrev yB:=And.intro @zn (And.intro @wt (And.intro @zf (And.intro @if_false.{1} @zF)))
end Go.Ev
namespace Go.Ev
section
attribute [local irreducible] P0
open Go.Lib (decodeN firstT slowN)
def B(s:Str)(i:Nat):Nat:=(s[i]?.getD 0).toNat
def ud(s:Str)(i:Nat):Nat×Nat:=Utf8.decode ⟨s.toArray⟩ i
theorem zhB(s:Str)(i:Nat):B s i<256:=(s[i]?.getD 0).toNat_lt
theorem zrS(s:Str)(i:Nat):((ByteArray.mk s.toArray).get! i).toNat=B s i:=by unfold B ByteArray.get!;congr 1;simp[Array.getElem!_eq_getD,Array.getD_eq_getD_getElem?];rfl
theorem zg4(s:Str)(i:Nat):ud s i=decodeN (s.length-i) (B s i) (B s (i+1)) (B s (i+2)) (B s (i+3)):=by unfold ud;rw[Go.Lib.decode_at,zrS,zrS,zrS,zrS];congr 1
theorem Kg{α:Type}{f g:Nat->α}(h:(List.range 256).map f=(List.range 256).map g)(c:Nat)(hc:c<256):f c=g c:=by have h2:=congrArg (·[c]?) h;simp only[zBU,List.getElem?_range hc,zC]at h2;exact Option.some.inj h2
theorem ztu:(List.range 256).map (fun(b:Nat)=>(G_0.drop (b*1))[0]?)=(List.range 256).map (fun(b:Nat)=>some (V.int .u8 (firstT b:Nat))):=by kernel_rfl
theorem zqw:(List.range 256).map (fun(b:Nat)=>zc .andNot (.int .i32 (b:Int)) (.int .i32 (-1)))=(List.range 256).map (fun(b:Nat)=>some (V.int .i32 0)):=by kernel_rfl
theorem ztC:(List.range 256).map (fun(b:Nat)=>zc .and (.int .u8 (b:Int)) (.int .u8 31))=(List.range 256).map (fun(b:Nat)=>some (V.int .u8 ((b%32:Nat):Int))):=by kernel_rfl
theorem zsN:(List.range 256).map (fun(b:Nat)=>zc .and (.int .u8 (b:Int)) (.int .u8 15))=(List.range 256).map (fun(b:Nat)=>some (V.int .u8 ((b%16:Nat):Int))):=by kernel_rfl
theorem zu6:(List.range 256).map (fun(b:Nat)=>zc .and (.int .u8 (b:Int)) (.int .u8 7))=(List.range 256).map (fun(b:Nat)=>some (V.int .u8 ((b%8:Nat):Int))):=by kernel_rfl
theorem zeu:(List.range 256).map (fun(b:Nat)=>zc .and (.int .u8 (b:Int)) (.int .u8 63))=(List.range 256).map (fun(b:Nat)=>some (V.int .u8 ((b%64:Nat):Int))):=by kernel_rfl
theorem zdL(n:Nat)(h:n<2147483648):IntKind.i32.wrap (n:Int)=(n:Int):=IntWalk.i32_in (n:Int) (by omega)
theorem zkp(a k:Nat)(hk:k<32)(h:a*2^k<2147483648):zc .shl (.int .i32 (a:Int)) (.int .u64 (k:Int))=some (.int .i32 ((a*2^k:Nat):Int)):=by
 rw[zwM _ _ _ _ (zY k),zCa];have e:Nat.min k (IntKind.bits .i32)=k:=Nat.min_eq_left (by show k<=32;omega);have e2:(a:Int)*(2:Int)^k=((a*2^k:Nat):Int):=by simp
 rw[e,e2,zdL _ h]
theorem zui(q k c:Nat)(hc:c<2^k)(h:q*2^k+c<2147483648):zc .or (.int .i32 ((q*2^k:Nat):Int)) (.int .i32 (c:Int))=some (.int .i32 ((q*2^k+c:Nat):Int)):=by
 have e1:(BitVec.ofInt 32 ((q*2^k:Nat):Int)).toNat=q*2^k:=by rw[BitVec.toNat_ofInt];omega
 have e2:(BitVec.ofInt 32 (c:Int)).toNat=c:=by rw[BitVec.toNat_ofInt];omega
 have h2:=Nat.two_pow_add_eq_or_of_lt hc q;rw[Nat.mul_comm]at h2;have hb:bits .or .i32 ((q*2^k:Nat):Int) (c:Int)=((q*2^k+c:Nat):Int):=by show IntKind.i32.wrap ((BitVec.ofInt 32 ((q*2^k:Nat):Int) ||| BitVec.ofInt 32 (c:Int)).toNat:Nat)=_;rw[BitVec.toNat_or,e1,e2,<- h2,zdL _ h]
 simp only[zc,Jm,Y7,zBx,Bool.or_true,zBu,hb]
theorem zBs{s:Str}{i:Nat}(h:i<s.length) : ∃ b,s[i]?=some b/\b.toNat=B s i:=by refine⟨s[i],zL h,?_⟩;unfold B;rw[zL h];rfl
theorem zks(s:Str)(k:IntKind)(i:Nat)(h:i<s.length):ZE (.str s) (.int k (i:Int))=some (.int .u8 (B s i:Int)):=by obtain⟨b,h1,h2⟩:=zBs h;rw[Xn s k i b h1,h2]
theorem XG(s:Str)(sz lo hi i:Nat)(c4:Nat)(hn:1<=s.length)(hl:s.length<=1000000000)(h1:(G_0.drop (B s 0*1))[0]?=some (.int .u8 (c4:Int)))(h2:c4<240)(h3:zc .and (.int .u8 (c4:Int)) (.int .u8 7)=some (.int .u8 (sz:Int)))(h4:zc .shr (.int .u8 (c4:Int)) (.int .u64 4)=some (.int .u8 (i:Int)))(h5:i<16)
  (h6:(G_1.drop (i*2)).take 2=[.int .u8 (lo:Int),.int .u8 (hi:Int)]) (h7:Nat.ble 2 (G_1.drop (i*2)).length=true) (hz:2<=sz/\sz<=4) :
  P0 yf [.v (.str s)] []=some (.tup [.int .i32 ((slowN s.length (B s 0) (B s 1) (B s 2) (B s 3) sz lo hi).1:Int),.int .i64 ((slowN s.length (B s 0) (B s 1) (B s 2) (B s 3) sz lo hi).2:Int)],[]):=by
 rw[jb];unfold ve slowN;have dT : ∀ {p:Prop} [Decidable p],p->decide p=true:=fun h=>zBz h
 have dF : ∀ {p:Prop} [Decidable p],¬ p->decide p=false:=fun h=>zBA h
 have d1:decide (((s.length:Nat):Int)<1)=false:=dF (by omega);have d2:decide ((240:Int)<=(c4:Int))=false:=dF (by omega);have i0:ZE (.str s) (.int .i64 0)=some (.int .u8 (B s 0:Int)):=zks s .i64 0 (by omega);have wsz:IntKind.i64.wrap (sz:Int)=(sz:Int):=w64 (by omega);have l0:=zhB s 0;have l1:=zhB s 1;have l2:=zhB s 2;have l3:=zhB s 3;have okA:okN 2 (V.agg [.int .u8 (lo:Int),.int .u8 (hi:Int)])=true:=rfl;by_cases g1:s.length<sz
 ·have e1:decide ((s.length:Int)<(sz:Int))=true:=dT (by omega);rw[zBu g1];simp only[yB,wW,d1,i0,zg _ (B s 0) 256 l0,h1,qY,d2,h3,kq,wsz,h4,zg _ i 16 h5,h7,z5,h6,okA,zl,e1,zBv];rfl
 have e1:decide ((s.length:Int)<(sz:Int))=false:=dF (by omega);rw[zBt g1];have i1:ZE (.str s) (.int .i64 1)=some (.int .u8 (B s 1:Int)):=zks s .i64 1 (by omega);by_cases g2:B s 1<lo\/hi<B s 1
 ·rw[zBu g2];by_cases g3:B s 1<lo
  ·have e2:decide ((B s 1:Int)<(lo:Int))=true:=dT (by omega);simp only[yB,wW,d1,i0,zg _ (B s 0) 256 l0,h1,qY,d2,h3,kq,wsz,h4,zg _ i 16 h5,h7,z5,h6,okA,zl,e1,zBv,i1,Zt,zM,zN,e2,zX];rfl
  ·have e2:decide ((B s 1:Int)<(lo:Int))=false:=dF (by omega);have e3:decide ((hi:Int)<(B s 1:Int))=true:=dT (by omega);simp only[yB,wW,d1,i0,zg _ (B s 0) 256 l0,h1,qY,d2,h3,kq,wsz,h4,zg _ i 16 h5,h7,z5,h6,okA,zl,e1,zBv,i1,Zt,zM,zN,e2,e3];rfl
 rw[zBt g2];have e2:decide ((B s 1:Int)<(lo:Int))=false:=dF (by omega);have e3:decide ((hi:Int)<(B s 1:Int))=false:=dF (by omega);have m1:zc .and (.int .u8 (B s 1:Int)) (.int .u8 63)=some (.int .u8 ((B s 1%64:Nat):Int)):=Kg zeu (B s 1) l1;have m2:zc .and (.int .u8 (B s 2:Int)) (.int .u8 63)=some (.int .u8 ((B s 2%64:Nat):Int)):=Kg zeu (B s 2) l2;have m3:zc .and (.int .u8 (B s 3:Int)) (.int .u8 63)=some (.int .u8 ((B s 3%64:Nat):Int)):=Kg zeu (B s 3) l3;have k1:B s 1%64<64:=zBZ _ (by decide);have k2:B s 2%64<64:=zBZ _ (by decide);have k3:B s 3%64<64:=zBZ _ (by decide);by_cases g4:sz<=2
 ·have e4:decide ((sz:Int)<=2)=true:=dT (by omega);have a0:zc .and (.int .u8 (B s 0:Int)) (.int .u8 31)=some (.int .u8 ((B s 0%32:Nat):Int)):=Kg ztC (B s 0) l0;have k0:B s 0%32<32:=zBZ _ (by decide);have s0:zc .shl (.int .i32 ((B s 0%32:Nat):Int)) (.int .u64 6)=some (.int .i32 ((B s 0%32*2^6:Nat):Int)):=zkp _ 6 (by decide) (by omega);have o0:=zui (B s 0%32) 6 (B s 1%64) (by omega) (by omega);rw[zBu g4];simp only[yB,wW,d1,i0,zg _ (B s 0) 256 l0,h1,qY,d2,h3,kq,wsz,h4,zg _ i 16 h5,h7,z5,h6,okA,zl,e1,zBv,i1,Zt,zM,zN,e2,e3,Vt,e4,a0,zdL (B s 0%32) (by omega),s0,m1,zdL (B s 1%64) (by omega),o0];rfl
 have e4:decide ((sz:Int)<=2)=false:=dF (by omega);have i2:ZE (.str s) (.int .i64 2)=some (.int .u8 (B s 2:Int)):=zks s .i64 2 (by omega);rw[zBt g4];by_cases g5:B s 2<128\/191<B s 2
 ·rw[zBu g5];by_cases g6:B s 2<128
  ·have e5:decide ((B s 2:Int)<128)=true:=dT (by omega);simp only[yB,wW,d1,i0,zg _ (B s 0) 256 l0,h1,qY,d2,h3,kq,wsz,h4,zg _ i 16 h5,h7,z5,h6,okA,zl,e1,zBv,i1,Zt,zM,zN,e2,e3,Vt,e4,i2,e5,zX];rfl
  ·have e5:decide ((B s 2:Int)<128)=false:=dF (by omega);have e6:decide ((191:Int)<(B s 2:Int))=true:=dT (by omega);simp only[yB,wW,d1,i0,zg _ (B s 0) 256 l0,h1,qY,d2,h3,kq,wsz,h4,zg _ i 16 h5,h7,z5,h6,okA,zl,e1,zBv,i1,Zt,zM,zN,e2,e3,Vt,e4,i2,e5,e6];rfl
 rw[zBt g5];have e5:decide ((B s 2:Int)<128)=false:=dF (by omega);have e6:decide ((191:Int)<(B s 2:Int))=false:=dF (by omega);by_cases g7:sz<=3
 ·have e7:decide ((sz:Int)<=3)=true:=dT (by omega);have a0:zc .and (.int .u8 (B s 0:Int)) (.int .u8 15)=some (.int .u8 ((B s 0%16:Nat):Int)):=Kg zsN (B s 0) l0;have k0:B s 0%16<16:=zBZ _ (by decide);have s0:zc .shl (.int .i32 ((B s 0%16:Nat):Int)) (.int .u64 12)=some (.int .i32 ((B s 0%16*2^12:Nat):Int)):=zkp _ 12 (by decide) (by omega);have s1:zc .shl (.int .i32 ((B s 1%64:Nat):Int)) (.int .u64 6)=some (.int .i32 ((B s 1%64*2^6:Nat):Int)):=zkp _ 6 (by decide) (by omega);have o0:=zui (B s 0%16) 12 (B s 1%64*2^6) (by omega) (by omega);have o1:=zui (B s 0%16*64+B s 1%64) 6 (B s 2%64) (by omega) (by omega);rw[show(B s 0%16*64+B s 1%64)*2^6=B s 0%16*2^12+B s 1%64*2^6 by omega]at o1;rw[zBu g7];simp only[yB,wW,d1,i0,zg _ (B s 0) 256 l0,h1,qY,d2,h3,kq,wsz,h4,zg _ i 16 h5,h7,z5,h6,okA,zl,e1,zBv,i1,Zt,zM,zN,e2,e3,Vt,e4,i2,e5,e6,e7,a0,zdL (B s 0%16) (by omega),s0,m1,zdL (B s 1%64) (by omega),s1,o0,m2,zdL (B s 2%64) (by omega),o1];rfl
 have e7:decide ((sz:Int)<=3)=false:=dF (by omega);have i3:ZE (.str s) (.int .i64 3)=some (.int .u8 (B s 3:Int)):=zks s .i64 3 (by omega);rw[zBt g7];by_cases g8:B s 3<128\/191<B s 3
 ·rw[zBu g8];by_cases g9:B s 3<128
  ·have e8:decide ((B s 3:Int)<128)=true:=dT (by omega);simp only[yB,wW,d1,i0,zg _ (B s 0) 256 l0,h1,qY,d2,h3,kq,wsz,h4,zg _ i 16 h5,h7,z5,h6,okA,zl,e1,zBv,i1,Zt,zM,zN,e2,e3,Vt,e4,i2,e5,e6,e7,i3,e8,zX];rfl
  ·have e8:decide ((B s 3:Int)<128)=false:=dF (by omega);have e9:decide ((191:Int)<(B s 3:Int))=true:=dT (by omega);simp only[yB,wW,d1,i0,zg _ (B s 0) 256 l0,h1,qY,d2,h3,kq,wsz,h4,zg _ i 16 h5,h7,z5,h6,okA,zl,e1,zBv,i1,Zt,zM,zN,e2,e3,Vt,e4,i2,e5,e6,e7,i3,e8,e9];rfl
 rw[zBt g8];have e8:decide ((B s 3:Int)<128)=false:=dF (by omega);have e9:decide ((191:Int)<(B s 3:Int))=false:=dF (by omega);have a0:zc .and (.int .u8 (B s 0:Int)) (.int .u8 7)=some (.int .u8 ((B s 0%8:Nat):Int)):=Kg zu6 (B s 0) l0;have k0:B s 0%8<8:=zBZ _ (by decide);have s0:zc .shl (.int .i32 ((B s 0%8:Nat):Int)) (.int .u64 18)=some (.int .i32 ((B s 0%8*2^18:Nat):Int)):=zkp _ 18 (by decide) (by omega);have s1:zc .shl (.int .i32 ((B s 1%64:Nat):Int)) (.int .u64 12)=some (.int .i32 ((B s 1%64*2^12:Nat):Int)):=zkp _ 12 (by decide) (by omega);have s2:zc .shl (.int .i32 ((B s 2%64:Nat):Int)) (.int .u64 6)=some (.int .i32 ((B s 2%64*2^6:Nat):Int)):=zkp _ 6 (by decide) (by omega);have o0:=zui (B s 0%8) 18 (B s 1%64*2^12) (by omega) (by omega);have o1:=zui (B s 0%8*64+B s 1%64) 12 (B s 2%64*2^6) (by omega) (by omega);have o2:=zui (B s 0%8*4096+B s 1%64*64+B s 2%64) 6 (B s 3%64) (by omega) (by omega);rw[show(B s 0%8*64+B s 1%64)*2^12=B s 0%8*2^18+B s 1%64*2^12 by omega]at o1;rw[show(B s 0%8*4096+B s 1%64*64+B s 2%64)*2^6=B s 0%8*2^18+B s 1%64*2^12+B s 2%64*2^6 by omega]at o2;simp only[yB,wW,d1,i0,zg _ (B s 0) 256 l0,h1,qY,d2,h3,kq,wsz,h4,zg _ i 16 h5,h7,z5,h6,okA,zl,e1,zBv,i1,Zt,zM,zN,e2,e3,Vt,e4,i2,e5,e6,e7,i3,e8,e9,a0,zdL (B s 0%8) (by omega),s0,m1,zdL (B s 1%64) (by omega),s1,o0,m2,zdL (B s 2%64) (by omega),s2,o1,m3,zdL (B s 3%64) (by omega),o2]
 rfl
theorem zvb(s:Str)(c4:Nat)(hn:1<=s.length)(h1:(G_0.drop (B s 0*1))[0]?=some (.int .u8 (c4:Int)))(h2:c4=241):P0 yf [.v (.str s)] []=some (.tup [.int .i32 65533,.int .i64 1],[]):=by
 subst h2;rw[jb];unfold ve;have d1:decide (((s.length:Nat):Int)<1)=false:=zBA (by omega);have d2:decide ((240:Int)<=((241:Nat):Int))=true:=by decide
 have i0:ZE (.str s) (.int .i64 0)=some (.int .u8 (B s 0:Int)):=zks s .i64 0 (by omega);have l0:=zhB s 0;have x8:zc .shl (.int .i32 (IntKind.i32.wrap ((241:Nat):Int))) (.int .u64 31)=some (.int .i32 (-2147483648)):=by kernel_rfl
 have x9:zc .shr (.int .i32 (-2147483648)) (.int .u64 31)=some (.int .i32 (-1)):=by kernel_rfl
 have x12:=Kg zqw (B s 0) l0;have x13:zc .and (.int .i32 65533) (.int .i32 (-1))=some (.int .i32 65533):=by kernel_rfl
 have x14:zc .or (.int .i32 0) (.int .i32 65533)=some (.int .i32 65533):=by kernel_rfl
 simp only[yB,wW,d1,i0,zg _ (B s 0) 256 l0,h1,qY,d2,zBv,kq,x8,x9,zdL (B s 0) (by omega),x12,x13,x14]
theorem zww(s:Str)(hn:1<=s.length)(hl:s.length<=1000000000)(hb:128<=B s 0):P0 yf [.v (.str s)] []=some (.tup [.int .i32 ((ud s 0).1:Int),.int .i64 ((ud s 0).2:Int)],[]):=by
 have l0:=zhB s 0;have l1:=zhB s 1;have l2:=zhB s 2;have l3:=zhB s 3;have h1:(G_0.drop (B s 0*1))[0]?=some (.int .u8 ((firstT (B s 0):Nat):Int)):=Kg ztu (B s 0) l0;rw[zg4,Nat.sub_zero,zBE,zBE,zBE];have bad:(B s 0<194\/245<=B s 0)->firstT (B s 0)=241/\decodeN s.length (B s 0) (B s 1) (B s 2) (B s 3)=(65533,1):=by
  intro h;constructor
  ·unfold firstT;repeat' split
   all_goals omega
  ·unfold decodeN
   repeat' split
   all_goals first | rfl | (exfalso;omega)
 by_cases g:B s 0<194\/245<=B s 0
 ·obtain⟨e1,e2⟩:=bad g;rw[zvb s _ hn h1 e1,e2];rfl
 by_cases g1:B s 0<224
 ·rw[<- Go.Lib.slow_C2 _ _ _ _ _ hn l1 l2 l3 (by omega)];exact XG s 2 128 191 0 2 hn hl (by rw[h1];unfold firstT;rw[zBt (by omega),zBt (by omega),zBu (by omega)]) (by decide) (by kernel_rfl) (by kernel_rfl) (by decide) (by kernel_rfl) (by kernel_rfl) (by decide)
 by_cases g2:B s 0=224
 ·rw[<- Go.Lib.slow_E0 _ _ _ _ _ hn l1 l2 l3 g2];exact XG s 3 160 191 1 19 hn hl (by rw[h1,g2];rfl) (by decide) (by kernel_rfl) (by kernel_rfl) (by decide) (by kernel_rfl) (by kernel_rfl) (by decide)
 by_cases g3:B s 0=237
 ·rw[<- Go.Lib.slow_ED _ _ _ _ _ hn l1 l2 l3 g3];exact XG s 3 128 159 2 35 hn hl (by rw[h1,g3];rfl) (by decide) (by kernel_rfl) (by kernel_rfl) (by decide) (by kernel_rfl) (by kernel_rfl) (by decide)
 by_cases g4:B s 0<240
 ·rw[<- Go.Lib.slow_E1 _ _ _ _ _ hn l1 l2 l3 (by omega)];refine XG s 3 128 191 0 3 hn hl ?_ (by decide) (by kernel_rfl) (by kernel_rfl) (by decide) (by kernel_rfl) (by kernel_rfl) (by decide);rw[h1];unfold firstT;rw[zBt (by omega),zBt (by omega),zBt (by omega),zBt (by omega)];by_cases g5:B s 0<237
  ·rw[zBu g5]
  ·rw[zBt g5,zBt g3,zBu g4]
 by_cases g5:B s 0=240
 ·rw[<- Go.Lib.slow_F0 _ _ _ _ _ hn l1 l2 l3 g5];exact XG s 4 144 191 3 52 hn hl (by rw[h1,g5];rfl) (by decide) (by kernel_rfl) (by kernel_rfl) (by decide) (by kernel_rfl) (by kernel_rfl) (by decide)
 by_cases g6:B s 0<244
 ·rw[<- Go.Lib.slow_F1 _ _ _ _ _ hn l1 l2 l3 (by omega)];refine XG s 4 128 191 0 4 hn hl ?_ (by decide) (by kernel_rfl) (by kernel_rfl) (by decide) (by kernel_rfl) (by kernel_rfl) (by decide);rw[h1];unfold firstT;rw[zBt (by omega),zBt (by omega),zBt (by omega),zBt (by omega),zBt (by omega),zBt (by omega),zBt (by omega),zBt (by omega),zBu g6]
 ·have g7:B s 0=244:=by omega
  rw[<- Go.Lib.slow_F4 _ _ _ _ _ hn l1 l2 l3 g7];exact XG s 4 128 143 4 68 hn hl (by rw[h1,g7];rfl) (by decide) (by kernel_rfl) (by kernel_rfl) (by decide) (by kernel_rfl) (by kernel_rfl) (by decide)
theorem zw8(s:Str)(hn:1<=s.length)(hl:s.length<=1000000000):P0 xq [.v (.str s)] []=some (.tup [.int .i32 ((ud s 0).1:Int),.int .i64 ((ud s 0).2:Int)],[]):=by
 rw[WQ];unfold kQ;have i0:ZE (.str s) (.int .i64 0)=some (.int .u8 (B s 0:Int)):=zks s .i64 0 (by omega);have hne:(s==([]:Str))=false:=by
  cases s with
  | nil=>simp at hn
  | cons a r=>rfl
 have l0:=zhB s 0;by_cases g:B s 0<128
 ·have d:decide ((B s 0:Int)<128)=true:=zBz (by omega);have e:ud s 0=(B s 0,1):=by rw[zg4];unfold decodeN;rw[zBu g]
  simp only[xk,zg2,hne,zI,zf,zBv,i0,zl,d,kq,zdL (B s 0) (by omega),e];rfl
 ·have d:decide ((B s 0:Int)<128)=false:=zBA (by omega);simp only[yB,zg2,hne,zI,zBv,i0,zl,d,zww s hn hl (by omega),zm,zM,zN]
end
section
attribute [local irreducible] P0
theorem zgE(l:List Nat)(n:Nat)(hn:n<=l.length)(hl:l.length<=1000000):zr (Ze (.sl (zw l))) (vec [.int .i64 (n:Int)])=some (0,vec [.int .i64 (top l n:Nat)]):=by
 induction n with
 | zero=>apply zh;unfold Ze;apply yes;simp[top]
 | succ n ih=>
  have hx:l[n]?=some l[n]:=zL (by omega);have h1:((n+1:Nat):Int)-1=n:=by omega
  have h2:(0:Int)<((n+1:Nat):Int):=by omega
  by_cases h0:l[n]=0
  ·rw[zp (a':=vec [.int .i64 (n:Int)])]
   ·rw[ih (by omega)];simp[top,hx,h0]
   ·unfold Ze;simp only[zv,Zn,zn,zf,zBx,h2,zBu,ZQ,h1,w64 (a:=(n:Int)) (by omega),wP,z8,zg _ n l.length (by omega),ji,hx,zC,xM,zq,h0];simp
  ·have ht:top l (n+1)=n+1:=by unfold top;rw[hx];split<;>simp_all
   rw[ht];apply zh;unfold Ze;simp only[zv,Zn,zn,zf,zBx,h2,zBu,ZQ,h1,w64 (a:=(n:Int)) (by omega),wP,z8,zg _ n l.length (by omega),ji,hx,zC,xM,zq];simp[h0]
theorem znY(l:List Nat)(hl:l.length<=1000000)(hu:U32 l):P0 kO [.v (.sl (zw l))] []=some (.sl (zw (toL (xQ l))),[]):=by
 rw[<- zoi hu];rw[zoA];unfold zi5;have h:=zg8 l l.length;by_cases h0:top l l.length=0
 ·have e:norm l=[]:=by rw[norm,h0];rfl
  simp only[zb,zn,z8,zgE l l.length (zR _) hl,zv,h0,zq,zf,e];simp[zw]
 ·have hm:=zk2 4 (top l l.length) (by omega) (by omega);have e1:Nat.min (zw l).length (top l l.length)=top l l.length:=by rw[z8];exact Nat.min_eq_right h
  simp only[zb,zn,z8,zgE l l.length (zR _) hl,zv,zq,zf];have e2 : ¬ ((top l l.length:Nat):Int)=0:=by omega
  have e3:Nat.min l.length (top l l.length)=top l l.length:=Nat.min_eq_right h;simp only[e2,zBy,zF,zBw,hm,zn,zbm,z8,e3,Z4];rw[zkm _ _ (by simp[z8];omega)];simp only[zU,Z4,List.take_take,Nat.min_self];rfl
theorem zzO(c x:Nat)(hx:x<B32):c*B32 ||| x=c*B32+x:=by
 have h:=Nat.two_pow_add_eq_or_of_lt (i:=32) (b:=x) (by simpa[B32]using hx) c;have e:(2:Nat)^32=B32:=by decide
 rw[e,Nat.mul_comm]at h;exact h.symm
theorem zo8(l:List Nat)(d:Nat)(q2:Nat×Nat)(hq:q2.1=l.length)(hd:0<d)(hd2:d<B32)(hl:l.length<=1000000)(hu:U32 l)(n:Nat)(hn:n<=l.length) :
  zr (Yw (.sl (zw l)) (.int .u32 (d:Int)) q2) (vec [.int .u64 ((small d (l.drop n)).2:Int),.int .i64 ((n:Int)-1),.sl (List.replicate n (.int .u32 0)++zw (small d (l.drop n)).1)])
   = some (0,vec [.int .u64 ((small d l).2:Int),.sl (zw (small d l).1)]):=by
 induction n with
 | zero=>apply zh;unfold Yw;apply yes;simp
 | succ n ih=>
  have hx:l[n]?=some l[n]:=zL (by omega);have hdr:l.drop n=l[n]::l.drop (n+1):=zO (by omega);have hb:l[n]<B32:=hu _ (zCg _);have hc:(small d (l.drop (n+1))).2<d:=JM d hd _;rw[<- ih (by omega)];apply zp;generalize hs:small d (l.drop (n+1))=sm at *;have hsm:small d (l.drop n)=((sm.2*B32+l[n])/d::sm.1,(sm.2*B32+l[n])%d):=by rw[hdr];simp only[small,hs]
  rw[hsm];have hlt:(sm.2*B32+l[n])/d<B32:=by
   rw[Nat.div_lt_iff_lt_mul hd];have:sm.2*B32+B32<=d*B32:=by rw[<- Nat.succ_mul];exact zW _ hc
   rw[Nat.mul_comm B32 d];omega
  have hlt2:sm.2*B32+l[n]<B32*B32:=by
   have:sm.2*B32+B32<=B32*B32:=by rw[<- Nat.succ_mul];exact zW _ (by omega)
   omega
  have h1:((n+1:Nat):Int)-1=n:=by omega
  have hp:(2:Int)^Nat.min (32:Int).toNat (IntKind.bits .u64)=(B32:Int):=by decide
  have hB:B32*B32=18446744073709551616:=by decide
  have hB2:B32=4294967296:=rfl;unfold Yw;have ha:(sm.2:Int)*(B32:Int)=((sm.2*B32:Nat):Int):=by simp
  have hdd:((sm.2*B32+l[n]:Nat):Int).tdiv (d:Int)=(((sm.2*B32+l[n])/d:Nat):Int):=by rw[Int.tdiv_eq_ediv_of_nonneg (zY _)];simp
  have hmm:((sm.2*B32+l[n]:Nat):Int).tmod (d:Int)=(((sm.2*B32+l[n])%d:Nat):Int):=by rw[Int.tmod_eq_emod_of_nonneg (zY _)];simp
  have hd0:(d:Int)≠0:=by omega
  have hpos:(0:Int)<=n:=zY n;have hor:zc .or (.int .u64 ((sm.2*B32:Nat):Int)) (.int .u64 (l[n]:Int))=some (.int .u64 ((sm.2*B32+l[n]:Nat):Int)):=by have:=u64_or_nat (sm.2*B32) l[n] (by omega) (by omega);rw[zzO _ _ hb]at this;simp only[zc,Jm,Y7,zBx,Bool.or_true,zBu,this]
  simp only[Z2,qY,h1,hpos,zBx,zn,zf,zBu,zwM _ _ _ _ (show(0:Int)<=32 by decide),hp,ha];rw[zmj (a:=((sm.2*B32:Nat):Int)) (by omega)];simp only[wP,zn,z8,zg _ n l.length (by omega),ji,hx,zC,xM,kq];rw[zmj (a:=(l[n]:Int)) (by omega),zmj (a:=(d:Int)) (by omega)];have hq0:(0:Int)<=(((sm.2*B32+l[n])/d:Nat):Int):=zY _;have hq1:(((sm.2*B32+l[n])/d:Nat):Int)<=4294967295:=Int.ofNat_le.2 (show _<=4294967295 from Nat.le_of_lt_succ hlt);simp only[hor,zn,zjb _ _ _ hd0,JQ _ _ _ hd0,hdd,hmm,kq];rw[zmj (a:=(((sm.2*B32+l[n])/d:Nat):Int)) ⟨hq0,Int.le_trans hq1 (by decide)⟩,zyq (a:=(((sm.2*B32+l[n])/d:Nat):Int)) ⟨hq0,hq1⟩];simp only[hq,zg _ n l.length (by omega),zn,Xo,z5,xM,ZQ,zt,zBE,zsz];rw[w64 (a:=(n:Int)-1) (by omega)];rfl
theorem zsS(l:List Nat)(d:Nat)(hd:0<d)(hd2:d<B32)(hl:l.length<=1000000)(hu:U32 l) :
  P0 jL [.v (.sl (zw l)),.v (.int .u32 (d:Int))] []=some (.tup [.sl (zw (toL (xQ l/d))),.int .u32 ((xQ l%d:Nat):Int)],[]):=by
 rw[zl2];unfold zfl;have hlt:=JM d hd l;have hB2:B32=4294967296:=rfl;obtain⟨hv1,hv2⟩:=zei d hd l;have h:=zo8 l d (l.length,l.length) rfl hd hd2 hl hu l.length (zR _);simp only[List.drop_length,small,zw,List.map_nil,List.append_nil]at h;simp only[zb,zn,z8,zk2 4 l.length (by omega) (by omega)];rw[w64 (a:=(l.length:Int)-1) (by omega)];simp only[zw]at h ⊢;rw[show((0:Nat):Int)=0 from rfl]at h;rw[h];have e:List.map (fun(x:Nat)=>V.int .u32 (x:Int)) (small d l).1=zw (small d l).1:=rfl;simp only[Z2,zn,e,zt,zU,Z4];rw[zV (by rw[Xw];omega),znY _ (by rw[Xw];omega) (zlz d hd l hu),hv1];simp only[zn,kq];rw[zyq (a:=((small d l).2:Int)) (by omega),hv2];rfl
end
section
attribute [local irreducible] P0
theorem zp9(f:Nat) : ∀ (n k:Nat),n<10^f->(toL n).length<=1000000->k+f<=1000000000 ->
  zr jT (vec [.sl (zw (toL n)),.int .i64 (k:Int)])=some (0,vec [.sl (zw (toL (Qa n).1)),.int .i64 ((k+(Qa n).2:Nat):Int)]):=by
 induction f with
 | zero=>
  intro n k h _ _;have:n=0:=by simpa using h
  subst this;apply zh;unfold jT;apply yes;simp[zjc,zkN,zw]
 | succ f ih=>
  intro n k h hl hk;by_cases h0:n=0
  ·subst h0;apply zh;unfold jT;apply yes;simp[zjc,zkN,zw]
  have hne:toL n≠[]:=fun e=>h0 (zyA.1 e)
  have hlen:(0:Int)<((toL n).length:Int):=by have:0<(toL n).length:=List.length_pos_iff.2 hne;omega
  have hs:P0 jL [.v (.sl (zw (toL n))),.v (.int .u32 10)] []=_:=zsS (toL n) 10 (by decide) (by decide) hl (znk n);rw[Kw]at hs;by_cases h2:n%10=0
  ·have hl':(toL (n/10)).length<=(toL n).length:=by
    apply zr9
    calc n/10<=n:=Nat.div_le_self _ _
     _=xQ (toL n):=(Kw n).symm
     _<_:=zoO _ (znk n)
   have:=ih (n/10) (k+1) (by rw[Nat.div_lt_iff_lt_mul (by decide)];rw[Nat.pow_succ]at h;exact h) (by omega) (by omega);rw[zli h0 h2,show k+((Qa (n/10)).2+1)=k+1+(Qa (n/10)).2 by omega,<- this];apply zp;unfold jT;have w:=w64 (a:=(k:Int)+1) (by omega);apply yes;simp only[Z2,zb,zn,z8,gt_iff_lt,hlen,zBx,zBu,hs,zm,h2];simp[w]
  ·rw[zkq (.inr h2)];apply zh;unfold jT;have h2' : ¬ ((n%10:Nat):Int)=0:=by omega
   apply yes;simp only[Z2,zb,zn,z8,gt_iff_lt,hlen,zBx,zBu,hs,zm];simp only[zM,zN,zn,jK,h2',zBy,zf,zI,zBu];simp
theorem zvk(l:List Nat)(hu:U32 l)(hl:l.length<=100000) :
  P0 Yh [.v (.sl (zw l))] []=some (.tup [.sl (zw (toL (Qa (xQ l)).1)),.int .i64 ((Qa (xQ l)).2:Int)],[]):=by
 rw[zps];unfold zig;have hlt:=zr8 l hu;have h:=zp9 (10*l.length) (xQ l) 0 hlt (zBK (zr9 (zoO l hu)) (by omega)) (by omega);rw[show((0:Nat):Int)=0 from rfl,zBE]at h;simp only[znY l (by omega) hu,zn];rw[h];rfl
end
section
attribute [local irreducible] P0
def jp(s:Str):Nat->Nat->Bool
 | 0,_=>true
 | f+1,i=>if i<s.length then(if(ud s i).1=65533/\(ud s i).2=1 then false else jp s f (i+(ud s i).2))else true
def zku(s:Str):Bool:=jp s (s.length+1) 0
theorem zzo(s:Str)(i:Nat):1<=(ud s i).2/\(ud s i).2<=4/\(ud s i).1<=1114111:=by
 have l0:=zhB s i;rw[zg4];unfold Go.Lib.decodeN
 repeat' split
 all_goals simp only;omega
theorem zmc(s:Str)(i j:Nat):B (s.drop i) j=B s (i+j):=by unfold B;rw[zBS]
theorem zyr(s:Str)(i:Nat):ud (s.drop i) 0=ud s i:=by rw[zg4,zg4,zmc,zmc,zmc,zmc,zBJ];rfl
theorem zko(s:Str)(k:IntKind)(i:Nat)(h:i<=s.length):zm2 (.str s) (some (.int k (i:Int))) none=some (.str (s.drop i)):=by unfold zm2;simp only[XQ k (i:Int) s.length (by omega),zn,zCa];rw[zV (by rw[zBJ];omega)]
theorem zbc(k:IntKind)(n:Nat):WR (.int k (n:Int))=n:=by simp[WR]
theorem za8(s:Str):ziq (.str s)=s:=rfl
theorem zpS(s:Str)(hl:s.length<=1000000000)(f:Nat) : ∀ i,s.length<i+f ->
  ∃ j v,zr (vo (.str s)) (vec [.str s,.int .i64 (i:Int)])=some (j,v)/\((jp s f i=true->j=0)/\(jp s f i=false->j=1/\v 0 = .bool false)):=by
 induction f with
 | zero=>intro i hi;refine⟨0,vec [],zh ?_,fun _=>rfl,fun h=>by simp[jp]at h⟩;unfold vo;simp only[wt,zv,X3,zbc,za8];rw[zBt (by omega)]
 | succ f ih=>
  intro i hi;by_cases hlt:i<s.length
  ·obtain⟨p1,p2,p3⟩:=zzo s i;obtain⟨j,v,h1,h2,h3⟩:=ih (i+(ud s i).2) (by omega);have hgo:zr (vo (.str s)) (vec [.str s,.int .i64 ((i+(ud s i).2:Nat):Int)])=some (j,v):=h1;have e1:(Utf8.decode ⟨s.toArray⟩ i)=ud s i:=rfl;have hrr:=zw8 (s.drop i) (by rw[zBJ];omega) (by rw[zBJ];omega);rw[zyr]at hrr;by_cases hb:(ud s i).1=65533
   ·have hb':((((ud s i).1:Nat):Int) != 65533)=false:=by rw[hb];rfl
    by_cases hn:(ud s i).2=1
    ·refine⟨1,vec [.bool false],zh ?_,fun h => ?_,fun _=>⟨rfl,rfl⟩⟩
     ·unfold vo;simp only[wt,zv,X3,zbc,za8];rw[zBu hlt,e1,hb'];simp only[wt,zF,zBw,zv,X3,zbc,za8,zko s .i64 i (by omega),zn,hrr,zm,zM,zN,zq,hn,show decide (((1:Nat):Int)=1)=true by decide,zf,zBv]
     ·rw[jp,zBu hlt,zBu ⟨hb,hn⟩]at h;contradiction
    ·refine⟨j,v,?_,fun h=>h2 ?_,fun h=>h3 ?_⟩
     ·rw[<- hgo];apply zp;unfold vo;have hn':decide ((((ud s i).2:Nat):Int)=1)=false:=zBA (by omega);simp only[wt,zv,X3,zbc,za8];rw[zBu hlt,e1,hb'];simp only[wt,zF,zBw,zv,X3,zbc,za8,zko s .i64 i (by omega),zn,hrr,zm,zM,zN,zq,hn',zf];rfl
     ·rw[jp,zBu hlt,zBt (fun q=>hn q.2)]at h;exact h
     ·rw[jp,zBu hlt,zBt (fun q=>hn q.2)]at h;exact h
   ·have hb':((((ud s i).1:Nat):Int) != 65533)=true:=by rw[bne_iff_ne];omega
    refine⟨j,v,?_,fun h=>h2 ?_,fun h=>h3 ?_⟩
    ·rw[<- hgo];apply zp;unfold vo;simp only[wt,zv,X3,zbc,za8];rw[zBu hlt,e1,hb',zBu rfl];rfl
    ·rw[jp,zBu hlt,zBt (fun q=>hb q.1)]at h;exact h
    ·rw[jp,zBu hlt,zBt (fun q=>hb q.1)]at h;exact h
  ·refine⟨0,vec [],zh ?_,fun _=>rfl,fun h=>by rw[jp,zBt hlt]at h;contradiction⟩;unfold vo;simp only[wt,zv,X3,zbc,za8];rw[zBt hlt]
theorem zuy(s:Str):zfa (.str s)=some s:=rfl
theorem zd5(s:Str)(hl:s.length<=1000000000):P0 jF [.v (.str s)] []=some (.bool (zku s),[]):=by
 obtain⟨j,v,h1,h2,h3⟩:=zpS s hl (s.length+1) 0 (by omega);rw[zlD];unfold zfB;simp only[xk,zuy,h1];unfold zku;cases h:jp s (s.length+1) 0 with
 | true=>rw[h2 h,zBu rfl]
 | false=>obtain⟨rfl,hv⟩:=h3 h;rw[zBt (by decide)];show some (v 0,[])=_;rw[hv]
theorem zu7(n:Nat) : ∀ (pre r:Str),r.length<=n->(dec8 r).isSome=true -> ∀ f,jp (pre++r) f pre.length=true:=by
 induction n with
 | zero=>
  intro pre r hr h f;have:r=[]:=by cases r with | nil=>rfl | cons _ _=>simp at hr
  subst this;cases f with
  | zero=>rfl
  | succ f=>rw[jp,zBt (by simp)]
 | succ n ih=>
  intro pre r hr h f;cases f with
  | zero=>rfl
  | succ f=>
   have asc : ∀ (b:UInt8) (t:Str),r=b::t->b.toNat<128->(dec8 t).isSome=true->jp (pre++r) (f+1) pre.length=true:=by
    intro b t hrt hb ht;have hB:B (pre++r) pre.length=b.toNat:=by unfold B;rw[hrt];simp
    have e:ud (pre++r) pre.length=(b.toNat,1):=by rw[zg4,hB];unfold Go.Lib.decodeN;rw[zBu hb]
    rw[jp,e];split
    ·rw[zBt (by simp only;omega)];have:=ih (pre++[b]) t (by rw[hrt]at hr;simpa using hr) ht f;rw[hrt];simpa using this
    ·rfl
   match r,hr,h,asc with
   | [],_,_,_=>rw[jp,zBt (by simp)]
   | [b],hr,h,asc=>
    have h':b.toNat<128:=by simp only[dec8]at h;split at h<;>first | assumption | simp at h
    exact asc b [] rfl h' rfl
   | b::c::t,hr,h,asc=>
    by_cases hbc:b=195/\c=169
    ·obtain⟨rfl,rfl⟩:=hbc;have ht:(dec8 t).isSome=true:=by simpa[dec8]using h
     have hB:B (pre++195::169::t) pre.length=195:=by unfold B;simp
     have hB1:B (pre++195::169::t) (pre.length+1)=169:=by unfold B;simp
     have e:ud (pre++195::169::t) pre.length=(233,2):=by rw[zg4,hB,hB1];unfold Go.Lib.decodeN;rw[zBt (by decide),zBu ⟨by decide,by simp,by decide⟩,zBu (by decide)]
     rw[jp,e];split
     ·rw[zBt (by decide)];have:=ih (pre++[195,169]) t (by simp at hr ⊢;omega) ht f;simpa using this
     ·rfl
    ·have h2:b.toNat<128/\(dec8 (c::t)).isSome=true:=by
      rw[dec8.eq_3 _ _ (by intro r' h1 h2;exact hbc (by simp_all))]at h;split at h
      ·next hb=>exact⟨hb,by simpa using h⟩
      ·simp at h
     exact asc b (c::t) rfl h2.1 h2.2
theorem zm3{s:Str}(h:(dec8 s).isSome=true):zku s=true:=zu7 s.length [] s (zR _) h (s.length+1)
def Q4(s:Str):Bool:=decide (s.length<=2000)&&zku s
theorem JX(s:Str):P0 jH [.v (.str s)] []=some (.bool (Q4 s),[]):=by
 rw[zl9];unfold zfC Q4;by_cases h:s.length<=2000
 ·have d:decide (((s.length:Nat):Int)<=2000)=true:=zBz (by omega);simp only[xk,wW,d,zBv,zd5 s (by omega),zBz h,Bool.true_and]
 ·have d:decide (((s.length:Nat):Int)<=2000)=false:=zBA (by omega);simp only[xk,wW,d,zF,zBw,zBA h,Bool.false_and]
end
section
attribute [local irreducible] P0
theorem zAW(n:Nat):(Qa n).2=0↔n=0\/n%10≠0:=by
 constructor
 ·intro h;by_cases h0:n≠0/\n%10=0
  ·rw[zli h0.1 h0.2]at h;simp at h
  ·omega
 ·intro h;rw[zkq h]
def nokB(n:Nm):Bool:=if n.m=[]then(!n.neg&&decide (n.e=0))else decide (n.m.length<=90/\lat n.m (n.m.length-1)≠0 /\ -1200<=n.e/\n.e<=1200/\xQ n.m%10≠0)
theorem zxX{l:List Nat}(h:l≠[])(h2:lat l (l.length-1)≠0):Nrm l/\xQ l≠0:=by
 have hp:=List.length_pos_iff.2 h;have hn:Nrm l:=by unfold Nrm;intro h3;unfold lat at h2;rw[h3]at h2;exact h2 rfl
 exact⟨hn,fun h0=>h (zlV hn h0)⟩
theorem zgS(n:Nm)(hu:U32 n.m)(hl:n.m.length<=9223372036854775807):P0 jG [.v n.val] []=some (.bool (nokB n),[]):=by
 rw[zmt];unfold zeW;unfold nokB;by_cases h0:n.m=[]
 ·rw[zBu h0];cases hn:n.neg<;>(apply yes;simp[h0,hn])
 ·have hp:=List.length_pos_iff.2 h0;rw[zBt h0];have e2:=w64 (a:=(n.m.length:Int)-1) (by omega);have e3:=zyG .i64 ((n.m.length:Int)-1) n.m.length (by omega);have e4:((n.m.length:Int)-1).toNat=n.m.length-1:=by omega
  have e8:n.m.length-1<n.m.length:=by omega
  have e5:n.m[n.m.length-1]=lat n.m (n.m.length-1):=by unfold lat;rw[zL e8];rfl
  by_cases c1:n.m.length<=90
  ·have ht:=zvk n.m hu (by omega);have c1' : ¬ ((90:Int)<(n.m.length:Int))/\(n.m.length:Int)<=90:=by omega
   by_cases c2:lat n.m (n.m.length-1)=0
   ·apply yes;simp[h0,c1',e2,e3,e4,e8,e5,c2]
   ·by_cases c3:n.e < -1200
    ·have c3' : ¬ (-1200<=n.e):=by omega
     apply yes;simp[h0,c1',e2,e3,e4,e8,e5,c2,c3,c3']
    ·have c3' : ¬ (n.e < -1200) /\ -1200<=n.e:=by omega
     by_cases c4:1200<n.e
     ·have c4' : ¬ (n.e<=1200):=by omega
      apply yes;simp[h0,c1',e2,e3,e4,e8,e5,c2,c3',c4,c4']
     ·have c4' : ¬ (1200<n.e)/\n.e<=1200:=by omega
      have hv:=(zxX h0 c2).2;have c5:(Qa (xQ n.m)).2=0 ↔ ¬ xQ n.m%10=0:=by rw[zAW];omega
      apply yes;simp[h0,c1,c1',e2,e3,e4,e8,e5,c2,c3',c4',ht,c5]
  ·have c1':((90:Int)<(n.m.length:Int)) /\ ¬ (n.m.length:Int)<=90:=by omega
   apply yes;simp[h0,c1',c1]
theorem Nm.ok.nokB{n:Nm}(h:n.ok):nokB n=true:=by
 unfold Ev.nokB;rcases h with⟨h1,h2,h3⟩ | ⟨h1,h2,h3,h4,h5,h6,h7⟩
 ·rw[zBu h1,h2,h3];rfl
 ·rw[zBt h1,zCb];refine⟨h3,?_,h5,h6,by rw[<- (zei 10 (by decide) n.m).2];exact h7⟩;have hp:=List.length_pos_iff.2 h1;unfold lat;intro h0;rw[zL (by omega)]at h0;exact h4 (by rw[zL (by omega)];congr 1)
theorem zxW{i:Nat}(h:i<=9223372036854775806):IntKind.i64.wrap ((i:Int)+1)=((i+1:Nat):Int):=w64 (a:=(i:Int)+1) (by omega)
def KZ(l:List Str)(i:Nat):Prop := ∀ k (h:k<l.length),i<=k->Q4 l[k]=true/\(∀ (h0:0<k),lt (l[k-1]'(by omega)) l[k]=true)
theorem zpV(l:List Str)(hl:l.length<=9223372036854775807)(m:Nat) : ∀ i,i+m=l.length ->
  (KZ l i->zr (xe l.length (.sl (strs l))) (vec [.int .i64 (i:Int)])=some (0,vec []))/\(¬ KZ l i->zr (xe l.length (.sl (strs l))) (vec [.int .i64 (i:Int)])=some (1,vec [.bool false])):=by
 induction m with
 | zero=>
  intro i hi;refine⟨fun _=>zh ?_,fun h=>absurd (fun k hk hik=>by omega) h⟩;unfold xe;have c1 : ¬ (i:Int)<(l.length:Int):=by omega
  simp only[yB,zv,zl,c1,zBy]
 | succ m ih=>
  intro i hi;have h1:i<l.length:=by omega
  have c1:(i:Int)<(l.length:Int):=by omega
  have hx:l[i]?=some l[i]:=zL h1;obtain⟨q1,q2⟩:=ih (i+1) (by omega);have split:KZ l i↔(Q4 l[i]=true/\(∀ h0:0<i,lt (l[i-1]'(by omega)) l[i]=true))/\KZ l (i+1):=by
   constructor
   ·intro h;exact⟨h i h1 (zR i),fun k hk hik=>h k hk (by omega)⟩
   ·rintro⟨ha,hb⟩ k hk hik;by_cases e:k=i
    ·subst e;exact ha
    ·exact hb k hk (by omega)
  by_cases ht:Q4 l[i]=true
  ·by_cases h0:0<i
   ·have c3:(0:Int)<(i:Int):=by omega
    have hm:IntKind.i64.wrap ((i:Int)-1)=((i-1:Nat):Int):=by rw[w64 (a:=(i:Int)-1) (by omega)];omega
    have hy:l[i-1]?=some l[i-1]:=zL (by omega);cases hlt:lt (l[i-1]'(by omega)) l[i]with
    | true=>
     have g1:Op.bytesLess (l[i-1]'(by omega)) l[i]=true:=hlt;have step:zr (xe l.length (.sl (strs l))) (vec [.int .i64 (i:Int)])=zr (xe l.length (.sl (strs l))) (vec [.int .i64 ((i+1:Nat):Int)]):=by apply zp;unfold xe;simp only[yB,zv,zl,c1,zBx,zBv,z7,zd,zg _ i l.length h1,yx,hx,zC,yo,JX,ht,yu,zH,Zn,c3,ZQ,hm,zg _ (i-1) l.length (by omega),hy,zwu,g1,yX,zxW (i:=i) (by omega)]
     rw[step];exact⟨fun h=>q1 (split.1 h).2,fun h=>q2 (fun h2=>h (split.2 ⟨⟨ht,fun _=>hlt⟩,h2⟩))⟩
    | false=>
     have g1:Op.bytesLess (l[i-1]'(by omega)) l[i]=false:=hlt;refine⟨fun h => ?_,fun _=>zh ?_⟩
     ·have:=(split.1 h).1.2 h0;rw[hlt]at this;contradiction
     ·unfold xe;simp only[xk,zv,zl,c1,zBx,zf,zBv,z7,zd,zg _ i l.length h1,yx,hx,zC,yo,JX,ht,yu,zH,Zn,c3,ZQ,hm,zg _ (i-1) l.length (by omega),hy,zwu,g1,zI]
   ·have c3 : ¬ (0:Int)<(i:Int):=by omega
    have step:zr (xe l.length (.sl (strs l))) (vec [.int .i64 (i:Int)])=zr (xe l.length (.sl (strs l))) (vec [.int .i64 ((i+1:Nat):Int)]):=by apply zp;unfold xe;simp only[yB,zv,zl,c1,zBx,zBv,z7,zd,zg _ i l.length h1,yx,hx,zC,yo,JX,ht,yu,zH,Zn,c3,zBy,yX,zxW (i:=i) (by omega)]
    rw[step];exact⟨fun h=>q1 (split.1 h).2,fun h=>q2 (fun h2=>h (split.2 ⟨⟨ht,fun h=>absurd h h0⟩,h2⟩))⟩
  ·have ht':Q4 l[i]=false:=by simpa using ht
   refine⟨fun h=>absurd (split.1 h).1.1 ht,fun _=>zh ?_⟩;unfold xe;simp only[xk,zv,zl,c1,zBx,zf,zBv,z7,zd,zg _ i l.length h1,yx,hx,zC,yo,JX,ht',yu,zI,zX,zBw]
def zqE(l:List Str):Prop:=KZ l 0/\l.length<=300
open Classical in
noncomputable def zgg(l:List Str):Bool:=decide (zqE l)
theorem zdr(l:List Str):zgg l=true↔zqE l:=by unfold zgg;exact @decide_eq_true_iff (zqE l) (Classical.propDecidable _)
theorem zwz{l:List Str}(h : ¬ zqE l):zgg l=false:=by
 cases hb:zgg l with
 | false=>rfl
 | true=>exact absurd ((zdr l).1 hb) h
theorem zte(l:List Str)(hl:l.length<=9223372036854775807):P0 jR [.v (.sl (strs l))] []=some (.bool (zgg l),[]):=by
 obtain⟨q1,q2⟩:=zpV l hl l.length 0 (by omega);rw[show((0:Nat):Int)=0 from rfl]at q1 q2;rw[zjL];unfold zb8;by_cases h:KZ l 0
 ·simp only[xk,zb,zd,q1 h,zBv];by_cases h3:l.length<=300
  ·rw[zBz (show((l.length:Nat):Int)<=300 by omega),(zdr l).2 ⟨h,h3⟩]
  ·rw[zBA (show ¬ ((l.length:Nat):Int)<=300 by omega),zwz (fun q=>h3 q.2)]
 ·simp only[xk,zb,zd,q2 h,zBM,zBw,zv];rw[zwz (fun q=>h q.1)]
end
section
attribute [local irreducible] P0
theorem ztg(T N S K I:Bool):(((if T=true then some (V.bool N)else some (.bool false):Option V)).bind fun x52=>(asBool x52).bind fun b53=>((if b53=true then some (V.bool S)else some (.bool false):Option V)).bind fun x54=>(asBool x54).bind fun b55=>((if b55=true then some (V.bool K)else some (.bool false):Option V)).bind fun x56=>(asBool x56).bind fun b57=>((if b57=true then some (V.bool I)else some (.bool false):Option V)).bind fun x58=>some (x58,([]:List V)))=some (.bool (T&&N&&S&&K&&I),[]):=by cases T<;>cases N<;>cases S<;>cases K<;>rfl
theorem zBh(N S K I:Bool):((asBool (V.bool N)).bind fun b53=>((if b53=true then some (V.bool S)else some (.bool false):Option V)).bind fun x54=>(asBool x54).bind fun b55=>((if b55=true then some (V.bool K)else some (.bool false):Option V)).bind fun x56=>(asBool x56).bind fun b57=>((if b57=true then some (V.bool I)else some (.bool false):Option V)).bind fun x58=>some (x58,([]:List V)))=some (.bool (true&&N&&S&&K&&I),[]):=by cases N<;>cases S<;>cases K<;>rfl
def Wc(n:Nm):Bool := !n.neg&&decide (n.m=[])&&decide (n.e=0)
def k0(t:Tree):Bool:=((t.k.length:Nat):Int)==0
def v0(t:Tree):Bool:=((t.v.length:Nat):Int)==0
noncomputable def ownB(t:Tree):Bool:=
 if t.kind=1 then !t.b&&Wc t.n&&decide (t.s=[])&&k0 t&&v0 t
 else if t.kind=2 then true&&Wc t.n&&decide (t.s=[])&&k0 t&&v0 t
 else if t.kind=3 then !t.b&&nokB t.n&&decide (t.s=[])&&k0 t&&v0 t
 else if t.kind=4 then !t.b&&Wc t.n&&Q4 t.s&&k0 t&&v0 t
 else if t.kind=5 then !t.b&&Wc t.n&&decide (t.s.length<=2000)&&k0 t&&v0 t
 else if t.kind=7 then !t.b&&Wc t.n&&decide (t.s=[])&&(zgg t.k&&decide (t.k.length=t.v.length))&&decide (t.v.length<=300)
 else if t.kind=6 then !t.b&&Wc t.n&&decide (t.s=[])&&k0 t&&decide (t.v.length<=300)
 else false
def zzk(t:Tree):Prop:=U32 t.n.m/\t.n.m.length<=9223372036854775807/\t.k.length<=9223372036854775807
theorem zwH{α:Type}(l:List α):((((l.length:Nat):Int))==0)=decide (l=[]):=by
 cases l with
 | nil=>rfl
 | cons a r=>
  have : ¬ (((a::r).length:Nat):Int)=0:=by simp only[zBG];omega
  rw[zBA (by simp),beq_eq_false_iff_ne];exact this
theorem zlZ(s:Str):(s==([]:Str))=decide (s=[]):=by cases s<;>rfl
theorem zsm(t:Tree)(h:zzk t):P0 kM [.v t.val] []=some (.bool (ownB t),[]):=by
 obtain⟨hu,hm,hk⟩:=h;rw[zpK];unfold zhh;have e1:(((t.n.m.length:Nat):Int)==0)=decide (t.n.m=[]):=zwH _;have e2:(((t.k.length:Nat):Int)==0)=decide (t.k=[]):=zwH _;have e3:(((t.v.length:Nat):Int)==0)=decide (t.v=[]):=zwH _;have x8:(if(!t.n.neg)=true then(ze t.val 3).bind fun c6=>(yw c6).bind fun n7=>some (.bool ((((n7:Nat):Int):Int)==0))else some (.bool false):Option V)=some (.bool (!t.n.neg&&decide (t.n.m=[]))):=by
  cases t.n.neg with
  | true=>rfl
  | false=>simp only[xk,zI,zBv,zgU,zb,z8,e1,Bool.true_and]
 have x12:(if(!t.n.neg&&decide (t.n.m=[]))=true then(ze t.val 4).bind fun c10=>(zc .eql c10 (.int .i64 0)).bind fun x11=>some x11 else some (.bool false):Option V)=some (.bool (Wc t.n)):=by
  unfold Wc;cases (!t.n.neg&&decide (t.n.m=[]))with
  | false=>rfl
  | true=>simp only[xk,zBv,zjT,zq,Bool.true_and]
 by_cases h1:t.kind=1
 ·rw[show ownB t=_ from zBu h1];simp only[xk,we,za,xE,Va,Jo,We,qG,xI,yu,zf,x8,x12,vm,zlZ,zb,zd,zi,zq,h1,Int.reduceEq,zv];exact ztg (!t.b) (Wc t.n) (decide (t.s=[])) (k0 t) (v0 t)
 by_cases h2:t.kind=2
 ·rw[show ownB t=_ from(zBt h1).trans (zBu h2)];simp only[we,yB,za,xE,Va,Jo,We,qG,xI,yu,x8,x12,vm,zlZ,zb,zd,zi,zq,h2,Int.reduceEq,zBy,zv];exact zBh (Wc t.n) (decide (t.s=[])) (k0 t) (v0 t)
 by_cases h3:t.kind=3
 ·rw[show ownB t=_ from(zBt h1).trans ((zBt h2).trans (zBu h3))];simp only[we,yB,za,xE,Va,Jo,We,qG,xI,yu,x8,x12,vm,zlZ,zb,zd,zi,zq,h3,Int.reduceEq,zBy,zv,zlP,zgS t.n hu hm];exact ztg (!t.b) (nokB t.n) (decide (t.s=[])) (k0 t) (v0 t)
 by_cases h4:t.kind=4
 ·rw[show ownB t=_ from(zBt h1).trans ((zBt h2).trans ((zBt h3).trans (zBu h4)))];simp only[we,yB,za,xE,Va,Jo,We,qG,xI,yu,x8,x12,vm,zlZ,zb,zd,zi,zq,h4,Int.reduceEq,zBy,zv,JX];exact ztg (!t.b) (Wc t.n) (Q4 t.s) (k0 t) (v0 t)
 by_cases h5:t.kind=5
 ·rw[show ownB t=_ from(zBt h1).trans ((zBt h2).trans ((zBt h3).trans ((zBt h4).trans (zBu h5))))];have e5:decide (((t.s.length:Nat):Int)<=2000)=decide (t.s.length<=2000):=by
   by_cases q:t.s.length<=2000
   ·rw[zBz q,zBz (by omega)]
   ·rw[zBA q,zBA (by omega)]
  simp only[we,yB,za,xE,Va,Jo,We,qG,xI,yu,x8,x12,vm,zlZ,zb,zd,zi,zq,h5,Int.reduceEq,zBy,zv,wW];rw[e5];exact ztg (!t.b) (Wc t.n) (decide (t.s.length<=2000)) (k0 t) (v0 t)
 have e300:decide (((t.v.length:Nat):Int)<=300)=decide (t.v.length<=300):=by
  by_cases q:t.v.length<=300
  ·rw[zBz q,zBz (by omega)]
  ·rw[zBA q,zBA (by omega)]
 have z2:(2:Nat)=0↔False:=by decide
 have z1:(2-1:Nat)=0↔False:=by decide
 by_cases h7:t.kind=7
 ·rw[show ownB t=_ from(zBt h1).trans ((zBt h2).trans ((zBt h3).trans ((zBt h4).trans ((zBt h5).trans (zBu h7)))))];have x44:(if zgg t.k=true then(ze t.val 6).bind fun c40=>(yw c40).bind fun n41=>(ze t.val 7).bind fun c42=>(yw c42).bind fun n43=>some (.bool ((((n41:Nat):Int):Int)==((n43:Nat):Int)))else some (.bool false):Option V)=some (.bool (zgg t.k&&decide (t.k.length=t.v.length))):=by
   cases zgg t.k with
   | false=>rfl
   | true=>
    have:(((t.k.length:Nat):Int)==((t.v.length:Nat):Int))=decide (t.k.length=t.v.length):=by
     by_cases q:t.k.length=t.v.length
     ·rw[zBz q,q];simp
     ·rw[zBA q,beq_eq_false_iff_ne];omega
    simp only[xk,zBv,qG,xI,zb,zd,zi,this,Bool.true_and]
  simp only[we,yB,za,xE,Va,Jo,We,qG,xI,yu,x8,x12,vm,zlZ,zb,zd,zi,zq,h7,Int.reduceEq,zBy,zv,zte t.k hk,x44,z2,z1];rw[e300];exact ztg (!t.b) (Wc t.n) (decide (t.s=[])) (zgg t.k&&decide (t.k.length=t.v.length)) (decide (t.v.length<=300))
 by_cases h6:t.kind=6
 ·rw[show ownB t=_ from(zBt h1).trans ((zBt h2).trans ((zBt h3).trans ((zBt h4).trans ((zBt h5).trans ((zBt h7).trans (zBu h6))))))];simp only[we,yB,za,xE,Va,Jo,We,qG,xI,yu,x8,x12,vm,zlZ,zb,zd,zi,zq,h6,Int.reduceEq,zBy,zv,z2,z1];rw[e300];exact ztg (!t.b) (Wc t.n) (decide (t.s=[])) (k0 t) (decide (t.v.length<=300))
 ·rw[show ownB t=false from(zBt h1).trans ((zBt h2).trans ((zBt h3).trans ((zBt h4).trans ((zBt h5).trans ((zBt h7).trans (zBt h6))))))];simp only[yB,za,z5,xE,Va,Jo,We,qG,xI,yu,x8,x12,vm,zlZ,zb,zd,zi,zq,h1,h2,h3,h4,h5,h6,h7,zBy,zBM,Nat.sub_self,zBv,zv]
end
section
attribute [local irreducible] P0
mutual
def depth:Tree->Nat
 | .mk _ _ _ _ _ v=>1+depthL v
def depthL:List Tree->Nat
 | []=>0
 | x::r=>max (depth x) (depthL r)
end
theorem Zv(t:Tree):depth t=1+depthL t.v:=by cases t;rw[depth];rfl
theorem zkT{l:List Tree}{x:Tree}(h:x∈l):depth x<=depthL l:=by
 induction l with
 | nil=>simp at h
 | cons y r ih=>
  rw[depthL];rcases List.mem_cons.1 h with rfl | h
  ·omega
  ·have:=ih h;omega
theorem zeT{l:List Tree}{x:Tree}(h:x∈l):xT x<=nodesL l:=by
 induction l with
 | nil=>simp at h
 | cons y r ih=>
  rw[nodesL];rcases List.mem_cons.1 h with rfl | h
  ·omega
  ·have:=ih h;omega
theorem KI(t:Tree):1<=xT t:=by rw[wV];omega
theorem zgJ(l:List Tree):l.length<=nodesL l:=by
 induction l with
 | nil=>simp
 | cons x r ih=>rw[nodesL,zBG];have:=KI x;omega
inductive OkG:Tree->Prop
 | mk (t:Tree) (h:ownB t=true) (hv : ∀ x,x∈t.v->OkG x):OkG t
theorem OkG.own{t:Tree}(h:OkG t):ownB t=true:=by cases h;assumption
theorem OkG.sub{t:Tree}(h:OkG t) : ∀ x,x∈t.v->OkG x:=by cases h;assumption
inductive TameT:Tree->Prop
 | mk (t:Tree) (h:zzk t) (hv : ∀ x,x∈t.v->TameT x):TameT t
theorem zr3{t:Tree}(h:ownB t=true):t.v.length<=300:=by
 have v0f:v0 t=true->t.v.length<=300:=fun q=>by unfold v0 at q;have:=eq_of_beq q;omega
 unfold ownB at h
 repeat' (split at h)
 all_goals first
  | contradiction
  | (simp only[zG,zCb]at h;first | exact h.2 | exact v0f h.2)
def Fits(t:Tree)(deep:Nat)(left:Int):Prop:=OkG t/\deep+depth t<=65/\(xT t:Int)<=left
def zn4(l:List Tree)(deep:Nat)(left:Int):Prop:=(∀ x,x∈l->OkG x/\deep+depth x<=65)/\(nodesL l:Int)<=left
theorem zrv(t:Tree)(deep:Nat)(hd:deep<=1000)(hl:t.v.length<=300)
  (hc : ∀ x,x∈t.v -> ∀ left:Int,0<=left->left<=2000 -> ∃ b left',P0 vj [.v x.val,.v (.int .i64 ((deep+1:Nat):Int)),.p 0 0] [(false,1,.int .i64 left)]=some (.bool b,[.int .i64 left'])/\(b=true↔Fits x (deep+1) left)/\(b=true->left'=left-xT x)) (m:Nat) : ∀ i (left:Int),i+m=t.v.length->0<=left->left<=2000 ->
  ∃ j v left',zr (qz t.v.length (.sl (trs t.v)) (.int .i64 (deep:Int))) (vec [.int .i64 (i:Int),.int .i64 left])=some (j,v)/\((zn4 (t.v.drop i) (deep+1) left/\j=0/\v=vec [.int .i64 left']/\left'=left-nodesL (t.v.drop i))\/(¬ zn4 (t.v.drop i) (deep+1) left/\j=1/\v=vec [.bool false,.int .i64 left'])):=by
 induction m with
 | zero=>
  intro i left hi h0 h1;have e:t.v.drop i=[]:=zQ (by omega);refine⟨0,vec [.int .i64 left],left,zh ?_,.inl ⟨?_,rfl,rfl,?_⟩⟩
  ·unfold qz;have c1 : ¬ (i:Int)<(t.v.length:Int):=by omega
   simp only[Z2,yB,zl,c1,zBy]
  ·rw[e];exact⟨fun x hx=>by simp at hx,by simp[nodesL];exact h0⟩
  ·rw[e];simp[nodesL]
 | succ m ih=>
  intro i left hi h0 h1;have hlt:i<t.v.length:=by omega
  have c1:(i:Int)<(t.v.length:Int):=by omega
  have hx:t.v[i]?=some t.v[i]:=zL hlt;obtain⟨b,l1,p1,p2,p3⟩:=hc _ (zCg hlt) left h0 h1;have hdr:=zO hlt;have wd:IntKind.i64.wrap ((deep:Int)+1)=((deep+1:Nat):Int):=zxW (by omega);cases b with
  | true=>
   have hf:=p2.1 rfl;have hl1:=p3 rfl;have hnp:=KI t.v[i];obtain⟨f1,f2,f3⟩:=hf;obtain⟨j,v,l2,q1,q2⟩:=ih (i+1) l1 (by omega) (by omega) (by omega);refine⟨j,v,l2,?_,?_⟩
   ·rw[<- q1];apply zp;unfold qz;simp only[Z2,we,yB,zl,c1,yW,zi,zg _ i t.v.length hlt,wC,hx,zC,za,yX,wd,p1,zM,yu,zH,zxW (i:=i) (by omega)]
   ·have key:zn4 (t.v.drop i) (deep+1) left↔zn4 (t.v.drop (i+1)) (deep+1) l1:=by
     rw[hdr];constructor
     ·rintro⟨a1,a2⟩;rw[nodesL]at a2;exact⟨fun x hx=>a1 x (zP _ hx),by omega⟩
     ·rintro⟨a1,a2⟩;refine⟨fun x hx => ?_,by rw[nodesL];omega⟩;rcases List.mem_cons.1 hx with rfl | hx
      ·exact⟨f1,f2⟩
      ·exact a1 x hx
    rcases q2 with⟨g1,g2,g3,g4⟩ | ⟨g1,g2,g3⟩
    ·exact .inl ⟨key.2 g1,g2,g3,by rw[hdr,nodesL];omega⟩
    ·exact .inr ⟨fun q=>g1 (key.1 q),g2,g3⟩
  | false=>
   refine⟨1,vec [.bool false,.int .i64 l1],l1,zh ?_,.inr ⟨fun q => ?_,rfl,rfl⟩⟩
   ·unfold qz;simp only[xk,Z2,we,zl,c1,zf,yW,zi,zg _ i t.v.length hlt,wC,hx,zC,za,yX,wd,p1,zM,yu,zI]
   ·rw[hdr]at q;obtain⟨a1,a2⟩:=q;rw[nodesL]at a2;have:=p2.2 ⟨(a1 _ zBY).1,(a1 _ zBY).2,by omega⟩;contradiction
theorem zuF(t:Tree)(ht:TameT t) : ∀ (deep:Nat) (left:Int),deep<=66->0<=left->left<=2000 -> ∃ b left',P0 vj [.v t.val,.v (.int .i64 (deep:Int)),.p 0 0] [(false,1,.int .i64 left)]=some (.bool b,[.int .i64 left'])/\(b=true↔Fits t deep left)/\(b=true->left'=left-xT t):=by
 induction ht with
 | mk t htm hv ih=>
  intro deep left hd h0 h1;rw[zj8];unfold zcP;have w1:IntKind.i64.wrap (left-1)=left-1:=w64 (by omega);have hn:=KI t;by_cases c1:left-1<0
  ·refine⟨false,left-1,?_,⟨fun h=>by contradiction,fun h => ?_⟩,fun h=>by contradiction⟩
   ·simp only[xk,we,za,ZQ,w1,Xo,xM,zl,c1,zf,zX,zBw]
   ·have:=h.2.2;omega
  by_cases c2:64<deep
  ·have c2':(64:Int)<(deep:Int):=by omega
   refine⟨false,left-1,?_,⟨fun h=>by contradiction,fun h => ?_⟩,fun h=>by contradiction⟩
   ·simp only[xk,we,za,ZQ,w1,Xo,xM,zl,c1,zBy,zf,Zn,c2',zX,zBw]
   ·have:=h.2.1;rw[Zv]at this;omega
  have c2' : ¬ (64:Int)<(deep:Int):=by omega
  cases ho:ownB t with
  | false=>
   refine⟨false,left-1,?_,⟨fun h=>by contradiction,fun h => ?_⟩,fun h=>by contradiction⟩
   ·simp only[xk,za,z5,ZQ,w1,Xo,xM,zl,c1,zBy,zf,zBv,Zn,c2',zsm t htm,ho,yu,zI]
   ·have:=h.1.own;rw[ho]at this;contradiction
  | true=>
   have hl:=zr3 ho;obtain⟨j,v,l2,q1,q2⟩:=zrv t deep (by omega) hl (fun x hx left a b=>ih x hx (deep+1) left (by omega) a b) t.v.length 0 (left-1) (by omega) (by omega) (by omega);rw[show((0:Nat):Int)=0 from rfl]at q1;rw[zU]at q2;have key:zn4 t.v (deep+1) (left-1)↔Fits t deep left:=by
    constructor
    ·rintro⟨a1,a2⟩;refine⟨.mk t ho (fun x hx=>(a1 x hx).1),?_,by rw[wV];omega⟩;rw[Zv];have : ∀ l:List Tree,(∀ x,x∈l->deep+1+depth x<=65)->deep+1<=65->deep+(1+depthL l)<=65:=by
      intro l;induction l with
      | nil=>intro _ h;simp[depthL];omega
      | cons y r ihr=>intro h h2;have g1:=h y zBY;have g2:=ihr (fun x hx=>h x (zP _ hx)) h2;rw[depthL];omega
     exact this t.v (fun x hx=>(a1 x hx).2) (by omega)
    ·rintro⟨a1,a2,a3⟩;rw[wV]at a3;rw[Zv]at a2;exact⟨fun x hx=>⟨a1.sub x hx,by have:=zkT hx;omega⟩,by omega⟩
   have main : ∀ {b:Bool} {l':Int},(if j=0 then some (V.bool true,[v 0])else some (v 0,[v 1]):Option (V×List V))=some (.bool b,[.int .i64 l'])->(tst (okN 8 t.val) ((zc .sub (.int .i64 left) (.int .i64 1)).bind fun x1=>
     tst (okN 1 x1) ((ze x1 0).bind fun c2=>(zc .lss c2 (.int .i64 0)).bind fun x3=>(asBool x3).bind fun b4=>((if b4=false then(zc .gtr (.int .i64 (deep:Int)) (.int .i64 64)).bind fun x5=>some x5 else some (.bool true):Option V)).bind fun x6=>(asBool x6).bind fun b7=>
     ((if b7=false then(P0 kM [.v t.val] []).bind fun r8=>(unV .not r8.1).bind fun x9=>some x9 else some (.bool true):Option V)).bind fun x10=>(asBool x10).bind fun b11=>if b11=true then some ((.bool false),[c2])else(ze t.val 7).bind fun c12=>(yw c12).bind fun n13=>
     (zr (qz n13 c12 (.int .i64 (deep:Int))) (vec [(.int .i64 0),c2])).bind fun o26=>if o26.1=0 then some ((.bool true),[(o26.2 0)])else some ((o26.2 0),[(o26.2 1)]))))=some (.bool b,[.int .i64 l']):=by
    intro b l' h;simp only[yB,za,z5,ZQ,w1,Xo,xM,zl,c1,zBy,zBv,Zn,c2',zsm t htm,ho,yu,zH,xI,zb,zi,q1];exact h
   rcases q2 with⟨g1,g2,g3,g4⟩ | ⟨g1,g2,g3⟩
   ·refine⟨true,l2,main (by rw[g2,g3];rfl),⟨fun _=>key.1 g1,fun _=>rfl⟩,fun _=>by rw[g4,wV];omega⟩
   ·refine⟨false,l2,main (by rw[g2,g3];rfl),⟨fun h=>by contradiction,fun h=>absurd (key.2 h) g1⟩,fun h=>by contradiction⟩
theorem zlg(t:Tree)(ht:TameT t) : ∃ b,P0 xo [.v t.val] []=some (.bool b,[])/\(b=true↔OkG t/\depth t<=64/\xT t<=2000):=by obtain⟨b,l',h1,h2,h3⟩:=zuF t ht 1 2000 (by decide) (by decide) (by decide);have h1:P0 vj [.v t.val,.v (.int .i64 1),.p 0 0] [(false,1,.int .i64 2000)]=some (.bool b,[.int .i64 l']):=h1;refine⟨b,?_,h2.trans ⟨fun⟨a1,a2,a3⟩=>⟨a1,by omega,by omega⟩,fun⟨a1,a2,a3⟩=>⟨a1,by omega,by omega⟩⟩⟩;rw[zkh];unfold zcR;simp only[xk,za,z5,h1,zM]
end
section
attribute [local irreducible] P0
def w1(t:Tree):Nat:=1+(if t.kind=3 then t.n.m.length else if t.kind=4 then t.s.length else if t.kind=5 then t.s.length else 0)
mutual
def yk:Tree->Nat
 | .mk kind b n s k v=>w1 (.mk kind b n s k v)+weightL v
def weightL:List Tree->Nat
 | []=>0
 | x::r=>yk x+weightL r
end
theorem wL(t:Tree):yk t=w1 t+weightL t.v:=by cases t;rw[yk];rfl
theorem za4(t:Tree):1<=w1 t:=by unfold w1;omega
theorem zl0(l:List Tree)(i:Nat)(h:i<l.length):weightL (l.drop i)=yk l[i]+weightL (l.drop (i+1)):=by rw[zO h,weightL]
theorem zbJ{l:List Tree}{x:Tree}(h:x∈l):yk x<=weightL l:=by
 induction l with
 | nil=>simp at h
 | cons y r ih=>
  rw[weightL];rcases List.mem_cons.1 h with rfl | h
  ·omega
  ·have:=ih h;omega
theorem Kl(l:List Tree):l.length<=weightL l:=by
 induction l with
 | nil=>simp
 | cons x r ih=>rw[weightL,zBG,wL];have:=za4 x;omega
theorem zpk(t:Tree)(hl:t.v.length<=1000000000)(hw : ∀ x,x∈t.v->P0 vq [.v x.val] []=some (.int .i64 (yk x:Nat),[]))(m:Nat) : ∀ (i a:Nat),i+m=t.v.length->a+weightL (t.v.drop i)<=1000000000 ->
  zr (kC t.v.length (.sl (trs t.v))) (vec [.int .i64 (a:Int),.int .i64 (i:Int)])=some (0,vec [.int .i64 ((a+weightL (t.v.drop i):Nat):Int)]):=by
 induction m with
 | zero=>
  intro i a hi ha;apply zh;unfold kC;have c1 : ¬ (i:Int)<(t.v.length:Int):=by omega
  have e:t.v.drop i=[]:=zQ (by omega);simp only[Z2,yB,zl,c1,zBy,e,weightL,zBF]
 | succ m ih=>
  intro i a hi ha;have hlt:i<t.v.length:=by omega
  have c1:(i:Int)<(t.v.length:Int):=by omega
  have hx:t.v[i]?=some t.v[i]:=zL hlt;rw[zl0 _ _ hlt]at ha ⊢;have wa:IntKind.i64.wrap ((a:Int)+((yk t.v[i]:Nat):Int))=((a+yk t.v[i]:Nat):Int):=w64 (a:=(a:Int)+((yk t.v[i]:Nat):Int)) (by omega);rw[<- Nat.add_assoc,<- ih (i+1) (a+yk t.v[i]) (by omega) (by omega)];apply zp;unfold kC;simp only[xk,Z2,we,zl,c1,zf,yW,zi,zg _ i t.v.length hlt,wC,hx,zC,za,hw _ (zCg hlt),yX,wa,yQ (i:=i) (by omega)]
theorem V6 : ∀ t:Tree,yk t<=1000000000->P0 vq [.v t.val] []=some (.int .i64 (yk t:Nat),[]):=by
 intro t;induction t using Tree.ind with
 | h t ih=>
  intro hw;rw[wL]at hw;have hlen:=Kl t.v;have hp:=za4 t;have hloop:=zpk t (by omega) (fun x hx=>ih x hx (by have:=zbJ hx;omega)) t.v.length 0 (w1 t) (by omega) (by rw[zU];omega);rw[zU,show((0:Nat):Int)=0 from rfl,<- wL]at hloop;rw[zi8];unfold zav;by_cases h3:t.kind=3
  ·have e:w1 t=1+t.n.m.length:=by unfold w1;rw[zBu h3]
   have wn:IntKind.i64.wrap (1+((t.n.m.length:Nat):Int))=((w1 t:Nat):Int):=by rw[w64 (a:=1+((t.n.m.length:Nat):Int)) (by omega)];omega
   simp only[xk,we,za,xE,zq,h3,zf,zgU,zb,z8,wn,xI,zi,zv,hloop]
  by_cases h45:t.kind=4\/t.kind=5
  ·have e:w1 t=1+t.s.length:=by unfold w1;rw[zBt h3];rcases h45 with h | h<;>simp[h]
   have wn:IntKind.i64.wrap (1+((t.s.length:Nat):Int))=((w1 t:Nat):Int):=by rw[w64 (a:=1+((t.s.length:Nat):Int)) (by omega)];omega
   rcases h45 with h | h
   ·simp only[we,yB,za,xE,zq,h,Int.reduceEq,zBy,zv,We,wW,wn,xI,zb,zi,hloop]
   ·simp only[we,yB,za,xE,zq,h,Int.reduceEq,zBy,zv,We,wW,wn,xI,zb,zi,hloop]
  ·have e:w1 t=1:=by unfold w1;rw[zBt h3,zBt (fun h=>h45 (.inl h)),zBt (fun h=>h45 (.inr h))]
   have h4 : ¬ t.kind=4:=fun h=>h45 (.inl h)
   have h5 : ¬ t.kind=5:=fun h=>h45 (.inr h)
   rw[e,show((1:Nat):Int)=1 from rfl]at hloop;simp only[yB,za,z5,xE,zq,h3,h4,h5,zBy,zv,xI,zb,zi,hloop]
theorem zqg(t:Tree)(hl:t.v.length<=1000000000)(hw : ∀ x,x∈t.v->P0 qg [.v x.val] []=some (.int .i64 (xT x:Nat),[]))(m:Nat) : ∀ (i a:Nat),i+m=t.v.length->a+nodesL (t.v.drop i)<=1000000000 ->
  zr (ZB t.v.length (.sl (trs t.v))) (vec [.int .i64 (a:Int),.int .i64 (i:Int)])=some (0,vec [.int .i64 ((a+nodesL (t.v.drop i):Nat):Int)]):=by
 induction m with
 | zero=>
  intro i a hi ha;apply zh;unfold ZB;have c1 : ¬ (i:Int)<(t.v.length:Int):=by omega
  have e:t.v.drop i=[]:=zQ (by omega);simp only[Z2,yB,zl,c1,zBy,e,nodesL,zBF]
 | succ m ih=>
  intro i a hi ha;have hlt:i<t.v.length:=by omega
  have c1:(i:Int)<(t.v.length:Int):=by omega
  have hx:t.v[i]?=some t.v[i]:=zL hlt;have hd:nodesL (t.v.drop i)=xT t.v[i]+nodesL (t.v.drop (i+1)):=by rw[zO hlt,nodesL]
  rw[hd]at ha ⊢;have wa:IntKind.i64.wrap ((a:Int)+((xT t.v[i]:Nat):Int))=((a+xT t.v[i]:Nat):Int):=w64 (a:=(a:Int)+((xT t.v[i]:Nat):Int)) (by omega);rw[<- Nat.add_assoc,<- ih (i+1) (a+xT t.v[i]) (by omega) (by omega)];apply zp;unfold ZB;simp only[xk,Z2,we,zl,c1,zf,yW,zi,zg _ i t.v.length hlt,wC,hx,zC,za,hw _ (zCg hlt),yX,wa,yQ (i:=i) (by omega)]
theorem zeo : ∀ t:Tree,xT t<=1000000000->P0 qg [.v t.val] []=some (.int .i64 (xT t:Nat),[]):=by
 intro t;induction t using Tree.ind with
 | h t ih=>intro hw;rw[wV]at hw;have hlen:=zgJ t.v;have hloop:=zqg t (by omega) (fun x hx=>ih x hx (by have:=zeT hx;omega)) t.v.length 0 1 (by omega) (by rw[zU];omega);rw[zU,show((0:Nat):Int)=0 from rfl,show((1:Nat):Int)=1 from rfl,<- wV]at hloop;rw[zjw];unfold zdh;simp only[xk,za,z5,xI,zb,zi,hloop,zv]
theorem zzH(a b:Nat):zpH (.int .i64 (a:Int)) [.int .i64 (b:Int)]=some (.int .i64 ((max a b:Nat):Int)):=by simp only[zpH,zBu];congr 2;split<;>omega
theorem zqD(t:Tree)(hl:t.v.length<=1000000000)(hw : ∀ x,x∈t.v->P0 qb [.v x.val] []=some (.int .i64 (depth x:Nat),[]))(m:Nat) : ∀ (i a:Nat),i+m=t.v.length ->
  zr (Zj t.v.length (.sl (trs t.v))) (vec [.int .i64 (a:Int),.int .i64 (i:Int)])=some (0,vec [.int .i64 ((max a (depthL (t.v.drop i)):Nat):Int)]):=by
 induction m with
 | zero=>
  intro i a hi;apply zh;unfold Zj;have c1 : ¬ (i:Int)<(t.v.length:Int):=by omega
  have e:t.v.drop i=[]:=zQ (by omega);simp only[Z2,yB,zl,c1,zBy,e,depthL,Nat.max_zero]
 | succ m ih=>
  intro i a hi;have hlt:i<t.v.length:=by omega
  have c1:(i:Int)<(t.v.length:Int):=by omega
  have hx:t.v[i]?=some t.v[i]:=zL hlt;have hd:depthL (t.v.drop i)=max (depth t.v[i]) (depthL (t.v.drop (i+1))):=by rw[zO hlt,depthL]
  rw[hd,<- Nat.max_assoc,<- ih (i+1) (max a (depth t.v[i])) (by omega)];apply zp;unfold Zj;simp only[xk,Z2,we,zl,c1,zf,yW,zi,zg _ i t.v.length hlt,wC,hx,zC,za,hw _ (zCg hlt),zzH,yX,yQ (i:=i) (by omega)]
theorem zoc : ∀ t:Tree,depth t<=xT t:=by
 intro t;induction t using Tree.ind with
 | h t ih=>
  rw[Zv,wV];have : ∀ l:List Tree,(∀ x,x∈l->depth x<=xT x)->depthL l<=nodesL l:=by
   intro l;induction l with
   | nil=>intro _;simp[depthL]
   | cons y r ihr=>intro h;have h1:=h y zBY;have h2:=ihr (fun x hx=>h x (zP _ hx));rw[depthL,nodesL];omega
  have:=this t.v ih;omega
theorem zln : ∀ t:Tree,xT t<=1000000000->P0 qb [.v t.val] []=some (.int .i64 (depth t:Nat),[]):=by
 intro t;induction t using Tree.ind with
 | h t ih=>
  intro hw;have hdn:=zoc t;rw[wV]at hw;have hlen:=zgJ t.v;have hloop:=zqD t (by omega) (fun x hx=>ih x hx (by have:=zeT hx;omega)) t.v.length 0 0 (by omega);rw[zU,show((0:Nat):Int)=0 from rfl,Nat.zero_max]at hloop;rw[Zv,wV]at hdn;have wd:IntKind.i64.wrap (1+((depthL t.v:Nat):Int))=((depth t:Nat):Int):=by rw[w64 (a:=1+((depthL t.v:Nat):Int)) (by omega),Zv];omega
  rw[zjU];unfold zde;simp only[xk,za,z5,xI,zb,zi,hloop,zv,yX,wd]
end
section
attribute [local irreducible] P0
theorem zdM{t:Tree}(h:t.k=[]):k0 t=true:=by unfold k0;rw[h];rfl
theorem zi9{t:Tree}(h:t.v=[]):v0 t=true:=by unfold v0;rw[h];rfl
theorem zst{s:Str}(h:(dec8 s).isSome=true)(hl:s.length<=2000):Q4 s=true:=by unfold Q4;rw[zBz hl,zm3 h];rfl
theorem zzx{l:List Str}(hs:Srt l)(hn : ∀ x,x∈l->(dec8 x).isSome=true/\x.length<=2000)(hl:l.length<=300):zqE l:=
 ⟨fun k hk _=>⟨zst (hn _ (zCg hk)).1 (hn _ (zCg hk)).2,fun h0=>zzX hs (k-1) k hk (by omega)⟩,hl⟩
theorem zyL{t:Tree}(h:t.kind=1):ownB t=(!t.b&&Wc t.n&&decide (t.s=[])&&k0 t&&v0 t):=zBu h
theorem zyS{t:Tree}(h:t.kind=2):ownB t=(true&&Wc t.n&&decide (t.s=[])&&k0 t&&v0 t):=(zBt (by omega)).trans (zBu h)
theorem zyK{t:Tree}(h:t.kind=3):ownB t=(!t.b&&nokB t.n&&decide (t.s=[])&&k0 t&&v0 t):=(zBt (by omega)).trans ((zBt (by omega)).trans (zBu h))
theorem zyM{t:Tree}(h:t.kind=4):ownB t=(!t.b&&Wc t.n&&Q4 t.s&&k0 t&&v0 t):=(zBt (by omega)).trans ((zBt (by omega)).trans ((zBt (by omega)).trans (zBu h)))
theorem zy1{t:Tree}(h:t.kind=5):ownB t=(!t.b&&Wc t.n&&decide (t.s.length<=2000)&&k0 t&&v0 t):=(zBt (by omega)).trans ((zBt (by omega)).trans ((zBt (by omega)).trans ((zBt (by omega)).trans (zBu h))))
theorem zyO{t:Tree}(h:t.kind=7):ownB t=(!t.b&&Wc t.n&&decide (t.s=[])&&(zgg t.k&&decide (t.k.length=t.v.length))&&decide (t.v.length<=300)):=(zBt (by omega)).trans ((zBt (by omega)).trans ((zBt (by omega)).trans ((zBt (by omega)).trans ((zBt (by omega)).trans (zBu h)))))
theorem zyQ{t:Tree}(h:t.kind=6):ownB t=(!t.b&&Wc t.n&&decide (t.s=[])&&k0 t&&decide (t.v.length<=300)):=(zBt (by omega)).trans ((zBt (by omega)).trans ((zBt (by omega)).trans ((zBt (by omega)).trans ((zBt (by omega)).trans ((zBt (by omega)).trans (zBu h))))))
theorem OkT.ownB{t:Tree}(h:OkT t):ownB t=true:=by
 cases h with
 | null=>rw[zyL rfl,zdM rfl,zi9 rfl];rfl
 | bool b=>rw[zyS rfl,zdM rfl,zi9 rfl];rfl
 | num n hn=>rw[zyK rfl,zdM rfl,zi9 rfl,show nokB (Tree.mk 3 false n [] [] []).n=true from hn.nokB];rfl
 | text s hs hl=>rw[zyM rfl,zdM rfl,zi9 rfl,show Q4 (Tree.mk 4 false .zero s [] []).s=true from zst hs hl];rfl
 | bytes s hl=>rw[zy1 rfl,zdM rfl,zi9 rfl,zBz (show(Tree.mk 5 false .zero s [] []).s.length<=2000 from hl)];rfl
 | arr v hl hv=>rw[zyQ rfl,zdM rfl,zBz (show(Tree.mk 6 false .zero [] [] v).v.length<=300 from hl)];rfl
 | obj l hs hl hn hv=>have e1:zgg (Ev.obj l).k=true:=(zdr _).2 (zzx (l:=names l) hs hn (by rw[je];exact hl));have e2:decide ((Ev.obj l).k.length=(Ev.obj l).v.length)=true:=zBz (by show(names l).length=(zx l).length;rw[je,v7]);have e3:decide ((Ev.obj l).v.length<=300)=true:=zBz (by show(zx l).length<=300;rw[v7];exact hl);rw[zyO rfl,e1,e2,e3];rfl
theorem OkT.okG{t:Tree}:OkT t->OkG t:=by
 induction t using Tree.ind with
 | h t ih=>exact fun h => .mk t h.ownB (fun x hx=>ih x hx (h.sub x hx))
theorem OkT.tame{t:Tree}:OkT t->TameT t:=by
 induction t using Tree.ind with
 | h t ih=>exact fun h => .mk t ⟨(zwp h.num_ok).1,by have:=(zwp h.num_ok).2.2;omega,by have:=h.lens.1;omega⟩ (fun x hx=>ih x hx (h.sub x hx))
theorem VD{t:Tree}(h:OkT t)(hd:depth t<=64)(hn:xT t<=2000):P0 xo [.v t.val] []=some (.bool true,[]):=by obtain⟨b,h1,h2⟩:=zlg t h.tame;rw[h1,h2.2 ⟨h.okG,hd,hn⟩]
theorem zkA{c d:Nat}{t:Tree}(h:Bnd c d t):depth t<=d:=by
 induction h with
 | mk d t hl hv ih=>
  rw[Zv];have : ∀ l:List Tree,(∀ x,x∈l->depth x<=d)->depthL l<=d:=by
   intro l;induction l with
   | nil=>intro _;simp[depthL]
   | cons y r ihr=>intro h;have h1:=h y zBY;have h2:=ihr (fun x hx=>h x (zP _ hx));rw[depthL];omega
  have:=this t.v ih;omega
end
section
attribute [local irreducible] P0
theorem KP(a b:Nat):(((a:Nat):Int) != ((b:Nat):Int)) = !decide (a=b):=by
 by_cases h:a=b
 ·subst h;simp
 ·have : ¬ ((a:Int)=(b:Int)):=by omega
  simp[h,bne,this]
theorem zuX(a b:List Str)(hl:a.length=b.length)(hb:a.length<=1000000)(k:Nat) : ∀ i,i+k=a.length ->
  (a.drop i=b.drop i->zr (yG a.length (.sl (strs a)) (.sl (strs b))) (vec [.int .i64 (i:Int)])=some (0,vec []))/\(a.drop i≠b.drop i->zr (yG a.length (.sl (strs a)) (.sl (strs b))) (vec [.int .i64 (i:Int)])=some (1,vec [.bool false])):=by
 induction k with
 | zero=>
  intro i hi;have e1:a.drop i=[]:=zQ (by omega);have e2:b.drop i=[]:=zQ (by omega);refine⟨fun _=>zh ?_,fun h=>absurd (e1.trans e2.symm) h⟩;unfold yG;have c1 : ¬ (i:Int)<(a.length:Int):=by omega
  simp only[yB,zv,zl,c1,zBy]
 | succ k ih=>
  intro i hi;have h1:i<a.length:=by omega
  have h2:i<b.length:=by omega
  have c1:(i:Int)<(a.length:Int):=by omega
  have hx:a[i]?=some a[i]:=zL h1;have hy:b[i]?=some b[i]:=zL h2;have hd:a.drop i=b.drop i↔a[i]=b[i]/\a.drop (i+1)=b.drop (i+1):=by rw[zO h1,zO h2];exact List.cons_eq_cons
  by_cases he:a[i]=b[i]
  ·have heb:(b[i]==b[i])=true:=by simp
   have step:zr (yG a.length (.sl (strs a)) (.sl (strs b))) (vec [.int .i64 (i:Int)])=zr (yG a.length (.sl (strs a)) (.sl (strs b))) (vec [.int .i64 ((i+1:Nat):Int)]):=by apply zp;unfold yG;simp only[yB,zv,zl,c1,zBx,zBv,z7,zd,zg _ i a.length h1,zg _ i b.length h2,yx,hx,hy,zC,yo,zg2,he,heb,zH,yX,yQ (i:=i) (by omega)]
   rw[step];obtain⟨q1,q2⟩:=ih (i+1) (by omega);exact⟨fun h=>q1 (hd.1 h).2,fun h=>q2 (fun e=>h (hd.2 ⟨he,e⟩))⟩
  ·refine⟨fun h=>absurd (hd.1 h).1 he,fun _=>zh ?_⟩;have heb:(a[i]==b[i])=false:=by simpa using he
   unfold yG;simp only[xk,zv,zl,c1,zBx,zf,zBv,z7,zd,zg _ i a.length h1,zg _ i b.length h2,yx,hx,hy,zC,yo,zg2,heb,zI]
theorem seq_ok(a b:List Str)(hb:a.length<=1000000):P0 yU [.v (.sl (strs a)),.v (.sl (strs b))] []=some (.bool (decide (a=b)),[]):=by
 rw[QT];unfold ZI;by_cases hl:a.length=b.length
 ·have h:=zuX a b hl hb a.length 0 (by omega);rw[zU,zU,show((0:Nat):Int)=0 from rfl]at h;have hn:(((a.length:Nat):Int) != ((b.length:Nat):Int))=false:=by rw[KP,zBz hl];rfl
  by_cases he:a=b
  ·simp only[xk,zb,zd,hn,zF,zBw,h.1 he,zBv,zBz he]
  ·simp only[xk,zb,zd,hn,zF,zBw,h.2 he,zBM,zv,zBA he]
 ·have he:a≠b:=fun e=>hl (by rw[e])
  have hn:(((a.length:Nat):Int) != ((b.length:Nat):Int))=true:=by rw[KP,zBA hl];rfl
  simp only[xk,zb,zd,hn,zBv,zBA he]
theorem zw4(a b:List Nat)(hl:a.length=b.length)(hb:a.length<=1000000)(k:Nat) : ∀ i,i+k=a.length ->
  (a.drop i=b.drop i->zr (yF a.length (.sl (zw a)) (.sl (zw b))) (vec [.int .i64 (i:Int)])=some (0,vec []))/\(a.drop i≠b.drop i->zr (yF a.length (.sl (zw a)) (.sl (zw b))) (vec [.int .i64 (i:Int)])=some (1,vec [.bool false])):=by
 induction k with
 | zero=>
  intro i hi;have e1:a.drop i=[]:=zQ (by omega);have e2:b.drop i=[]:=zQ (by omega);refine⟨fun _=>zh ?_,fun h=>absurd (e1.trans e2.symm) h⟩;unfold yF;have c1 : ¬ (i:Int)<(a.length:Int):=by omega
  simp only[yB,zv,zl,c1,zBy]
 | succ k ih=>
  intro i hi;have h1:i<a.length:=by omega
  have h2:i<b.length:=by omega
  have c1:(i:Int)<(a.length:Int):=by omega
  have hx:a[i]?=some a[i]:=zL h1;have hy:b[i]?=some b[i]:=zL h2;have hd:a.drop i=b.drop i↔a[i]=b[i]/\a.drop (i+1)=b.drop (i+1):=by rw[zO h1,zO h2];exact List.cons_eq_cons
  by_cases he:a[i]=b[i]
  ·have heb:decide ((a[i]:Int)=(b[i]:Int))=true:=zBz (by omega);have step:zr (yF a.length (.sl (zw a)) (.sl (zw b))) (vec [.int .i64 (i:Int)])=zr (yF a.length (.sl (zw a)) (.sl (zw b))) (vec [.int .i64 ((i+1:Nat):Int)]):=by apply zp;unfold yF;simp only[yB,zv,zl,c1,zBx,zBv,wP,z8,zg _ i a.length h1,zg _ i b.length h2,ji,hx,hy,zC,xM,jK,heb,zH,yX,yQ (i:=i) (by omega)]
   rw[step];obtain⟨q1,q2⟩:=ih (i+1) (by omega);exact⟨fun h=>q1 (hd.1 h).2,fun h=>q2 (fun e=>h (hd.2 ⟨he,e⟩))⟩
  ·refine⟨fun h=>absurd (hd.1 h).1 he,fun _=>zh ?_⟩;have heb:decide ((a[i]:Int)=(b[i]:Int))=false:=zBA (by omega);unfold yF;simp only[xk,zv,zl,c1,zBx,zf,zBv,wP,z8,zg _ i a.length h1,zg _ i b.length h2,ji,hx,hy,zC,xM,jK,heb,zI]
theorem zzb(a b:List Nat)(hb:a.length<=1000000):P0 xC [.v (.sl (zw a)),.v (.sl (zw b))] []=some (.bool (decide (a=b)),[]):=by
 rw[QL];unfold ZP;by_cases hl:a.length=b.length
 ·have h:=zw4 a b hl hb a.length 0 (by omega);rw[zU,zU,show((0:Nat):Int)=0 from rfl]at h;have hn:(((a.length:Nat):Int) != ((b.length:Nat):Int))=false:=by rw[KP,zBz hl];rfl
  by_cases he:a=b
  ·simp only[xk,zb,z8,hn,zF,zBw,h.1 he,zBv,zBz he]
  ·simp only[xk,zb,z8,hn,zF,zBw,h.2 he,zBM,zv,zBA he]
 ·have he:a≠b:=fun e=>hl (by rw[e])
  have hn:(((a.length:Nat):Int) != ((b.length:Nat):Int))=true:=by rw[KP,zBA hl];rfl
  simp only[xk,zb,z8,hn,zBv,zBA he]
theorem zou{n:Nm}(h:nokB n=true):n.m.length<=90:=by
 unfold nokB at h;split at h
 ·next h0=>rw[h0];simp
 ·rw[zCb]at h;exact h.1
theorem zeA(n:Nm)(hu:U32 n.m)(h:nokB n=true):P0 XO [.v n.val] []=some (n.val,[]):=by have hl:=zou h;rw[zt9];unfold znE;simp only[yB,zbN,z5,zgS n hu (by omega),h,yu,zH]
theorem ztE(a b:Nm)(ha:U32 a.m)(hb:U32 b.m)(h1:nokB a=true)(h2:nokB b=true):P0 Z9 [.v a.val,.v b.val] []=some (.bool (decide (a=b)),[]):=by
 have hl:=zou h1;rw[zoR];unfold ziS;have he:=zzb a.m b.m (by omega);by_cases e1:a.neg=b.neg
 ·by_cases e2:a.e=b.e
  ·have d:decide (a.m=b.m)=decide (a=b):=by
    by_cases q:a.m=b.m
    ·rw[zBz q,zBz (show a=b by cases a;cases b;simp_all)]
    ·rw[zBA q,zBA (fun e=>q (by rw[e]))]
   simp only[xk,we,zbN,zeA a ha h1,zeA b hb h2,KE,K8,K3,zf,e1,zBL,zq,e2,he,d]
  ·have d:decide (a=b)=false:=zBA (fun e=>e2 (by rw[e]));simp only[yB,zbN,z5,zeA a ha h1,zeA b hb h2,KE,K8,K3,e1,zBL,zBv,zq,e2,zBy,d]
 ·have d:decide (a=b)=false:=zBA (fun e=>e1 (by rw[e]));have eb:(a.neg==b.neg)=false:=by rw[beq_eq_false_iff_ne];exact e1
  simp only[yB,zbN,z5,zeA a ha h1,zeA b hb h2,KE,K8,K3,eb,d]
theorem zwI(a b:List Tree)(hl:a.length=b.length)(hb:a.length<=1000000)(f:Nat)(hf:Nat.blt f wX=true)(hs : ∀ i (h:i<a.length) (h2:i<b.length),∃ r,P0 f [.v a[i].val,.v b[i].val] []=some (.bool r,[])/\(r=true↔a[i]=b[i]))(k:Nat) : ∀ i,i+k=a.length ->
  (a.drop i=b.drop i->zr (yH a.length (.sl (trs a)) (.sl (trs b)) f) (vec [.int .i64 (i:Int)])=some (0,vec []))/\(a.drop i≠b.drop i->zr (yH a.length (.sl (trs a)) (.sl (trs b)) f) (vec [.int .i64 (i:Int)])=some (1,vec [.bool false])):=by
 induction k with
 | zero=>
  intro i hi;have e1:a.drop i=[]:=zQ (by omega);have e2:b.drop i=[]:=zQ (by omega);refine⟨fun _=>zh ?_,fun h=>absurd (e1.trans e2.symm) h⟩;unfold yH;have c1 : ¬ (i:Int)<(a.length:Int):=by omega
  simp only[yB,zv,zl,c1,zBy]
 | succ k ih=>
  intro i hi;have h1:i<a.length:=by omega
  have h2:i<b.length:=by omega
  have c1:(i:Int)<(a.length:Int):=by omega
  have hx:a[i]?=some a[i]:=zL h1;have hy:b[i]?=some b[i]:=zL h2;obtain⟨r,hr1,hr2⟩:=hs i h1 h2;have hd:a.drop i=b.drop i↔a[i]=b[i]/\a.drop (i+1)=b.drop (i+1):=by rw[zO h1,zO h2];exact List.cons_eq_cons
  cases r with
  | true=>
   have he:=hr2.1 rfl;have step:zr (yH a.length (.sl (trs a)) (.sl (trs b)) f) (vec [.int .i64 (i:Int)])=zr (yH a.length (.sl (trs a)) (.sl (trs b)) f) (vec [.int .i64 ((i+1:Nat):Int)]):=by apply zp;unfold yH;simp only[we,yB,zv,zl,c1,yW,zi,zg _ i a.length h1,zg _ i b.length h2,wC,hx,hy,zC,hf,za,hr1,yu,zH,yX,yQ (i:=i) (by omega)]
   rw[step];obtain⟨q1,q2⟩:=ih (i+1) (by omega);exact⟨fun h=>q1 (hd.1 h).2,fun h=>q2 (fun e=>h (hd.2 ⟨he,e⟩))⟩
  | false=>
   have he:a[i]≠b[i]:=fun e=>by have:=hr2.2 e;contradiction
   refine⟨fun h=>absurd (hd.1 h).1 he,fun _=>zh ?_⟩;unfold yH;simp only[xk,we,zv,zl,c1,zf,yW,zi,zg _ i a.length h1,zg _ i b.length h2,wC,hx,hy,zC,hf,za,hr1,yu,zI]
theorem zzB(a b:List Tree)(hb:a.length<=1000000)(f:Nat)(hf:Nat.blt f wX=true)(hs : ∀ i (h:i<a.length) (h2:i<b.length),∃ r,P0 f [.v a[i].val,.v b[i].val] []=some (.bool r,[])/\(r=true↔a[i]=b[i])) :
  ∃ r,P0 xn [.v (.sl (trs a)),.v (.sl (trs b)),.fn f []] []=some (.bool r,[])/\(r=true↔a=b):=by
 rw[Qw];unfold ZW;by_cases hl:a.length=b.length
 ·have h:=zwI a b hl hb f hf hs a.length 0 (by omega);rw[zU,zU,show((0:Nat):Int)=0 from rfl]at h;have hn:(((a.length:Nat):Int) != ((b.length:Nat):Int))=false:=by rw[KP,zBz hl];rfl
  by_cases he:a=b
  ·exact⟨true,by simp only[xk,zb,zi,hn,zF,zBw,h.1 he,zBv],fun _=>he,fun _=>rfl⟩
  ·exact⟨false,by simp only[xk,zb,zi,hn,zF,zBw,h.2 he,zBM,zv],fun q=>by contradiction,fun q=>absurd q he⟩
 ·have he:a≠b:=fun e=>hl (by rw[e])
  have hn:(((a.length:Nat):Int) != ((b.length:Nat):Int))=true:=by rw[KP,zBA hl];rfl
  exact⟨false,by simp only[xk,zb,zi,hn,zBv],fun q=>by contradiction,fun q=>absurd q he⟩
theorem K0{n:Nm}(h:Wc n=true):n = .zero:=by unfold Wc at h;simp only[zG,Bool.not_eq_true',zCb]at h;obtain⟨⟨h1,h2⟩,h3⟩:=h;cases n;simp_all [Nm.zero]
theorem zkI{t:Tree}(h:k0 t=true):t.k=[]:=by unfold k0 at h;have:=eq_of_beq h;exact List.eq_nil_of_length_eq_zero (by omega)
theorem zpj{t:Tree}(h:v0 t=true):t.v=[]:=by unfold v0 at h;have:=eq_of_beq h;exact List.eq_nil_of_length_eq_zero (by omega)
theorem Tree.eta(t:Tree):t = .mk t.kind t.b t.n t.s t.k t.v:=by cases t;rfl
theorem zvO{t:Tree}(h:ownB t=true):t.kind=1\/t.kind=2\/t.kind=3\/t.kind=4\/t.kind=5\/t.kind=6\/t.kind=7:=by
 unfold ownB at h
 repeat' (split at h)
 all_goals first
  | contradiction
  | omega
theorem zdK{t:Tree}(h:ownB t=true) :
  (t.kind=1->t = .mk 1 false .zero [] [] [])/\(t.kind=2->t = .mk 2 t.b .zero [] [] [])/\(t.kind=3->t = .mk 3 false t.n [] [] []/\nokB t.n=true)/\(t.kind=4->t = .mk 4 false .zero t.s [] [])/\(t.kind=5->t = .mk 5 false .zero t.s [] []) /\
  (t.kind=6->t = .mk 6 false .zero [] [] t.v)/\(t.kind=7->t = .mk 7 false .zero [] t.k t.v/\zqE t.k/\t.k.length=t.v.length):=by
 refine⟨fun hk => ?_,fun hk => ?_,fun hk => ?_,fun hk => ?_,fun hk => ?_,fun hk => ?_,fun hk => ?_⟩
 ·rw[zyL hk]at h;simp only[zG,Bool.not_eq_true',zCb]at h;obtain⟨⟨⟨⟨h1,h2⟩,h3⟩,h4⟩,h5⟩:=h;have e:=t.eta;rw[hk,h1,K0 h2,h3,zkI h4,zpj h5]at e;exact e
 ·rw[zyS hk]at h;simp only[zG,Bool.not_eq_true',zCb,Bool.true_and]at h;obtain⟨⟨⟨h2,h3⟩,h4⟩,h5⟩:=h;have e:=t.eta;rw[hk,K0 h2,h3,zkI h4,zpj h5]at e;exact e
 ·rw[zyK hk]at h;simp only[zG,Bool.not_eq_true',zCb]at h;obtain⟨⟨⟨⟨h1,h2⟩,h3⟩,h4⟩,h5⟩:=h;have e:=t.eta;rw[hk,h1,h3,zkI h4,zpj h5]at e;exact⟨e,h2⟩
 ·rw[zyM hk]at h;simp only[zG,Bool.not_eq_true',zCb]at h;obtain⟨⟨⟨⟨h1,h2⟩,h3⟩,h4⟩,h5⟩:=h;have e:=t.eta;rw[hk,h1,K0 h2,zkI h4,zpj h5]at e;exact e
 ·rw[zy1 hk]at h;simp only[zG,Bool.not_eq_true',zCb]at h;obtain⟨⟨⟨⟨h1,h2⟩,h3⟩,h4⟩,h5⟩:=h;have e:=t.eta;rw[hk,h1,K0 h2,zkI h4,zpj h5]at e;exact e
 ·rw[zyQ hk]at h;simp only[zG,Bool.not_eq_true',zCb]at h;obtain⟨⟨⟨⟨h1,h2⟩,h3⟩,h4⟩,h5⟩:=h;have e:=t.eta;rw[hk,h1,K0 h2,h3,zkI h4]at e;exact e
 ·rw[zyO hk]at h;simp only[zG,Bool.not_eq_true',zCb]at h;obtain⟨⟨⟨⟨h1,h2⟩,h3⟩,h4,h4'⟩,h5⟩:=h;have e:=t.eta;rw[hk,h1,K0 h2,h3]at e;exact⟨e,(zdr _).1 h4,h4'⟩
theorem TameT.tame{t:Tree}(h:TameT t):zzk t:=by cases h;assumption
theorem TameT.sub{t:Tree}(h:TameT t) : ∀ x,x∈t.v->TameT x:=by cases h;assumption
theorem zuN : ∀ a,OkG a->TameT a -> ∀ b,OkG b->TameT b -> ∃ r,P0 wc [.v a.val,.v b.val] []=some (.bool r,[])/\(r=true↔a=b):=by
 intro a;induction a using Tree.ind with
 | h a ih=>
 intro ha ta b hb tb;rw[zmg];unfold zfg;by_cases hk:a.kind=b.kind
 ·obtain⟨a1,a2,a3,a4,a5,a6,a7⟩:=zdK ha.own;obtain⟨b1,b2,b3,b4,b5,b6,b7⟩:=zdK hb.own;have hva:=zr3 ha.own;have z4:((4:Nat)=0)=False:=by decide
  have z41:((4-1:Nat)=0)=False:=by decide
  have z411:((4-1-1:Nat)=0)=False:=by decide
  have z4111:((4-1-1-1:Nat)=0)=False:=by decide
  have z3:((3:Nat)=0)=False:=by decide
  have z31:((3-1:Nat)=0)=False:=by decide
  have z311:((3-1-1:Nat)=0)=False:=by decide
  have z3111:((3-1-1-1:Nat)=0)=True:=by decide
  have z2:((2:Nat)=0)=False:=by decide
  have z21:((2-1:Nat)=0)=False:=by decide
  have z211:((2-1-1:Nat)=0)=True:=by decide
  have z11:((1-1:Nat)=0)=True:=by decide
  obtain⟨rv,hv1,hv2⟩:=zzB a.v b.v (by omega) wc rfl (fun i h1 h2=>ih _ (zCg h1) (ha.sub _ (zCg h1)) (ta.sub _ (zCg h1)) _ (hb.sub _ (zCg h2)) (tb.sub _ (zCg h2)));rcases zvO ha.own with h | h | h | h | h | h | h
  ·refine⟨true,?_,fun _ => ?_,fun _=>rfl⟩
   ·simp only[we,yB,za,xE,jK,h,(hk▸h:b.kind=_),zH,zq,Int.reduceEq,zBy]
   ·rw[a1 h,b1 (hk▸h)]
  ·refine⟨a.b==b.b,?_,?_⟩
   ·simp only[we,yB,za,xE,Va,jK,h,(hk▸h:b.kind=_),zH,zq,Int.reduceEq,zBy,z4,z41,z411,z4111,zv]
   ·rw[beq_iff_eq];constructor
    ·intro e;rw[a2 h,b2 (hk▸h),e]
    ·intro e;rw[e]
  ·obtain⟨a3',an⟩:=a3 h;obtain⟨b3',bn⟩:=b3 (hk▸h);refine⟨decide (a.n=b.n),?_,?_⟩
   ·simp only[we,yB,za,xE,jK,h,(hk▸h:b.kind=_),zH,zq,Int.reduceEq,zBy,zlP,ztE a.n b.n ta.tame.1 tb.tame.1 an bn,z4,z41,z411,z4111,zv]
   ·rw[zCb];constructor
    ·intro e;rw[a3',b3',e]
    ·intro e;rw[e]
  ·refine⟨a.s==b.s,?_,?_⟩
   ·simp only[we,yB,za,xE,We,jK,h,(hk▸h:b.kind=_),zH,zq,Int.reduceEq,zBy,z3,z31,z311,z3111,vm]
   ·rw[beq_iff_eq];constructor
    ·intro e;rw[a4 h,b4 (hk▸h),e]
    ·intro e;rw[e]
  ·refine⟨a.s==b.s,?_,?_⟩
   ·simp only[we,yB,za,xE,We,jK,h,(hk▸h:b.kind=_),zH,zq,Int.reduceEq,zBy,z3,z31,z311,z3111,vm]
   ·rw[beq_iff_eq];constructor
    ·intro e;rw[a5 h,b5 (hk▸h),e]
    ·intro e;rw[e]
  ·refine⟨rv,?_,?_⟩
   ·simp only[we,yB,za,xE,xI,jK,h,(hk▸h:b.kind=_),zH,zq,Int.reduceEq,zBy,z2,z21,z211,hv1]
   ·rw[hv2];constructor
    ·intro e;rw[a6 h,b6 (hk▸h),e]
    ·intro e;rw[e]
  ·obtain⟨a7',an,al⟩:=a7 h;obtain⟨b7',bn,bl⟩:=b7 (hk▸h);have hks:=seq_ok a.k b.k (by have:=an.2;omega);by_cases q:a.k=b.k
   ·rw[zBz q]at hks;refine⟨rv,?_,?_⟩
    ·simp only[we,yB,za,xE,qG,xI,jK,h,(hk▸h:b.kind=_),zH,zq,Int.reduceEq,zBy,zBM,z11,hks,hv1]
    ·rw[hv2];constructor
     ·intro e;rw[a7',b7',q,e]
     ·intro e;rw[e]
   ·rw[zBA q]at hks;refine⟨false,?_,fun e=>by contradiction,fun e=>absurd (by rw[e]) q⟩;simp only[we,yB,za,xE,qG,xI,jK,h,(hk▸h:b.kind=_),zH,zq,Int.reduceEq,zBy,zBM,z11,hks]
 ·refine⟨false,?_,fun e=>by contradiction,fun e=>absurd (congrArg Tree.kind e) hk⟩;simp only[xk,za,z5,xE,jK,hk,zBy,zI,zf,zBv]
end
end Go.Ev
