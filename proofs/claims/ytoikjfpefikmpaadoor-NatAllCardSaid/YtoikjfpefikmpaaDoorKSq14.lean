/- Floats: the bits of a number, part 2. -/
import Derived.Test.YtoikjfpefikmpaaDoorKSq13
set_option linter.all false
open Int renaming natCast_nonneg→zY
namespace Go.Ev
attribute [local irreducible] P0
theorem shl_u64(v:Nat)(k:IntKind)(s:Nat)(hs:s<64)(hv:v * 2 ^ s<18446744073709551616):binV .shl (.int .u64 (v:Int)) (.int k (s:Int))=some (.int .u64 ((v * 2 ^ s:Nat):Int)):=by
 rw[shl_i _ _ _ _ (zY s),Int.toNat_natCast]
 have e:Nat.min s (IntKind.bits .u64)=s:=Nat.min_eq_left (by show s≤64;omega)
 have e2:(v:Int) * (2:Int) ^ s=((v * 2 ^ s:Nat):Int):=by simp
 rw[e,e2,wu64 ⟨zY _,Int.ofNat_le.2 (show v * 2 ^ s≤18446744073709551615 by omega)⟩]
theorem or_hi(x c k:Nat)(hx:x<2 ^ k):x ||| c * 2 ^ k=x+c * 2 ^ k:=by
 have h:=Nat.two_pow_add_eq_or_of_lt (i:=k) (b:=x) hx c
 rw[Nat.or_comm,Nat.mul_comm,← h,Nat.add_comm]
end Go.Ev
