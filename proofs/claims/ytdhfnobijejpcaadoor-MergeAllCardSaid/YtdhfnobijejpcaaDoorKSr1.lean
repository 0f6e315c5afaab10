/- The reference's naturals and numbers, by value. -/
import Derived.Test.YtdhfnobijejpcaaDoorKSq1
import Derived.Test.YtdhfnobijejpcaaDoorKSp
set_option linter.all false
namespace Go.Ev
attribute [local irreducible] P0
theorem rsmall_ok(l:List Nat)(d:Nat)(hd:0<d)(hd2:d<B32)(hl:l.length≤1000000)(hu:U32 l) :
  P0 f_ref01_Small [.v (.sl (limbs l)),.v (.int .u32 (d:Int))] []=some (.tup [.sl (limbs (toL (nval l / d))),.int .u32 ((nval l % d:Nat):Int)],[]):=by
 obtain⟨h1,h2⟩:=small_val d hd l
 rw[small_ok l d hd hd2 hl hu,norm_toL (small_u32 d hd l hu),h1,h2]
end Go.Ev
