/- Values by numbers, part 2. -/
import Derived.Test.YtdhfnobijejpcaaDoorKSt7
set_option linter.all false
namespace Go.Ev
attribute [local irreducible] P0
theorem mk_val(kind:Int)(b:Bool)(n:Nm)(s:Str)(k:List Str)(v:List Tree):(Tree.mk kind b n s k v).val = .agg [.int .i64 kind,.bool b,.bool n.neg,.sl (limbs n.m),.int .i64 n.e,.str s,.sl (strs k),.sl (trs v)]:=by rw[Tree.val_eq];rfl
theorem bnd_leaf(d:Nat){t:Tree}(h:t.v=[]):Bnd 3 (d+1) t := .mk d t (by rw[h];simp) (fun x hx=>by rw[h]at hx;simp at hx)
end Go.Ev
