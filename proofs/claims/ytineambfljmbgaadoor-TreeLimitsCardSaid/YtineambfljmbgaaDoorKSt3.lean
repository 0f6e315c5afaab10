/- Trees: the reference's Set; without a member. -/
import Derived.Test.YtineambfljmbgaaDoorKSt2
set_option linter.all false
namespace Go.Ev
attribute [local irreducible] P0
theorem trs_1 (l : List Tree) (t : Tree) : trs l ++ [t.val] = trs (l ++ [t]) := by simp [trs]
theorem len1 (x : V) : [x].length = 1 := rfl
end Go.Ev
