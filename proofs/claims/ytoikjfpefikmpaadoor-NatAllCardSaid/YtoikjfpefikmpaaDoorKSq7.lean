/- The program's numbers that are made; floats' parts. -/
import Derived.Test.YtoikjfpefikmpaaDoorKSq6
import Derived.Test.YtoikjfpefikmpaaDoorKSp
set_option linter.all false
namespace Go.Ev
attribute [local irreducible] P0
/-- the three widths -/
inductive Fm:Int→Nat→Nat→Prop
 | w16:Fm 16 5 10
 | w32:Fm 32 8 23
 | w64:Fm 64 11 52
end Go.Ev
