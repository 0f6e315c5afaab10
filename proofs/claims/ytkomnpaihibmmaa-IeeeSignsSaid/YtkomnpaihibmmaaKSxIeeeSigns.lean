/- The law of floats' signs, for all values of its types. -/
import Derived.Test.YtkomnpaihibmmaaKSx1
import Derived.Test.YtkomnpaihibmmaaRows
import Derived.Test.YtkomnpaihibmmaaKSp
set_option linter.all false
namespace Go.Ev
theorem pure_IeeeSigns {n m : Nat} {xs ys : List V} (hx : Ty Go.Proofs.Try.prog n 3 xs) (hy : Ty Go.Proofs.Try.prog m 22 ys) :
    P0 f_law03_IeeeSigns ([mkV Go.Proofs.Try.prog 3 xs, mkV Go.Proofs.Try.prog 22 ys].map .v) [] = some (.bool true, []) := by
  obtain ⟨z, hz, ez⟩ := ty_int Go.Proofs.Try.underlying3 hx
  obtain ⟨w, hw, ew⟩ := ty_int Go.Proofs.Try.underlying22 hy
  obtain ⟨b, rfl, hb⟩ := wf_u64 hw
  rw [ez, ew]
  exact signs_ok z (wf_i64 hz) b hb
end Go.Ev
