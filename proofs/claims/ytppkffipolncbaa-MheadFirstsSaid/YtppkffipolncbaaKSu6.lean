/- Heads: what is put is got. -/
import Derived.Test.YtppkffipolncbaaKSu5
set_option linter.all false
namespace Go.Ev
attribute [local irreducible] P0
theorem awake11 : P0 f_law11_awake [] [] = some (.bool true, []) := by
  rw [eq_law11_awake]; unfold F_law11_awake
  have h : P0 f_mhead_Put [.v (.sl []), .v (.int .i64 7), .v (.int .u64 40)] [] = some (.sl (bys [217, 40]), []) := hput_ok [] 7 40 (by decide) (by decide)
  have h2 : asBytesV (bys [217, 40]) = some [217, 40] := by decide
  simp only [tick_eq, h, some_bind, asSl_bys, h2, eql_s, beq_self_eq_true, asBool_b, if_true]
end Go.Ev
