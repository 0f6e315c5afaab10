/- Values by numbers. -/
import Derived.Test.YtineambfljmbgaaDoorKSt6
set_option linter.all false
namespace Go.Ev
attribute [local irreducible] P0
theorem placeN (a : Int) (n : Nat) (hn : 0 < n) (hn2 : n ≤ 2000000000) : ∃ r : Nat, P0 f_law00_Place [.v (.int .i64 a), .v (.int .i64 (n : Int))] [] = some (.int .i64 (r : Int), []) ∧ r < n ∧ (0 ≤ a → (r : Int) = a % (n : Int)) := by
  rw [eq_law00_Place]; unfold F_law00_Place
  have h0 : (n : Int) ≠ 0 := by omega
  have hp : (0 : Int) < (n : Int) := by omega
  by_cases ha : 0 ≤ a
  · have e := Int.tmod_eq_emod_of_nonneg (b := (n : Int)) ha
    have b1 := Int.emod_nonneg a h0
    have b2 := Int.emod_lt_of_pos a hp
    have c : ¬ (a % (n : Int) < 0) := by omega
    refine ⟨(a % (n : Int)).toNat, ?_, by omega, fun _ => by omega⟩
    simp only [tick_eq, rem_i _ _ _ h0, some_bind, lss_i, e, c, decide_false, asBool_b, Bool.false_eq_true, if_false]
    rw [show (((a % (n : Int)).toNat : Nat) : Int) = a % (n : Int) by omega]
  · have e : a.tmod (n : Int) = -((-a) % (n : Int)) := by
      rw [← Int.tmod_eq_emod_of_nonneg (a := -a) (b := (n : Int)) (by omega), Int.neg_tmod]; omega
    have b1 := Int.emod_nonneg (-a) h0
    have b2 := Int.emod_lt_of_pos (-a) hp
    by_cases hz : (-a) % (n : Int) = 0
    · refine ⟨0, ?_, hn, fun h => absurd h ha⟩
      simp only [tick_eq, rem_i _ _ _ h0, some_bind, lss_i, e, hz, Int.neg_zero, Int.lt_irrefl, decide_false, asBool_b, Bool.false_eq_true, if_false]
      rfl
    · have c : -((-a) % (n : Int)) < 0 := by omega
      refine ⟨((n : Int) - (-a) % (n : Int)).toNat, ?_, by omega, fun h => absurd h ha⟩
      simp only [tick_eq, rem_i _ _ _ h0, some_bind, lss_i, e, c, decide_true, asBool_b, if_true, add_i, w64 (a := -((-a) % (n : Int)) + (n : Int)) (by omega)]
      rw [show ((((n : Int) - (-a) % (n : Int)).toNat : Nat) : Int) = -((-a) % (n : Int)) + (n : Int) by omega]
end Go.Ev
