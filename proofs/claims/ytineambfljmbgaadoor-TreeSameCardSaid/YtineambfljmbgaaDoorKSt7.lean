/- Values by numbers. -/
import Derived.Test.YtineambfljmbgaaDoorKSt6
set_option linter.all false
namespace Go.Ev
attribute [local irreducible] P0
theorem quoN (a b : Nat) (hb : 0 < b) (ha : a ≤ 1000000000000) : binV .quo (.int .i64 (a : Int)) (.int .i64 (b : Int)) = some (.int .i64 ((a / b : Nat) : Int)) := by
  have h0 : (b : Int) ≠ 0 := by omega
  have h1 : a / b ≤ a := Nat.div_le_self a b
  rw [quo_i _ _ _ h0, Int.tdiv_eq_ediv_of_nonneg (Int.natCast_nonneg _), show ((a : Int) / (b : Int)) = ((a / b : Nat) : Int) from (Int.natCast_ediv a b).symm, w64 (a := ((a / b : Nat) : Int)) (by generalize a / b = q at h1; omega)]
theorem remN (a b : Nat) (hb : 0 < b) : binV .rem (.int .i64 (a : Int)) (.int .i64 (b : Int)) = some (.int .i64 ((a % b : Nat) : Int)) := by
  have h0 : (b : Int) ≠ 0 := by omega
  rw [rem_i _ _ _ h0, Int.tmod_eq_emod_of_nonneg (Int.natCast_nonneg _), show ((a : Int) % (b : Int)) = ((a % b : Nat) : Int) from (Int.natCast_emod a b).symm]
theorem placeN (a : Int) (n : Nat) (hn : 0 < n) (hn2 : n ≤ 2000000000) : ∃ r : Nat, P0 f_law00_Place [.v (.int .i64 a), .v (.int .i64 (n : Int))] [] = some (.int .i64 (r : Int), []) ∧ r < n ∧ (0 ≤ a → (r : Int) = a % (n : Int)) := by
  rw [eq_law00_Place]; unfold F_law00_Place
  have h0 : (n : Int) ≠ 0 := by omega
  have hp : (0 : Int) < (n : Int) := by omega
  by_cases ha : 0 ≤ a
  · have e := Int.tmod_eq_emod_of_nonneg (b := (n : Int)) ha
    have b1 := Int.emod_nonneg a h0
    have b2 := Int.emod_lt_of_pos a hp
    have c : ¬ (a % (n : Int) < 0) := by omega
    refine ⟨(a % (n : Int)).toNat, ?_, by omega, fun _ => by omega⟩
    simp only [tick_eq, rem_i _ _ _ h0, some_bind, lss_i, e, c, decide_false, asBool_b, Bool.false_eq_true, if_false]
    rw [show (((a % (n : Int)).toNat : Nat) : Int) = a % (n : Int) by omega]
  · have e : a.tmod (n : Int) = -((-a) % (n : Int)) := by
      rw [← Int.tmod_eq_emod_of_nonneg (a := -a) (b := (n : Int)) (by omega), Int.neg_tmod]; omega
    have b1 := Int.emod_nonneg (-a) h0
    have b2 := Int.emod_lt_of_pos (-a) hp
    by_cases hz : (-a) % (n : Int) = 0
    · refine ⟨0, ?_, hn, fun h => absurd h ha⟩
      simp only [tick_eq, rem_i _ _ _ h0, some_bind, lss_i, e, hz, Int.neg_zero, Int.lt_irrefl, decide_false, asBool_b, Bool.false_eq_true, if_false]
      rfl
    · have c : -((-a) % (n : Int)) < 0 := by omega
      refine ⟨((n : Int) - (-a) % (n : Int)).toNat, ?_, by omega, fun h => absurd h ha⟩
      simp only [tick_eq, rem_i _ _ _ h0, some_bind, lss_i, e, c, decide_true, asBool_b, if_true, add_i, w64 (a := -((-a) % (n : Int)) + (n : Int)) (by omega)]
      rw [show ((((n : Int) - (-a) % (n : Int)).toNat : Nat) : Int) = -((-a) % (n : Int)) + (n : Int) by omega]
def nms : List Str := [[97], [98], [99], [100, 100], [101], [], [120, 47, 121], [122, 126]]
theorem slV_sl (l : List V) : slV (.sl l) = some l := rfl
theorem nms_ok : P0 f_law00_Names [.g] [] = some (.sl (strs nms), []) := by
  rw [eq_law00_Names]; rfl
theorem nms_dec : ∀ x, x ∈ nms → (dec8 x).isSome = true ∧ x.length ≤ 2000 := by decide
/-- what Made makes -/
def Md8 (d : Nat) (t : Tree) : Prop := OkT t ∧ Bnd 3 d t
def MadeOk (d : Nat) : Prop := ∀ l : List Int, ∃ (t : Tree) (l' : List Int), P0 f_law00_made [.v (.sl (ints l)), .v (.int .i64 (d : Int))] [] = some (.tup [t.val, .sl (ints l')], []) ∧ Md8 (d + 1) t
theorem arr_loop (p : List V) (v d : Nat) (hv : v ≤ 1073741824) (hd : d < 1000) (hm : MadeOk d) (k : Nat) : ∀ (i : Nat) (l : List Int) (vs : List Tree), i + k = v / 12 % 4 → vs.length = i → (∀ x, x ∈ vs → Md8 (d + 1) x) →
    ∃ (l' : List Int) (vs' : List Tree), loopL (L_law00_made_1 (.int .i64 (v : Int), p) (.int .i64 ((d + 1 : Nat) : Int))) (vec [.sl (ints l), .int .i64 (i : Int), .int .i64 0, .bool false, .bool false, .sl [], .int .i64 0, .str [], .sl [], .sl [], .int .i64 6, .bool false, .bool false, .sl [], .int .i64 0, .str [], .sl [], .sl (trs vs)]) =
      some (0, vec [.sl (ints l'), .int .i64 0, .bool false, .bool false, .sl [], .int .i64 0, .str [], .sl [], .sl [], .int .i64 6, .bool false, .bool false, .sl [], .int .i64 0, .str [], .sl [], .sl (trs vs')]) ∧ vs'.length ≤ 3 ∧ ∀ x, x ∈ vs' → Md8 (d + 1) x := by
  have q12 := quoN v 12 (by omega) (by omega)
  have r4 := remN (v / 12) 4 (by omega)
  have hlt : v / 12 % 4 < 4 := Nat.mod_lt _ (by omega)
  induction k with
  | zero =>
    intro i l vs hi hvs hx
    refine ⟨l, vs, loopL_inr ?_, by omega, hx⟩
    unfold L_law00_made_1
    have c1 : ¬ (i : Int) < ((v / 12 % 4 : Nat) : Int) := by omega
    simp only [tick_eq, show binV .quo (.int .i64 (v : Int)) (.int .i64 12) = _ from q12, show binV .rem (.int .i64 ((v / 12 : Nat) : Int)) (.int .i64 4) = _ from r4, some_bind, vec_0, vec_s, lss_i, c1, decide_false, asBool_b, Bool.false_eq_true, if_false, elems_sl]
  | succ k ih =>
    intro i l vs hi hvs hx
    have c1 : (i : Int) < ((v / 12 % 4 : Nat) : Int) := by omega
    obtain ⟨t, l1, ht, htm⟩ := hm l
    obtain ⟨l', vs', h1, h2, h3⟩ := ih (i + 1) l1 (vs ++ [t]) (by omega) (by simp [hvs]) (by
      intro x hxx
      rcases List.mem_append.1 hxx with hxx | hxx
      · exact hx x hxx
      · rw [List.mem_singleton.1 hxx]; exact htm)
    refine ⟨l', vs', ?_, h2, h3⟩
    rw [← h1]
    apply loopL_inl
    unfold L_law00_made_1
    have hs : IntKind.i64.wrap (((d + 1 : Nat) : Int) - 1) = (d : Int) := by rw [w64 (a := ((d + 1 : Nat) : Int) - 1) (by omega)]; omega
    simp only [tick_eq, show binV .quo (.int .i64 (v : Int)) (.int .i64 12) = _ from q12, show binV .rem (.int .i64 ((v / 12 : Nat) : Int)) (.int .i64 4) = _ from r4, some_bind, vec_0, vec_s, lss_i, c1, decide_true, asBool_b, if_true, sub_i, hs, ht, ext_tup, List.getElem?_cons_zero, List.getElem?_cons_succ, okN_tree, tst_t, szOk_8, elems_sl, trs_len, len1, app_ok 120 vs.length 1 (by omega) (by omega), add_i, i64_succ (i := i) (by omega), trs_1]
theorem obj_loop (p : List V) (v d : Nat) (hv : v ≤ 1073741824) (hd : d < 1000) (hm : MadeOk d) (k : Nat) : ∀ (i : Nat) (l : List Int) (u : AL), i + k = v / 12 % 4 → u.length ≤ i → SrtA u → (∀ x, x ∈ names u → (dec8 x).isSome = true ∧ x.length ≤ 2000) → (∀ q, q ∈ u → Md8 (d + 1) q.2) →
    ∃ (l' : List Int) (u' : AL), loopL (L_law00_made_2 (.int .i64 (v : Int), p) (.int .i64 ((d + 1 : Nat) : Int))) (vec [.sl (ints l), .int .i64 (i : Int), .int .i64 0, .bool false, .bool false, .sl [], .int .i64 0, .str [], .sl [], .sl [], .int .i64 7, .bool false, .bool false, .sl [], .int .i64 0, .str [], .sl (strs (names u)), .sl (trs (valsL u))]) =
      some (0, vec [.sl (ints l'), .int .i64 0, .bool false, .bool false, .sl [], .int .i64 0, .str [], .sl [], .sl [], (obj u').val]) ∧ u'.length ≤ 3 ∧ SrtA u' ∧ (∀ x, x ∈ names u' → (dec8 x).isSome = true ∧ x.length ≤ 2000) ∧ ∀ q, q ∈ u' → Md8 (d + 1) q.2 := by
  have q12 := quoN v 12 (by omega) (by omega)
  have r4 := remN (v / 12) 4 (by omega)
  have q48 := quoN v 48 (by omega) (by omega)
  have hlt : v / 12 % 4 < 4 := Nat.mod_lt _ (by omega)
  induction k with
  | zero =>
    intro i l u hi hu hs hn hx
    refine ⟨l, u, loopL_inr ?_, by omega, hs, hn, hx⟩
    unfold L_law00_made_2
    have c1 : ¬ (i : Int) < ((v / 12 % 4 : Nat) : Int) := by omega
    simp only [tick_eq, show binV .quo (.int .i64 (v : Int)) (.int .i64 12) = _ from q12, show binV .rem (.int .i64 ((v / 12 : Nat) : Int)) (.int .i64 4) = _ from r4, some_bind, vec_0, vec_s, lss_i, c1, decide_false, asBool_b, Bool.false_eq_true, if_false, elems_sl, obj_val]
  | succ k ih =>
    intro i l u hi hu hs hn hx
    have c1 : (i : Int) < ((v / 12 % 4 : Nat) : Int) := by omega
    obtain ⟨t, l1, ht, htm⟩ := hm l
    have hj : (v / 48 + 3 * i) % 8 < 8 := Nat.mod_lt _ (by omega)
    have hg : nms[(v / 48 + 3 * i) % 8]? = some (nms[(v / 48 + 3 * i) % 8]'hj) := List.getElem?_eq_getElem hj
    have hmem : nms[(v / 48 + 3 * i) % 8]'hj ∈ nms := List.getElem_mem _
    generalize hw : nms[(v / 48 + 3 * i) % 8]'hj = w at hg hmem
    obtain ⟨l', u', h1, h2, h3, h4, h5⟩ := ih (i + 1) l1 (setA w t u) (by omega) (by have := len_set w t u; omega) (srt_set hs) (by
      intro x hxx
      rcases names_set_sub w t u x hxx with rfl | hxx
      · exact nms_dec _ hmem
      · exact hn x hxx) (by
      intro q hq
      rcases mem_set hq with rfl | hq
      · exact htm
      · exact hx q hq)
    refine ⟨l', u', ?_, h2, h3, h4, h5⟩
    rw [← h1]
    apply loopL_inl
    unfold L_law00_made_2
    have hsb : IntKind.i64.wrap (((d + 1 : Nat) : Int) - 1) = (d : Int) := by rw [w64 (a := ((d + 1 : Nat) : Int) - 1) (by omega)]; omega
    have m3 : IntKind.i64.wrap (3 * (i : Int)) = ((3 * i : Nat) : Int) := by rw [w64 (a := 3 * (i : Int)) (by omega)]; omega
    have a3 : IntKind.i64.wrap (((v / 48 : Nat) : Int) + ((3 * i : Nat) : Int)) = ((v / 48 + 3 * i : Nat) : Int) := by rw [w64 (a := ((v / 48 : Nat) : Int) + ((3 * i : Nat) : Int)) (by omega)]; omega
    have r8 := remN (v / 48 + 3 * i) 8 (by omega)
    have hset := rset_ok (obj u) w t (by rw [al_obj]; exact hs) (by show (names u).length ≤ _; rw [names_len]; omega) (by rw [al_obj]; omega)
    rw [al_obj, obj_val u] at hset
    simp only [tick_eq, show binV .quo (.int .i64 (v : Int)) (.int .i64 12) = _ from q12, show binV .rem (.int .i64 ((v / 12 : Nat) : Int)) (.int .i64 4) = _ from r4, show binV .quo (.int .i64 (v : Int)) (.int .i64 48) = _ from q48, some_bind, vec_0, vec_s, lss_i, c1, decide_true, asBool_b, if_true, sub_i, hsb, ht, ext_tup, List.getElem?_cons_zero, List.getElem?_cons_succ, okN_tree, tst_t, nms_ok, slV_sl, mul_i, m3, add_i, a3, show binV .rem (.int .i64 ((v / 48 + 3 * i : Nat) : Int)) (.int .i64 8) = _ from r8, szOk_strs, strs_len, idx_nat _ ((v / 48 + 3 * i) % 8) nms.length hj, strs_get, hg, Option.map_some, fld_str, hset, i64_succ (i := i) (by omega)]
    simp only [obj_val, fld_agg, List.getElem?_cons_zero, List.getElem?_cons_succ, some_bind, elems_sl]
    rfl
end Go.Ev
