/- What may be a value: ref05.Check. -/
import Derived.Test.YtineambfljmbgaaKSt5
set_option linter.all false
namespace Go.Ev
attribute [local irreducible] P0
theorem zero_ok : P0 f_ref05_zero [.v Nm.zero.val] [] = some (.bool true, []) := by
  rw [eq_ref05_zero]; unfold F_ref05_zero; rfl
theorem srt_at {l : List Str} (h : Srt l) : ∀ i j (hj : j < l.length) (hi : i < j), lt (l[i]'(by omega)) l[j] = true := by
  induction l with
  | nil => intro i j hj; simp at hj
  | cons x r ih =>
    intro i j hj hi
    cases j with
    | zero => omega
    | succ j =>
      cases i with
      | zero => exact h.1 _ (List.getElem_mem (by simpa using hj))
      | succ i => exact ih h.2 i j (by simpa using hj) (by omega)
theorem names_loop (l : List Str) (hs : Srt l) (hn : ∀ x, x ∈ l → (dec8 x).isSome = true ∧ x.length ≤ 2000) (hl : l.length ≤ 1000000) (k : Nat) : ∀ i, i + k = l.length →
    loopL (L_ref05_names_1 (.sl (strs l))) (vec [.int .i64 (i : Int)]) = some (0, vec []) := by
  induction k with
  | zero =>
    intro i hi
    apply loopL_inr
    unfold L_ref05_names_1
    have c1 : ¬ (i : Int) < (l.length : Int) := by omega
    simp only [tick_eq, lenV_sl, some_bind, strs_len, vec_0, lss_i, c1, decide_false, asBool_b, Bool.false_eq_true, if_false]
  | succ k ih =>
    intro i hi
    have h1 : i < l.length := by omega
    have c1 : (i : Int) < (l.length : Int) := by omega
    have hx : l[i]? = some l[i] := List.getElem?_eq_getElem h1
    obtain ⟨hv, hlen⟩ := hn l[i] (List.getElem_mem _)
    have c2 : ¬ ((l[i].length : Int) > 2000) := by omega
    rw [← ih (i + 1) (by omega)]
    apply loopL_inl
    unfold L_ref05_names_1
    by_cases h0 : 0 < i
    · have c3 : (0 : Int) < (i : Int) := by omega
      have hm : IntKind.i64.wrap ((i : Int) - 1) = ((i - 1 : Nat) : Int) := by rw [w64 (a := (i : Int) - 1) (by omega)]; omega
      have hy : l[i - 1]? = some l[i - 1] := List.getElem?_eq_getElem (by omega)
      have hlt := srt_at hs (i - 1) i h1 (by omega)
      have g1 : Op.bytesLess l[i] l[i - 1] = false := lt_asymm hlt
      have g2 : (l[i] == l[i - 1]) = false := by
        rw [beq_eq_false_iff_ne]; exact fun e => lt_ne hlt e.symm
      simp only [tick_eq, lenV_sl, some_bind, strs_len, vec_0, lss_i, c1, decide_true, asBool_b, if_true, asSl_strs, idx_nat _ i l.length h1, strs_get, hx, Option.map_some, fld_str, valid_ok l[i] (by omega) hv, not_b, Bool.not_true, if_true, lns_s, c2, decide_false, gtr_i, c3, sub_i, hm, idx_nat _ (i - 1) l.length (by omega), hy, leq_s, g1, g2, Bool.or_false, Bool.false_eq_true, if_false, add_i, i64_succ (i := i) (by omega)]
    · have c3 : ¬ (0 : Int) < (i : Int) := by omega
      simp only [tick_eq, lenV_sl, some_bind, strs_len, vec_0, lss_i, c1, decide_true, asBool_b, if_true, asSl_strs, idx_nat _ i l.length h1, strs_get, hx, Option.map_some, fld_str, valid_ok l[i] (by omega) hv, not_b, Bool.not_true, if_true, lns_s, c2, decide_false, gtr_i, c3, Bool.false_eq_true, if_false, add_i, i64_succ (i := i) (by omega)]
theorem names_ok (l : List Str) (hs : Srt l) (hn : ∀ x, x ∈ l → (dec8 x).isSome = true ∧ x.length ≤ 2000) (hl : l.length ≤ 300) : P0 f_ref05_names [.v (.sl (strs l))] [] = some (.bool true, []) := by
  have h := names_loop l hs hn (by omega) l.length 0 (by omega)
  rw [show ((0 : Nat) : Int) = 0 from rfl] at h
  rw [eq_ref05_names]; unfold F_ref05_names
  have c : (l.length : Int) ≤ 300 := by omega
  simp only [tick_eq, h, some_bind, if_true, lenV_sl, strs_len, c, decide_true]
theorem fields_ok {t : Tree} (h : OkT t) : P0 f_ref05_fields [.v t.val] [] = some (.bool true, []) := by
  rw [eq_ref05_fields]; unfold F_ref05_fields
  have n0 : ¬ ((0 : Nat) : Int) > 0 := by decide
  have e0 : (([] : Str) == []) = true := rfl
  cases h with
  | null =>
    simp only [tick_eq, okN_tree, tst_t, fld0, fld1, fld5, fld6, fld7, subV_nm, lenV_sl, strs_len, trs_len, some_bind, Ev.null, Tree.kind, Tree.b, Tree.n, Tree.s, Tree.k, Tree.v, eql_i, neq_i, Int.reduceEq, decide_true, decide_false, Bool.not_true, Bool.not_false, asBool_b, if_true, if_false, Bool.false_eq_true, Bool.true_eq_false, zero_ok, not_b, neq_s, e0, List.length_nil, n0, vec_0]
  | bool b =>
    simp only [tick_eq, okN_tree, tst_t, fld0, fld1, fld5, fld6, fld7, subV_nm, lenV_sl, strs_len, trs_len, some_bind, Tree.kind, Tree.b, Tree.n, Tree.s, Tree.k, Tree.v, eql_i, neq_i, Int.reduceEq, decide_true, decide_false, Bool.not_true, Bool.not_false, asBool_b, if_true, if_false, Bool.false_eq_true, Bool.true_eq_false, zero_ok, not_b, neq_s, e0, List.length_nil, n0, vec_0]
  | num n hn =>
    simp only [tick_eq, okN_tree, tst_t, fld0, fld1, fld5, fld6, fld7, subV_nm, lenV_sl, strs_len, trs_len, some_bind, Tree.kind, Tree.b, Tree.n, Tree.s, Tree.k, Tree.v, eql_i, neq_i, Int.reduceEq, decide_true, decide_false, Bool.not_true, Bool.not_false, asBool_b, if_true, if_false, Bool.false_eq_true, Bool.true_eq_false, check_ok n hn, not_b, neq_s, e0, List.length_nil, n0, vec_0]
  | text s hs hl =>
    have c : (s.length : Int) ≤ 2000 := by omega
    simp only [tick_eq, okN_tree, tst_t, fld0, fld1, fld5, fld6, fld7, subV_nm, lenV_sl, strs_len, trs_len, some_bind, Tree.kind, Tree.b, Tree.n, Tree.s, Tree.k, Tree.v, eql_i, neq_i, Int.reduceEq, decide_true, decide_false, Bool.not_true, Bool.not_false, asBool_b, if_true, if_false, Bool.false_eq_true, Bool.true_eq_false, zero_ok, not_b, neq_s, e0, List.length_nil, n0, vec_0, valid_ok s (by omega) hs, lns_s, c]
  | bytes s hl =>
    have c : (s.length : Int) ≤ 2000 := by omega
    simp only [tick_eq, okN_tree, tst_t, fld0, fld1, fld5, fld6, fld7, subV_nm, lenV_sl, strs_len, trs_len, some_bind, Tree.kind, Tree.b, Tree.n, Tree.s, Tree.k, Tree.v, eql_i, neq_i, Int.reduceEq, decide_true, decide_false, Bool.not_true, Bool.not_false, asBool_b, if_true, if_false, Bool.false_eq_true, Bool.true_eq_false, zero_ok, not_b, neq_s, e0, List.length_nil, n0, vec_0, lns_s, c]
  | arr v hl hv =>
    have c : (v.length : Int) ≤ 300 := by omega
    simp only [tick_eq, okN_tree, tst_t, fld0, fld1, fld5, fld6, fld7, subV_nm, lenV_sl, strs_len, trs_len, some_bind, Tree.kind, Tree.b, Tree.n, Tree.s, Tree.k, Tree.v, eql_i, neq_i, Int.reduceEq, decide_true, decide_false, Bool.not_true, Bool.not_false, asBool_b, if_true, if_false, Bool.false_eq_true, Bool.true_eq_false, zero_ok, not_b, neq_s, e0, List.length_nil, n0, vec_0, c]
  | obj l hs hl hn hv =>
    have hnm := names_ok (names l) hs hn (by rw [names_len]; exact hl)
    simp only [tick_eq, okN_tree, tst_t, fld0, fld1, fld5, fld6, fld7, subV_nm, lenV_sl, strs_len, trs_len, some_bind, Ev.obj, Tree.kind, Tree.b, Tree.n, Tree.s, Tree.k, Tree.v, eql_i, neq_i, Int.reduceEq, decide_true, decide_false, Bool.not_true, Bool.not_false, asBool_b, if_true, if_false, Bool.false_eq_true, Bool.true_eq_false, zero_ok, not_b, neq_s, e0, n0, vec_0, hnm, names_len, valsL_len, beq_self_eq_true]
theorem nodesL_drop (l : List Tree) (i : Nat) (h : i < l.length) : nodesL (l.drop i) = nodes l[i] + nodesL (l.drop (i + 1)) := by
  rw [List.drop_eq_getElem_cons h, nodesL]
theorem walk_loop (t : Tree) (deep : Nat) (hd : deep ≤ 1000) (hl : t.v.length ≤ 300) (hw : ∀ x, x ∈ t.v → ∀ n, n + nodes x ≤ 2000 → P0 f_ref05_walk [.v x.val, .v (.int .i64 ((deep + 1 : Nat) : Int)), .v (.int .i64 (n : Nat))] [] = some (.int .i64 ((n + nodes x : Nat) : Int), [])) (k : Nat) : ∀ i n, i + k = t.v.length → n + nodesL (t.v.drop i) ≤ 2000 →
    loopL (L_ref05_walk_1 t.val (.int .i64 (deep : Int))) (vec [.int .i64 (n : Int), .int .i64 (i : Int)]) = some (0, vec [.int .i64 ((n + nodesL (t.v.drop i) : Nat) : Int)]) := by
  induction k with
  | zero =>
    intro i n hi hn
    apply loopL_inr
    unfold L_ref05_walk_1
    have c1 : ¬ (i : Int) < (t.v.length : Int) := by omega
    have e : t.v.drop i = [] := List.drop_eq_nil_of_le (by omega)
    simp only [tick_eq, fld7, lenV_sl, some_bind, trs_len, vec_0, vec_s, lss_i, c1, decide_false, asBool_b, Bool.false_eq_true, if_false, e, nodesL, Nat.add_zero]
  | succ k ih =>
    intro i n hi hn
    have h1 : i < t.v.length := by omega
    have c1 : (i : Int) < (t.v.length : Int) := by omega
    have c2 : (0 : Int) ≤ (n : Int) := by omega
    have hx : t.v[i]? = some t.v[i] := List.getElem?_eq_getElem h1
    rw [nodesL_drop _ _ h1] at hn ⊢
    have hw1 := hw _ (List.getElem_mem h1) n (by omega)
    have := ih (i + 1) (n + nodes t.v[i]) (by omega) (by omega)
    rw [← Nat.add_assoc, ← this]
    apply loopL_inl
    unfold L_ref05_walk_1
    simp only [tick_eq, fld7, lenV_sl, some_bind, trs_len, vec_0, vec_s, lss_i, c1, decide_true, asBool_b, if_true, geq_i, c2, asSl_trs, idx_nat _ i t.v.length h1, trs_get, hx, Option.map_some, add_i, i64_succ (i := deep) (by omega), hw1, i64_succ (i := i) (by omega)]
theorem walk_ok {c d : Nat} (t : Tree) (hb : Bnd c d t) : ∀ (deep n : Nat), OkT t → deep + d ≤ 65 → n + nodes t ≤ 2000 → P0 f_ref05_walk [.v t.val, .v (.int .i64 (deep : Int)), .v (.int .i64 (n : Int))] [] = some (.int .i64 ((n + nodes t : Nat) : Int), []) := by
  induction hb with
  | mk d t hl hv ih =>
    intro deep n ho hd hn
    rw [nodes_eq] at hn ⊢
    have hloop := walk_loop t deep (by omega) ho.lens.2.1 (fun x hx m hm => ih x hx (deep + 1) m (ho.sub x hx) (by omega) hm) t.v.length 0 (n + 1) (by omega) (by rw [List.drop_zero]; omega)
    rw [List.drop_zero, show ((0 : Nat) : Int) = 0 from rfl] at hloop
    rw [eq_ref05_walk]; unfold F_ref05_walk
    have c1 : ¬ (2000 : Int) < ((n + 1 : Nat) : Int) := by omega
    have c2 : ¬ (64 : Int) < (deep : Int) := by omega
    simp only [tick_eq, okN_tree, tst_t, add_i, i64_succ (i := n) (by omega), some_bind, gtr_i, c1, c2, decide_false, asBool_b, if_true, fields_ok ho, not_b, Bool.not_true, Bool.false_eq_true, if_false, hloop, vec_0, Nat.add_assoc]
theorem tcheck_ok {c d : Nat} {t : Tree} (hb : Bnd c d t) (ho : OkT t) (hd : d ≤ 64) (hn : nodes t ≤ 2000) : P0 f_ref05_Check [.v t.val] [] = some (.bool true, []) := by
  have h := walk_ok t hb 1 0 ho (by omega) (by omega)
  rw [show ((0 : Nat) : Int) = 0 from rfl, show ((1 : Nat) : Int) = 1 from rfl] at h
  rw [eq_ref05_Check]; unfold F_ref05_Check
  have c : (0 : Int) ≤ ((0 + nodes t : Nat) : Int) := by omega
  simp only [tick_eq, okN_tree, tst_t, h, some_bind, geq_i, c, decide_true]
end Go.Ev
