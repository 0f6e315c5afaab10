/- What is clean; sameness. -/
import Derived.Test.YtineambfljmbgaaKSt4
set_option linter.all false
namespace Go.Ev
attribute [local irreducible] P0
theorem idxT_loop (f : Nat) (g : Tree → Bool) (l : List Tree) (hg : ∀ x, x ∈ l → P0 f [.v x.val] [] = some (.bool (g x), [])) (hl : l.length ≤ 1000000) (k : Nat) : ∀ i, i + k = l.length →
    ∃ j v, loopL (L_slices_IndexFunc_erratum_api_Tree_1 l.length (.sl (trs l)) f) (vec [.int .i64 (i : Int)]) = some (j, v) ∧ ((l.drop i).any g = true → j = 1 ∧ ∃ m : Nat, v = vec [.int .i64 (m : Int)]) ∧ ((l.drop i).any g = false → j = 0) := by
  induction k with
  | zero =>
    intro i hi
    refine ⟨0, vec [], loopL_inr ?_, ?_, fun _ => rfl⟩
    · unfold L_slices_IndexFunc_erratum_api_Tree_1
      have e : i = l.length := by omega
      subst e
      simp only [tick_eq, vec_0, lss_i, Int.lt_irrefl, decide_false, some_bind, asBool_b, Bool.false_eq_true, if_false]
    · rw [List.drop_eq_nil_of_le (by omega)]; intro h; rw [List.any_nil] at h; contradiction
  | succ k ih =>
    intro i hi
    have hlt : i < l.length := by omega
    have c1 : (i : Int) < (l.length : Int) := by omega
    have hx : l[i]? = some l[i] := List.getElem?_eq_getElem hlt
    have hgx := hg l[i] (List.getElem_mem _)
    rw [List.drop_eq_getElem_cons hlt]
    cases hb : g l[i] with
    | true =>
      refine ⟨1, vec [.int .i64 (i : Int)], loopL_inr ?_, fun _ => ⟨rfl, i, rfl⟩, fun h => by simp only [List.any_cons, hb, Bool.true_or] at h; contradiction⟩
      unfold L_slices_IndexFunc_erratum_api_Tree_1
      rw [hb] at hgx
      simp only [tick_eq, vec_0, lss_i, c1, decide_true, some_bind, asBool_b, if_true, asSl_trs, trs_len, idx_nat _ i l.length hlt, trs_get, hx, Option.map_some, hgx]
    | false =>
      obtain ⟨j, v, h1, h2, h3⟩ := ih (i + 1) (by omega)
      refine ⟨j, v, ?_, fun h => h2 (by simpa only [List.any_cons, hb, Bool.false_or] using h), fun h => h3 (by simpa only [List.any_cons, hb, Bool.false_or] using h)⟩
      rw [← h1]
      apply loopL_inl
      unfold L_slices_IndexFunc_erratum_api_Tree_1
      rw [hb] at hgx
      simp only [tick_eq, vec_0, lss_i, c1, decide_true, some_bind, asBool_b, if_true, asSl_trs, trs_len, idx_nat _ i l.length hlt, trs_get, hx, Option.map_some, hgx, Bool.false_eq_true, if_false, add_i, i64_succ (i := i) (by omega)]
theorem contT_ok (f : Nat) (g : Tree → Bool) (l : List Tree) (hg : ∀ x, x ∈ l → P0 f [.v x.val] [] = some (.bool (g x), [])) (hl : l.length ≤ 1000000) : P0 f_slices_ContainsFunc_erratum_api_Tree [.v (.sl (trs l)), .fn f []] [] = some (.bool (l.any g), []) := by
  obtain ⟨j, v, h1, h2, h3⟩ := idxT_loop f g l hg hl l.length 0 (by omega)
  rw [List.drop_zero] at h2 h3
  rw [show ((0 : Nat) : Int) = 0 from rfl] at h1
  rw [eq_slices_ContainsFunc_erratum_api_Tree]; unfold F_slices_ContainsFunc_erratum_api_Tree
  rw [eq_slices_IndexFunc_erratum_api_Tree]; unfold F_slices_IndexFunc_erratum_api_Tree
  simp only [tick_eq, lenV_sl, some_bind, trs_len, h1]
  cases hb : l.any g with
  | true =>
    obtain ⟨rfl, m, rfl⟩ := h2 hb
    have c : (0 : Int) ≤ (m : Int) := Int.natCast_nonneg m
    simp only [tick_eq, Nat.one_ne_zero, if_false, some_bind, vec_0, geq_i, c, decide_true]
  | false =>
    have := h3 hb
    subst this
    have c : ¬ (0 : Int) ≤ -1 := by decide
    simp only [tick_eq, if_true, some_bind, geq_i, c, decide_false]
theorem clnL_any (l : List Tree) : clnL l = !(l.any fun x => decide (x.kind = 1) || !cln x) := by
  induction l with
  | nil => rfl
  | cons x r ih =>
    rw [clnL, ih]
    by_cases h : x.kind = 1
    · simp [h]
    · cases hc : cln x <;> simp [h, hc]
theorem cln_eq (t : Tree) : cln t = (decide (t.kind ≠ 7) || clnL t.v) := by
  cases t with
  | mk kind b n s k v =>
    rw [cln]
    by_cases h : kind = 7
    · simp [h, Tree.kind, Tree.v]
    · simp [h, Tree.kind]
theorem clean_ok {c d : Nat} {t : Tree} (hc : c ≤ 1000000) (h : Bnd c d t) : P0 f_merge_Clean [.v t.val] [] = some (.bool (cln t), []) := by
  induction h with
  | mk d t hl hv ih =>
    rw [eq_merge_Clean, cln_eq]; unfold F_merge_Clean
    by_cases hk : t.kind = 7
    · have hg : ∀ x, x ∈ t.v → P0 f_merge_Clean_1 [.v x.val] [] = some (.bool (decide (x.kind = 1) || !cln x), []) := by
        intro x hx
        rw [eq_merge_Clean_1]; unfold F_merge_Clean_1
        by_cases h1 : x.kind = 1
        · simp only [tick_eq, okN_tree, tst_t, fld0, some_bind, eql_i, h1, decide_true, asBool_b, Bool.true_eq_false, if_false, Bool.true_or]
        · simp only [tick_eq, okN_tree, tst_t, fld0, some_bind, eql_i, h1, decide_false, asBool_b, if_true, ih x hx, not_b, Bool.false_or]
      have := contT_ok f_merge_Clean_1 _ t.v hg (by omega)
      simp only [tick_eq, okN_tree, tst_t, fld0, some_bind, neq_i, hk, decide_true, Bool.not_true, asBool_b, if_true, fld7, this, not_b, ne_eq, not_true_eq_false, decide_false, Bool.false_or, clnL_any]
    · simp only [tick_eq, okN_tree, tst_t, fld0, some_bind, neq_i, hk, decide_false, Bool.not_false, asBool_b, Bool.true_eq_false, if_false, ne_eq, not_false_eq_true, decide_true, Bool.true_or]
theorem drop_cons_eq {α : Type} {x y : α} {a b : List α} : x :: a = y :: b ↔ x = y ∧ a = b := List.cons_eq_cons
/-- the names, one by one -/
theorem sameK_loop (a b : Tree) (ha : a.kind = 7) (hl : a.k.length = b.k.length) (hb : a.k.length ≤ 1000000) (k : Nat) : ∀ i, i + k = a.k.length →
    (a.k.drop i = b.k.drop i → loopL (L_ref05_Same_1 a.val b.val) (vec [.int .i64 (i : Int)]) = some (0, vec [])) ∧ (a.k.drop i ≠ b.k.drop i → loopL (L_ref05_Same_1 a.val b.val) (vec [.int .i64 (i : Int)]) = some (1, vec [.bool false])) := by
  induction k with
  | zero =>
    intro i hi
    have e1 : a.k.drop i = [] := List.drop_eq_nil_of_le (by omega)
    have e2 : b.k.drop i = [] := List.drop_eq_nil_of_le (by omega)
    refine ⟨fun _ => loopL_inr ?_, fun h => absurd (e1.trans e2.symm) h⟩
    unfold L_ref05_Same_1
    have c1 : ¬ (i : Int) < (a.k.length : Int) := by omega
    simp only [tick_eq, fld6, some_bind, lenV_sl, strs_len, vec_0, lss_i, c1, decide_false, asBool_b, Bool.false_eq_true, if_false]
  | succ k ih =>
    intro i hi
    have h1 : i < a.k.length := by omega
    have h2 : i < b.k.length := by omega
    have c1 : (i : Int) < (a.k.length : Int) := by omega
    have hx : a.k[i]? = some a.k[i] := List.getElem?_eq_getElem h1
    have hy : b.k[i]? = some b.k[i] := List.getElem?_eq_getElem h2
    have hd : a.k.drop i = b.k.drop i ↔ a.k[i] = b.k[i] ∧ a.k.drop (i + 1) = b.k.drop (i + 1) := by rw [List.drop_eq_getElem_cons h1, List.drop_eq_getElem_cons h2]; exact drop_cons_eq
    by_cases he : a.k[i] = b.k[i]
    · have heb : (b.k[i] == b.k[i]) = true := by simp
      have step : loopL (L_ref05_Same_1 a.val b.val) (vec [.int .i64 (i : Int)]) = loopL (L_ref05_Same_1 a.val b.val) (vec [.int .i64 ((i + 1 : Nat) : Int)]) := by
        apply loopL_inl
        unfold L_ref05_Same_1
        simp only [tick_eq, fld0, fld6, some_bind, lenV_sl, strs_len, vec_0, lss_i, c1, decide_true, asBool_b, if_true, eql_i, ha, asSl_strs, idx_nat _ i a.k.length h1, idx_nat _ i b.k.length h2, strs_get, hx, hy, Option.map_some, fld_str, neq_s, he, heb, Bool.not_true, Bool.false_eq_true, if_false, add_i, i64_succ (i := i) (by omega)]
      rw [step]
      obtain ⟨q1, q2⟩ := ih (i + 1) (by omega)
      exact ⟨fun h => q1 (hd.1 h).2, fun h => q2 (fun e => h (hd.2 ⟨he, e⟩))⟩
    · refine ⟨fun h => absurd (hd.1 h).1 he, fun _ => loopL_inr ?_⟩
      have heb : (a.k[i] == b.k[i]) = false := by simpa using he
      unfold L_ref05_Same_1
      simp only [tick_eq, fld0, fld6, some_bind, lenV_sl, strs_len, vec_0, lss_i, c1, decide_true, asBool_b, if_true, eql_i, ha, asSl_strs, idx_nat _ i a.k.length h1, idx_nat _ i b.k.length h2, strs_get, hx, hy, Option.map_some, fld_str, neq_s, heb, Bool.not_false]
theorem sameV_loop (a b : Tree) (hl : a.v.length = b.v.length) (hb : a.v.length ≤ 1000000) (hs : ∀ i (h : i < a.v.length) (h2 : i < b.v.length), ∃ r, P0 f_ref05_Same [.v a.v[i].val, .v b.v[i].val] [] = some (.bool r, []) ∧ (r = true ↔ a.v[i] = b.v[i])) (k : Nat) : ∀ i, i + k = a.v.length →
    (a.v.drop i = b.v.drop i → loopL (L_ref05_Same_2 a.val b.val) (vec [.int .i64 (i : Int)]) = some (0, vec [])) ∧ (a.v.drop i ≠ b.v.drop i → loopL (L_ref05_Same_2 a.val b.val) (vec [.int .i64 (i : Int)]) = some (1, vec [.bool false])) := by
  induction k with
  | zero =>
    intro i hi
    have e1 : a.v.drop i = [] := List.drop_eq_nil_of_le (by omega)
    have e2 : b.v.drop i = [] := List.drop_eq_nil_of_le (by omega)
    refine ⟨fun _ => loopL_inr ?_, fun h => absurd (e1.trans e2.symm) h⟩
    unfold L_ref05_Same_2
    have c1 : ¬ (i : Int) < (a.v.length : Int) := by omega
    simp only [tick_eq, fld7, some_bind, lenV_sl, trs_len, vec_0, lss_i, c1, decide_false, asBool_b, Bool.false_eq_true, if_false]
  | succ k ih =>
    intro i hi
    have h1 : i < a.v.length := by omega
    have h2 : i < b.v.length := by omega
    have c1 : (i : Int) < (a.v.length : Int) := by omega
    have hx : a.v[i]? = some a.v[i] := List.getElem?_eq_getElem h1
    have hy : b.v[i]? = some b.v[i] := List.getElem?_eq_getElem h2
    obtain ⟨r, hr1, hr2⟩ := hs i h1 h2
    have hd : a.v.drop i = b.v.drop i ↔ a.v[i] = b.v[i] ∧ a.v.drop (i + 1) = b.v.drop (i + 1) := by rw [List.drop_eq_getElem_cons h1, List.drop_eq_getElem_cons h2]; exact drop_cons_eq
    cases r with
    | true =>
      have he := hr2.1 rfl
      have step : loopL (L_ref05_Same_2 a.val b.val) (vec [.int .i64 (i : Int)]) = loopL (L_ref05_Same_2 a.val b.val) (vec [.int .i64 ((i + 1 : Nat) : Int)]) := by
        apply loopL_inl
        unfold L_ref05_Same_2
        simp only [tick_eq, fld7, some_bind, lenV_sl, trs_len, vec_0, lss_i, c1, decide_true, asBool_b, if_true, asSl_trs, idx_nat _ i a.v.length h1, idx_nat _ i b.v.length h2, trs_get, hx, hy, Option.map_some, hr1, not_b, Bool.not_true, Bool.false_eq_true, if_false, add_i, i64_succ (i := i) (by omega)]
      rw [step]
      obtain ⟨q1, q2⟩ := ih (i + 1) (by omega)
      exact ⟨fun h => q1 (hd.1 h).2, fun h => q2 (fun e => h (hd.2 ⟨he, e⟩))⟩
    | false =>
      have he : a.v[i] ≠ b.v[i] := fun e => by have := hr2.2 e; contradiction
      refine ⟨fun h => absurd (hd.1 h).1 he, fun _ => loopL_inr ?_⟩
      unfold L_ref05_Same_2
      simp only [tick_eq, fld7, some_bind, lenV_sl, trs_len, vec_0, lss_i, c1, decide_true, asBool_b, if_true, asSl_trs, idx_nat _ i a.v.length h1, idx_nat _ i b.v.length h2, trs_get, hx, hy, Option.map_some, hr1, not_b, Bool.not_false]
/-- kinds that may be -/
theorem OkT.kind {t : Tree} (h : OkT t) : t.kind = 1 ∨ t.kind = 2 ∨ t.kind = 3 ∨ t.kind = 4 ∨ t.kind = 5 ∨ t.kind = 6 ∨ t.kind = 7 := by
  cases h <;> simp [Tree.kind, Ev.null, Ev.obj]
theorem subV_nm (t : Tree) : subV t.val 2 3 = t.n.val := by rw [t.val_eq]; rfl
theorem OkT.num_ok {t : Tree} (h : OkT t) : t.n.ok := by
  cases h <;> first | exact Nm.zero_ok | assumption
/-- what a value is, by its kind -/
theorem OkT.shape {t : Tree} (h : OkT t) :
    (t.kind = 1 → t = Ev.null) ∧ (t.kind = 2 → t = .mk 2 t.b .zero [] [] []) ∧ (t.kind = 3 → t = .mk 3 false t.n [] [] []) ∧ (t.kind = 4 → t = .mk 4 false .zero t.s [] []) ∧ (t.kind = 5 → t = .mk 5 false .zero t.s [] []) ∧
    (t.kind = 6 → t = .mk 6 false .zero [] [] t.v) ∧ (t.kind = 7 → t = .mk 7 false .zero [] t.k t.v) := by
  cases h <;> simp [Tree.kind, Ev.null, Ev.obj, Tree.b, Tree.n, Tree.s, Tree.v, Tree.k]
theorem OkT.lens {t : Tree} (h : OkT t) : t.k.length ≤ 300 ∧ t.v.length ≤ 300 ∧ (t.kind ≠ 7 → t.k = []) ∧ (t.kind ≠ 6 → t.kind ≠ 7 → t.v = []) ∧ (t.kind = 7 → t.k.length = t.v.length) := by
  cases h with
  | arr v hl hv => exact ⟨by simp [Tree.k], hl, fun _ => rfl, fun h => absurd rfl h, fun h => by simp [Tree.kind] at h⟩
  | obj l hs hl hn hv => exact ⟨by show (names l).length ≤ 300; rw [names_len]; exact hl, by show (valsL l).length ≤ 300; rw [valsL_len]; exact hl, fun h => absurd rfl h, fun _ h => absurd rfl h, fun _ => by show (names l).length = (valsL l).length; rw [names_len, valsL_len]⟩
  | _ => refine ⟨by simp [Tree.k, Ev.null], by simp [Tree.v, Ev.null], fun _ => rfl, fun _ _ => rfl, fun h => by simp [Tree.kind, Ev.null] at h⟩
theorem OkT.sub {t : Tree} (h : OkT t) : ∀ x, x ∈ t.v → OkT x := by
  cases h with
  | arr v hl hv => exact hv
  | obj l hs hl hn hv =>
    intro x hx
    obtain ⟨q, hq, rfl⟩ := List.mem_map.1 (show x ∈ valsL l from hx)
    exact hv q hq
  | _ => intro x hx; simp [Tree.v, Ev.null] at hx
theorem bne_nat (a b : Nat) : (((a : Nat) : Int) != ((b : Nat) : Int)) = !decide (a = b) := by
  by_cases h : a = b
  · subst h; simp
  · have : ¬ ((a : Int) = (b : Int)) := by omega
    simp [h, bne, this]
/-- trees by induction -/
theorem Tree.ind {Q : Tree → Prop} (h : ∀ t, (∀ x, x ∈ t.v → Q x) → Q t) (t : Tree) : Q t := by
  have key : ∀ n, ∀ t, nodes t ≤ n → Q t := by
    intro n
    induction n with
    | zero => intro t ht; rw [nodes_eq] at ht; omega
    | succ n ih =>
      intro t ht
      refine h t (fun x hx => ih x ?_)
      have : nodes x ≤ nodesL t.v := by
        have : ∀ l : List Tree, x ∈ l → nodes x ≤ nodesL l := by
          intro l
          induction l with
          | nil => intro h; simp at h
          | cons y r ih2 =>
            intro h
            simp only [nodesL]
            rcases List.mem_cons.1 h with rfl | h
            · omega
            · have := ih2 h; omega
        exact this _ hx
      rw [nodes_eq] at ht; omega
  exact key _ t (Nat.le_refl _)
theorem same_ok : ∀ a, OkT a → ∀ b, OkT b → ∃ r, P0 f_ref05_Same [.v a.val, .v b.val] [] = some (.bool r, []) ∧ (r = true ↔ a = b) := by
  intro a
  induction a using Tree.ind with
  | h a ih =>
  intro ha b hb
  rw [eq_ref05_Same]; unfold F_ref05_Same
  by_cases hk : a.kind = b.kind
  · obtain ⟨a1, a2, a3, a4, a5, a6, a7⟩ := ha.shape
    obtain ⟨b1, b2, b3, b4, b5, b6, b7⟩ := hb.shape
    obtain ⟨la1, la2, la3, la4, la5⟩ := ha.lens
    obtain ⟨lb1, lb2, lb3, lb4, lb5⟩ := hb.lens
    have head : ∀ {K : Option (V × List V)}, (tst (okN 8 a.val) (tst (okN 8 b.val) ((fldV a.val 0).bind fun c1 => (fldV b.val 0).bind fun c2 => (binV .neq c1 c2).bind fun x3 => (asBool x3).bind fun b4 => if b4 = true then some (.bool false, []) else K))) = K := by
      intro K
      simp only [tick_eq, okN_tree, tst_t, fld0, some_bind, neq_i, hk, decide_true, Bool.not_true, asBool_b, Bool.false_eq_true, if_false]
    rw [head]
    rcases ha.kind with h | h | h | h | h | h | h
    · refine ⟨true, ?_, fun _ => ?_, fun _ => rfl⟩
      · simp only [tick_eq, fld0, some_bind, eql_i, h, asBool_b, vec_0, Int.reduceEq, decide_false, Bool.false_eq_true, if_false]
      · rw [a1 h, b1 (hk ▸ h)]
    · refine ⟨a.b == b.b, ?_, ?_⟩
      · simp only [tick_eq, fld0, fld1, some_bind, eql_i, h, asBool_b, decide_true, if_true]
      · rw [beq_iff_eq]
        constructor
        · intro e; rw [a2 h, b2 (hk ▸ h), e]
        · intro e; rw [e]
    · refine ⟨decide (a.n = b.n), ?_, ?_⟩
      · simp only [tick_eq, fld0, some_bind, eql_i, h, asBool_b, Int.reduceEq, decide_false, Bool.false_eq_true, if_false, decide_true, if_true, subV_nm, nsame_ok a.n b.n ha.num_ok hb.num_ok]
      · rw [decide_eq_true_eq]
        constructor
        · intro e; rw [a3 h, b3 (hk ▸ h), e]
        · intro e; rw [e]
    · refine ⟨a.s == b.s, ?_, ?_⟩
      · simp only [tick_eq, fld0, fld5, some_bind, eql_i, h, asBool_b, vec_0, Int.reduceEq, decide_false, Bool.false_eq_true, if_false, decide_true, if_true, eql_s]
      · rw [beq_iff_eq]
        constructor
        · intro e; rw [a4 h, b4 (hk ▸ h), e]
        · intro e; rw [e]
    · refine ⟨a.s == b.s, ?_, ?_⟩
      · simp only [tick_eq, fld0, fld5, some_bind, eql_i, h, asBool_b, vec_0, Int.reduceEq, decide_false, Bool.false_eq_true, if_false, decide_true, if_true, eql_s]
      · rw [beq_iff_eq]
        constructor
        · intro e; rw [a5 h, b5 (hk ▸ h), e]
        · intro e; rw [e]
    · have hb6 := b6 (hk ▸ h)
      have hak : a.k = [] := la3 (by omega)
      have hbk : b.k = [] := lb3 (by omega)
      have hab : a = b ↔ a.v = b.v := ⟨fun e => by rw [e], fun e => by rw [a6 h, hb6, e]⟩
      rw [hab]
      by_cases hlen : a.v.length = b.v.length
      · have hK : loopL (L_ref05_Same_1 a.val b.val) (vec [.int .i64 0]) = some (0, vec []) := by
          apply loopL_inr
          unfold L_ref05_Same_1
          simp only [tick_eq, fld6, some_bind, lenV_sl, strs_len, vec_0, lss_i, hak, List.length_nil, asBool_b]
          rfl
        have hV := sameV_loop a b hlen (by omega) (fun i h1 h2 => ih _ (List.getElem_mem h1) (ha.sub _ (List.getElem_mem h1)) _ (hb.sub _ (List.getElem_mem h2))) a.v.length 0 (by omega)
        rw [List.drop_zero, List.drop_zero, show ((0 : Nat) : Int) = 0 from rfl] at hV
        have hd : True := trivial
        by_cases he : a.v = b.v
        · refine ⟨true, ?_, fun _ => he, fun _ => rfl⟩
          simp only [tick_eq, fld0, fld7, some_bind, eql_i, h, asBool_b, vec_0, Int.reduceEq, decide_false, Bool.false_eq_true, if_false, decide_true, if_true, lenV_sl, trs_len, bne_nat, hlen, Bool.not_true, hK, hV.1 he]
        · refine ⟨false, ?_, fun e => by contradiction, fun e => absurd e he⟩
          simp only [tick_eq, fld0, fld7, some_bind, eql_i, h, asBool_b, vec_0, Int.reduceEq, decide_false, Bool.false_eq_true, if_false, decide_true, if_true, lenV_sl, trs_len, bne_nat, hlen, Bool.not_true, hK, hV.2 he, Nat.one_ne_zero]
      · refine ⟨false, ?_, fun e => by contradiction, fun e => absurd (congrArg List.length e) hlen⟩
        simp only [tick_eq, fld0, fld7, some_bind, eql_i, h, asBool_b, vec_0, Int.reduceEq, decide_false, Bool.false_eq_true, if_false, decide_true, if_true, lenV_sl, trs_len, bne_nat, hlen, Bool.not_false, Bool.true_eq_false]
    · have hb7 := b7 (hk ▸ h)
      have hab : a = b ↔ a.k = b.k ∧ a.v = b.v := ⟨fun e => by rw [e]; exact ⟨rfl, rfl⟩, fun e => by rw [a7 h, hb7, e.1, e.2]⟩
      rw [hab]
      have hbb := lb5 (hk ▸ h)
      have haa := la5 h
      by_cases hlen : a.v.length = b.v.length
      · have hkl : a.k.length = b.k.length := by omega
        have hK := sameK_loop a b h hkl (by omega) a.k.length 0 (by omega)
        have hV := sameV_loop a b hlen (by omega) (fun i h1 h2 => ih _ (List.getElem_mem h1) (ha.sub _ (List.getElem_mem h1)) _ (hb.sub _ (List.getElem_mem h2))) a.v.length 0 (by omega)
        rw [List.drop_zero, List.drop_zero, show ((0 : Nat) : Int) = 0 from rfl] at hV hK
        have hd : True := trivial
        have hd2 : True := trivial
        by_cases hek : a.k = b.k
        · by_cases he : a.v = b.v
          · refine ⟨true, ?_, fun _ => ⟨hek, he⟩, fun _ => rfl⟩
            simp only [tick_eq, fld0, fld6, fld7, some_bind, eql_i, h, asBool_b, vec_0, Int.reduceEq, decide_false, Bool.false_eq_true, if_false, decide_true, if_true, lenV_sl, strs_len, trs_len, bne_nat, hlen, hkl, Bool.not_true, hK.1 hek, hV.1 he]
          · refine ⟨false, ?_, fun e => by contradiction, fun e => absurd e.2 he⟩
            simp only [tick_eq, fld0, fld6, fld7, some_bind, eql_i, h, asBool_b, vec_0, Int.reduceEq, decide_false, Bool.false_eq_true, if_false, decide_true, if_true, lenV_sl, strs_len, trs_len, bne_nat, hlen, hkl, Bool.not_true, hK.1 hek, hV.2 he, Nat.one_ne_zero]
        · refine ⟨false, ?_, fun e => by contradiction, fun e => absurd e.1 hek⟩
          simp only [tick_eq, fld0, fld6, fld7, some_bind, eql_i, h, asBool_b, vec_0, Int.reduceEq, decide_false, Bool.false_eq_true, if_false, decide_true, if_true, lenV_sl, strs_len, trs_len, bne_nat, hlen, hkl, Bool.not_true, hK.2 hek, Nat.one_ne_zero]
      · refine ⟨false, ?_, fun e => by contradiction, fun e => absurd (congrArg List.length e.2) hlen⟩
        simp only [tick_eq, fld0, fld7, some_bind, eql_i, h, asBool_b, vec_0, Int.reduceEq, decide_false, Bool.false_eq_true, if_false, decide_true, if_true, lenV_sl, trs_len, bne_nat, hlen, Bool.not_false, Bool.true_eq_false]
  · refine ⟨false, ?_, fun e => by contradiction, fun e => absurd (congrArg Tree.kind e) hk⟩
    simp only [tick_eq, okN_tree, tst_t, fld0, some_bind, neq_i, hk, decide_false, Bool.not_false, asBool_b, if_true]
end Go.Ev
