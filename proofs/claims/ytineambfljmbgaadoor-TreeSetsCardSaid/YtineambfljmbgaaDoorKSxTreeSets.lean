/- The law: what is set is the member, all others stay. -/
import Derived.Test.YtineambfljmbgaaDoorKSw2
import Derived.Test.YtineambfljmbgaaDoorKSt4
import Derived.Test.YtineambfljmbgaaDoorRows
set_option linter.all false
namespace Go.Ev
attribute [local irreducible] P0
theorem srt_of : ∀ {l : List Str}, (∀ k (h : k < l.length) (h0 : 0 < k), lt (l[k - 1]'(by omega)) l[k] = true) → Srt l
  | [], _ => trivial
  | [x], _ => ⟨fun y hy => by simp at hy, trivial⟩
  | x :: y :: r, h => by
    have ih : Srt (y :: r) := srt_of (fun k hk h0 => by
      have := h (k + 1) (by simpa using hk) (by omega)
      cases k with
      | zero => omega
      | succ k => simpa using this)
    have hxy : lt x y = true := by have := h 1 (by simp) (by omega); simpa using this
    refine ⟨fun z hz => ?_, ih⟩
    rcases List.mem_cons.1 hz with rfl | hz
    · exact hxy
    · exact lt_trans hxy (ih.1 z hz)
theorem NmsP.srt {l : List Str} (h : NmsP l) : Srt l := srt_of (fun k hk h0 => (h.1 k hk (by omega)).2 h0)
theorem NmsP.text {l : List Str} (h : NmsP l) : ∀ x, x ∈ l → textB x = true := fun x hx => by
  obtain ⟨i, hi, rfl⟩ := List.mem_iff_getElem.1 hx
  exact (h.1 i hi (by omega)).1
theorem obj_of {t : Tree} (h : OkG t) (hk : t.kind = 7) : t = obj (al t) ∧ names (al t) = t.k ∧ valsL (al t) = t.v ∧ NmsP t.k := by
  obtain ⟨e, hn, hl⟩ := (own_shape h.own).2.2.2.2.2.2 hk
  have ha : al t = t.k.zip t.v := if_pos hk
  have h1 : names (al t) = t.k := by rw [ha, names_zip, hl]; simp [← hl]
  have h2 : valsL (al t) = t.v := by rw [ha, valsL_zip, hl]; simp
  have h3 : obj (al t) = Tree.mk 7 false .zero [] (names (al t)) (valsL (al t)) := rfl
  exact ⟨by rw [h3, h1, h2]; exact e, h1, h2, hn⟩
theorem okG_obj {l : AL} (hs : SrtA l) (hl : l.length ≤ 300) (hn : ∀ x, x ∈ names l → textB x = true) (hv : ∀ q, q ∈ l → OkG q.2) : OkG (obj l) := by
  have e1 : nmsB (obj l).k = true := (nmsB_iff _).2 ⟨fun k hk _ => ⟨hn _ (List.getElem_mem hk), fun h0 => srt_at hs (k - 1) k hk (by omega)⟩, by show (names l).length ≤ 300; rw [names_len]; exact hl⟩
  have e2 : decide ((obj l).k.length = (obj l).v.length) = true := decide_eq_true (by show (names l).length = (valsL l).length; rw [names_len, valsL_len])
  have e3 : decide ((obj l).v.length ≤ 300) = true := decide_eq_true (by show (valsL l).length ≤ 300; rw [valsL_len]; exact hl)
  refine .mk _ (by rw [own_7 rfl, e1, e2, e3]; rfl) (fun x hx => ?_)
  obtain ⟨q, hq, rfl⟩ := List.mem_map.1 (show x ∈ valsL l from hx)
  exact hv q hq
theorem tame_obj {l : AL} (hl : l.length ≤ 1000000) (hv : ∀ q, q ∈ l → TameT q.2) : TameT (obj l) :=
  .mk _ ⟨fun x hx => by simp [obj, Tree.n, Nm.zero] at hx, by simp [obj, Tree.n, Nm.zero], by show (names l).length ≤ _; rw [names_len]; omega⟩ (fun x hx => by
    obtain ⟨q, hq, rfl⟩ := List.mem_map.1 (show x ∈ valsL l from hx)
    exact hv q hq)
theorem len_del_in {n : Str} {l : AL} (h : lk n l ≠ none) : (delA n l).length + 1 = l.length := by
  induction l with
  | nil => exact absurd rfl h
  | cons p r ih =>
    obtain ⟨k, w⟩ := p
    simp only [delA, lk] at h ⊢
    split
    · simp
    · next hk => rw [if_neg hk] at h; simp [ih h]
theorem len_set_some {n : Str} {v : Tree} {l : AL} (hs : SrtA l) (h : (lk n l).isSome = true) : (setA n v l).length = l.length := by
  induction l with
  | nil => simp [lk] at h
  | cons p r ih =>
    obtain ⟨k, w⟩ := p
    by_cases hk : k = n
    · rw [show setA n v ((k, w) :: r) = (n, v) :: r from if_pos hk]; rfl
    · have h2 : lk n ((k, w) :: r) = lk n r := if_neg hk
      rw [h2] at h
      have h3 : lt n k = false := by
        have h4 := lk_lt (n := n) (k := k) (l := r) hs.1 (fun q => by rw [q] at h; simp at h)
        exact lt_asymm h4
      rw [show setA n v ((k, w) :: r) = (k, w) :: setA n v r from (if_neg hk).trans (if_neg (by rw [h3]; decide)), List.length_cons, List.length_cons, ih hs.2 h]
theorem len_set_none {n : Str} {v : Tree} {l : AL} (h : (lk n l).isSome = false) : (setA n v l).length = l.length + 1 := by
  induction l with
  | nil => rfl
  | cons p r ih =>
    obtain ⟨k, w⟩ := p
    by_cases hk : k = n
    · rw [show lk n ((k, w) :: r) = some w from if_pos hk] at h; simp at h
    · rw [show lk n ((k, w) :: r) = lk n r from if_neg hk] at h
      by_cases hl : lt n k = true
      · rw [show setA n v ((k, w) :: r) = (n, v) :: (k, w) :: r from (if_neg hk).trans (if_pos hl)]; rfl
      · rw [show setA n v ((k, w) :: r) = (k, w) :: setA n v r from (if_neg hk).trans (if_neg hl), List.length_cons, List.length_cons, ih h]
theorem memV_some {n : Str} {l : AL} {x : Tree} (h : lk n l = some x) : memV n l = .tup [x.val, .bool true] := by unfold memV; rw [h]
theorem memV_any (n : Str) (l : AL) : ∃ x : Tree, memV n l = .tup [x.val, .bool (lk n l).isSome] := by
  unfold memV
  cases lk n l with
  | none => exact ⟨_, rfl⟩
  | some x => exact ⟨x, rfl⟩
theorem sets_loop1 (t v : Tree) (name : Str) (p : List V) (ht : OkG t) (tt : TameT t) (hk : t.kind = 7) (m : Nat) : ∀ i, i + m = t.k.length →
    loopL (L_law05_TreeSets_1 t.val ((obj (setA name v (al t))).val, p) (.str name)) (vec [.int .i64 (i : Int)]) = some (0, vec []) := by
  obtain ⟨e, en, ev, hn⟩ := obj_of ht hk
  have hl : t.k.length ≤ 300 := hn.2
  have hal : (al t).length = t.k.length := by rw [← en, names_len]
  have hvl : t.v.length = t.k.length := by rw [← ev, valsL_len, hal]
  have hs : SrtA (al t) := by unfold SrtA; rw [en]; exact hn.srt
  induction m with
  | zero =>
    intro i hi
    apply loopL_inr
    unfold L_law05_TreeSets_1
    have c1 : ¬ (i : Int) < (t.k.length : Int) := by omega
    simp only [tick_eq, fld6, lenV_sl, strs_len, vec_0, lss_i, c1, decide_false, some_bind, asBool_b, Bool.false_eq_true, if_false]
  | succ m ih =>
    intro i hi
    have hlt : i < t.k.length := by omega
    have hlt2 : i < t.v.length := by omega
    have c1 : (i : Int) < (t.k.length : Int) := by omega
    have hx : t.k[i]? = some t.k[i] := List.getElem?_eq_getElem hlt
    have hy : t.v[i]? = some t.v[i] := List.getElem?_eq_getElem hlt2
    have hlu : (setA name v (al t)).length ≤ 1000000 := by have := len_set name v (al t); omega
    have hmem := member_obj (setA name v (al t)) t.k[i] hlu
    have hlk0 : lk t.k[i] (al t) = some t.v[i] := by
      apply mem_lk hs
      have : (al t)[i]? = some (t.k[i], t.v[i]) := by
        rw [show al t = t.k.zip t.v from if_pos hk, List.getElem?_zip_eq_some]
        exact ⟨hx, hy⟩
      exact List.mem_of_getElem? this
    have hlk : lk t.k[i] (setA name v (al t)) = some (if name = t.k[i] then v else t.v[i]) := by
      rw [lk_set hs]; split
      · rfl
      · exact hlk0
    rw [memV_some hlk] at hmem
    rw [← ih (i + 1) (by omega)]
    apply loopL_inl
    unfold L_law05_TreeSets_1
    by_cases hnm : t.k[i] = name
    · have hb : (t.k[i] == name) = true := by simp [hnm]
      simp only [tick_eq, fld6, lenV_sl, strs_len, vec_0, lss_i, c1, decide_true, some_bind, asBool_b, if_true, asSl_strs, idx_nat _ i t.k.length hlt, strs_get, hx, Option.map_some, fld_str, hmem, ext_tup, List.getElem?_cons_zero, List.getElem?_cons_succ, okN_tree, tst_t, not_b, Bool.not_true, neq_s, hb, Bool.false_eq_true, if_false, add_i, i64_succ (i := i) (by omega)]
    · have hb : (t.k[i] == name) = false := by simpa using hnm
      have hne : ¬ name = t.k[i] := fun q => hnm q.symm
      rw [if_neg hne] at hmem
      obtain ⟨r, r1, r2⟩ := tsame_ok t.v[i] (ht.sub _ (List.getElem_mem hlt2)) (tt.sub _ (List.getElem_mem hlt2)) t.v[i] (ht.sub _ (List.getElem_mem hlt2)) (tt.sub _ (List.getElem_mem hlt2))
      obtain rfl := r2.2 rfl
      simp only [tick_eq, fld6, fld7, lenV_sl, strs_len, vec_0, lss_i, c1, decide_true, some_bind, asBool_b, if_true, asSl_strs, idx_nat _ i t.k.length hlt, strs_get, hx, Option.map_some, fld_str, hmem, ext_tup, List.getElem?_cons_zero, List.getElem?_cons_succ, okN_tree, tst_t, not_b, Bool.not_true, neq_s, hb, Bool.not_false, Bool.false_eq_true, if_false, asSl_trs, trs_len, idx_nat _ i t.v.length hlt2, trs_get, hy, r1, add_i, i64_succ (i := i) (by omega)]
theorem sets_loop2 (u : AL) (p : List V) (hs : SrtA u) (hl : u.length ≤ 1000000) (m : Nat) : ∀ i, 1 ≤ i → (i + m = u.length ∨ (m = 0 ∧ u.length ≤ i)) →
    loopL (L_law05_TreeSets_2 ((obj u).val, p)) (vec [.int .i64 (i : Int)]) = some (0, vec []) := by
  have ek : (obj u).k = names u := rfl
  have hnl : (names u).length = u.length := names_len u
  induction m with
  | zero =>
    intro i h1 hi
    apply loopL_inr
    unfold L_law05_TreeSets_2
    have c1 : ¬ (i : Int) < (u.length : Int) := by omega
    simp only [tick_eq, fld6, ek, lenV_sl, strs_len, hnl, vec_0, lss_i, c1, decide_false, some_bind, asBool_b, Bool.false_eq_true, if_false]
  | succ m ih =>
    intro i h1 hi
    have hi : i + (m + 1) = u.length := by omega
    have hlt : i < (names u).length := by omega
    have c1 : (i : Int) < (u.length : Int) := by omega
    have hx : (names u)[i]? = some (names u)[i] := List.getElem?_eq_getElem hlt
    have hy : (names u)[i - 1]? = some (names u)[i - 1] := List.getElem?_eq_getElem (by omega)
    have hm : IntKind.i64.wrap ((i : Int) - 1) = ((i - 1 : Nat) : Int) := by rw [w64 (a := (i : Int) - 1) (by omega)]; omega
    have hl' := srt_at hs (i - 1) i hlt (by omega)
    have g1 : Op.bytesLess (names u)[i] (names u)[i - 1] = false := lt_asymm hl'
    have g2 : ((names u)[i] == (names u)[i - 1]) = false := by
      rw [beq_eq_false_iff_ne]; exact fun e => lt_ne hl' e.symm
    rw [← ih (i + 1) (by omega) (by omega)]
    apply loopL_inl
    unfold L_law05_TreeSets_2
    simp only [tick_eq, fld6, ek, lenV_sl, strs_len, hnl, vec_0, lss_i, c1, decide_true, some_bind, asBool_b, if_true, asSl_strs, idx_nat _ i u.length (by omega), strs_get, hx, Option.map_some, fld_str, sub_i, hm, idx_nat _ (i - 1) u.length (by omega), hy, leq_s, g1, g2, Bool.or_false, Bool.false_eq_true, if_false, add_i, i64_succ (i := i) (by omega)]
theorem sets_law (t v : Tree) (name : Str) (tt : TameT t) (tv : TameT v) : P0 f_law05_TreeSets [.v t.val, .v (.str name), .v v.val] [] = some (.bool true, []) := by
  rw [eq_law05_TreeSets]; unfold F_law05_TreeSets
  obtain ⟨b1, c1, i1⟩ := tCheck_ok t tt
  cases b1 with
  | false => simp only [tick_eq, okN_tree, tst_t, c1, some_bind, not_b, Bool.not_false, asBool_b, Bool.true_eq_false, if_false, if_true, awake05]
  | true =>
  obtain ⟨og, od, on⟩ := i1.1 rfl
  obtain ⟨b2, c2, i2⟩ := tCheck_ok v tv
  cases b2 with
  | false => simp only [tick_eq, okN_tree, tst_t, c1, c2, some_bind, not_b, Bool.not_true, Bool.not_false, asBool_b, Bool.true_eq_false, if_false, if_true, awake05]
  | true =>
  obtain ⟨vg, vd, vn⟩ := i2.1 rfl
  obtain ⟨b3, c3, _⟩ := Light_ok t 100 (by decide)
  have c3 : P0 f_law00_Light [.v t.val, .v (.int .i64 100)] [] = some (.bool b3, []) := c3
  cases b3 with
  | false => simp only [tick_eq, okN_tree, tst_t, c1, c2, c3, some_bind, not_b, Bool.not_true, Bool.not_false, asBool_b, Bool.true_eq_false, if_false, if_true, awake05]
  | true =>
  obtain ⟨b4, c4, _⟩ := Light_ok v 60 (by decide)
  have c4 : P0 f_law00_Light [.v v.val, .v (.int .i64 60)] [] = some (.bool b4, []) := c4
  cases b4 with
  | false => simp only [tick_eq, okN_tree, tst_t, c1, c2, c3, c4, some_bind, not_b, Bool.not_true, Bool.not_false, asBool_b, Bool.true_eq_false, if_false, if_true, awake05]
  | true =>
  by_cases hk : t.kind = 7
  · by_cases hnl : name.length > 100
    · have d : decide (((name.length : Nat) : Int) > 100) = true := decide_eq_true (by omega)
      simp only [tick_eq, okN_tree, tst_t, c1, c2, c3, c4, some_bind, not_b, Bool.not_true, asBool_b, if_true, fld0, neq_i, hk, decide_true, lns_s, d, awake05]
    have d : decide (((name.length : Nat) : Int) > 100) = false := decide_eq_false (by omega)
    obtain ⟨e, en, ev, hn⟩ := obj_of og hk
    have hl : t.k.length ≤ 300 := hn.2
    have hal : (al t).length = t.k.length := by rw [← en, names_len]
    have hs : SrtA (al t) := by unfold SrtA; rw [en]; exact hn.srt
    have hset := set_ok t name v hs (by omega)
    have hus : SrtA (setA name v (al t)) := srt_set hs
    have hul : (setA name v (al t)).length ≤ 301 := by have := len_set name v (al t); omega
    have hlk : lk name (setA name v (al t)) = some v := by rw [lk_set hs, if_pos rfl]
    have m1 := member_obj (setA name v (al t)) name (by omega)
    rw [memV_some hlk] at m1
    have m2 := member_ok t name (by omega)
    obtain ⟨y, ey⟩ := memV_any name (al t)
    rw [ey] at m2
    have hun := unset_obj (setA name v (al t)) name (by omega)
    have hunt := unset_ok t name (by omega)
    have hW : delA name (setA name v (al t)) = delA name (al t) := al_ext (srt_del hus) (srt_del hs) (fun n => by
      rw [lk_del hus, lk_del hs, lk_set hs]; split <;> rfl)
    have hunt : P0 f_tree_Unset [.v t.val, .v (.str name)] [] = some ((obj (delA name (al t))).val, []) := by
      cases hc : lk name (al t) with
      | some x => rw [hc] at hunt; exact hunt
      | none =>
        rw [hc] at hunt
        have : delA name (al t) = al t := del_none (pos_none.2 hc)
        rw [this, ← e]; exact hunt
    rw [hW] at hun
    have hwl : (delA name (al t)).length ≤ 300 := by have := len_del name (al t); omega
    have wG : OkG (obj (delA name (al t))) := okG_obj (srt_del hs) hwl (fun x hx => hn.text x (by rw [← en]; exact names_del_sub name (al t) x hx)) (fun q hq => og.sub _ (by have := al_v (mem_del hq); exact this))
    have wT : TameT (obj (delA name (al t))) := tame_obj (by omega) (fun q hq => tt.sub _ (al_v (mem_del hq)))
    obtain ⟨r1, s1, q1⟩ := tsame_ok v vg tv v vg tv
    obtain rfl := q1.2 rfl
    obtain ⟨r2, s2, q2⟩ := tsame_ok _ wG wT _ wG wT
    obtain rfl := q2.2 rfl
    obtain ⟨r3, s3, q3⟩ := tsame_ok _ wG wT t og tt
    have l1 := sets_loop1 t v name [] og tt hk t.k.length 0 (by omega)
    have l2 := sets_loop2 (setA name v (al t)) [] hus (by omega) ((setA name v (al t)).length - 1) 1 (by omega) (by omega)
    rw [show ((0 : Nat) : Int) = 0 from rfl] at l1
    rw [show ((1 : Nat) : Int) = 1 from rfl] at l2
    have uk : (obj (setA name v (al t))).k.length = (setA name v (al t)).length := names_len _
    have uv : (obj (setA name v (al t))).v.length = (setA name v (al t)).length := valsL_len _
    have wk : (obj (delA name (al t))).k.length = (delA name (al t)).length := names_len _
    have hdl : (delA name (al t)).length + 1 = (setA name v (al t)).length := by rw [← hW]; exact len_del_in (by rw [hlk]; simp)
    have n1 : ((((setA name v (al t)).length : Nat) : Int) != (((setA name v (al t)).length : Nat) : Int)) = false := by simp
    have n2 : ((((setA name v (al t)).length : Nat) : Int) != IntKind.i64.wrap ((((delA name (al t)).length : Nat) : Int) + 1)) = false := by
      rw [i64_succ (i := (delA name (al t)).length) (by omega), hdl]; simp
    have n3 : ((lk name (al t)).isSome == ((((setA name v (al t)).length : Nat) : Int) == ((t.k.length : Nat) : Int))) = true := by
      cases hc : (lk name (al t)).isSome with
      | true => rw [len_set_some hs hc, hal]; simp
      | false =>
        have hle := len_set_none (v := v) hc
        rw [hal] at hle
        have : ¬ ((((setA name v (al t)).length : Nat) : Int) = ((t.k.length : Nat) : Int)) := by omega
        rw [beq_iff_eq]; symm; rw [beq_eq_false_iff_ne]; exact this
    have n4 : (if (lk name (al t)).isSome = false then (P0 f_tree_Same [.v (obj (delA name (al t))).val, .v t.val] []).bind fun r115 => some r115.1 else some (.bool true) : Option V) = some (.bool true) := by
      cases hc : lk name (al t) with
      | some _ => rfl
      | none =>
        have h2 : delA name (al t) = al t := del_none (pos_none.2 hc)
        have : r3 = true := q3.2 (by rw [h2, ← e])
        subst this
        simp only [tick_eq, Option.isSome_none, if_true, s3, some_bind]
    simp only [tick_eq, okN_tree, tst_t, c1, c2, c3, c4, some_bind, not_b, Bool.not_true, asBool_b, if_true, fld0, neq_i, hk, decide_true, lns_s, d, Bool.false_eq_true, if_false, hset, m1, m2, hun, ext_tup, List.getElem?_cons_zero, List.getElem?_cons_succ, s1, fld6, fld7, lenV_sl, strs_len, trs_len, uk, uv, wk, n1, n2, n3, l1, l2, hunt, s2, n4, awake05]
  · simp only [tick_eq, okN_tree, tst_t, c1, c2, c3, c4, some_bind, not_b, Bool.not_true, asBool_b, if_true, fld0, neq_i, hk, decide_false, Bool.not_false, Bool.true_eq_false, if_false, awake05]
theorem pure_TreeSets {n0 n1 n2 : Nat} {xs ys zs : List V} (hx : Ty Go.Proofs.Tryd.prog n0 29 xs) (hy : Ty Go.Proofs.Tryd.prog n1 9 ys) (hz : Ty Go.Proofs.Tryd.prog n2 29 zs) :
    P0 f_law05_TreeSets ([mkV Go.Proofs.Tryd.prog 29 xs, mkV Go.Proofs.Tryd.prog 9 ys, mkV Go.Proofs.Tryd.prog 29 zs].map .v) [] = some (.bool true, []) := by
  have T := ty_tree (P := Go.Proofs.Tryd.prog) Go.Proofs.Tryd.underlying29 rfl Go.Proofs.Tryd.underlying3 Go.Proofs.Tryd.underlying4 Go.Proofs.Tryd.underlying25 rfl Go.Proofs.Tryd.underlying23 Go.Proofs.Tryd.underlying38 Go.Proofs.Tryd.underlying9 Go.Proofs.Tryd.underlying26 Go.Proofs.Tryd.underlying27
  obtain ⟨t, et, tt⟩ := T _ _ hx
  obtain ⟨s, _, es, _⟩ := ty_str Go.Proofs.Tryd.underlying9 hy
  obtain ⟨v, ev, tv⟩ := T _ _ hz
  rw [et, es, ev]
  exact sets_law t v s tt tv
end Go.Ev
