/- The law: one field that is another kind's, and it is no value. -/
import Derived.Test.YtineambfljmbgaaDoorKSv8
import Derived.Test.YtineambfljmbgaaDoorKSt9
import Derived.Test.YtineambfljmbgaaDoorRows
set_option linter.all false
namespace Go.Ev
attribute [local irreducible] P0
theorem no_check {t : Tree} (ht : TameT t) (h : ¬ OkG t) : P0 f_tree_Check [.v t.val] [] = some (.bool false, []) := by
  obtain ⟨b, h1, h2⟩ := tCheck_ok t ht
  cases b with
  | false => exact h1
  | true => exact absurd (h2.1 rfl).1 h
theorem tame_z {kind : Int} {b : Bool} {s : Str} {k : List Str} {v : List Tree} (hk : k.length ≤ 1000000000000000) (hv : ∀ x, x ∈ v → TameT x) : TameT (.mk kind b .zero s k v) :=
  .mk _ ⟨fun x hx => by simp [Tree.n, Nm.zero] at hx, by simp [Tree.n, Nm.zero], hk⟩ hv
def n10 : Nm := ⟨false, [10], 0⟩
theorem n10_no : nokB n10 = false ∧ numZ n10 = false := by decide
theorem own_n10 {t : Tree} (h : OkT t) : ownB (.mk t.kind t.b n10 t.s t.k t.v) = false := by
  rcases h.kind with hk | hk | hk | hk | hk | hk | hk
  · rw [own_1 (show (Tree.mk t.kind t.b n10 t.s t.k t.v).kind = 1 from hk)]; show (_ && numZ n10 && _ && _ && _) = false; rw [n10_no.2]; simp
  · rw [own_2 (show (Tree.mk t.kind t.b n10 t.s t.k t.v).kind = 2 from hk)]; show (_ && numZ n10 && _ && _ && _) = false; rw [n10_no.2]; simp
  · rw [own_3 (show (Tree.mk t.kind t.b n10 t.s t.k t.v).kind = 3 from hk)]; show (_ && nokB n10 && _ && _ && _) = false; rw [n10_no.1]; simp
  · rw [own_4 (show (Tree.mk t.kind t.b n10 t.s t.k t.v).kind = 4 from hk)]; show (_ && numZ n10 && _ && _ && _) = false; rw [n10_no.2]; simp
  · rw [own_5 (show (Tree.mk t.kind t.b n10 t.s t.k t.v).kind = 5 from hk)]; show (_ && numZ n10 && _ && _ && _) = false; rw [n10_no.2]; simp
  · rw [own_6 (show (Tree.mk t.kind t.b n10 t.s t.k t.v).kind = 6 from hk)]; show (_ && numZ n10 && _ && _ && _) = false; rw [n10_no.2]; simp
  · rw [own_7 (show (Tree.mk t.kind t.b n10 t.s t.k t.v).kind = 7 from hk)]; show (_ && numZ n10 && _ && _ && _) = false; rw [n10_no.2]; simp
theorem no_own {t : Tree} (h : ownB t = false) : ¬ OkG t := fun q => by have := q.own; rw [h] at this; contradiction
theorem zero_own : ownB Tree.zero = false := by
  unfold ownB
  have hk : Tree.zero.kind = 0 := rfl
  rw [if_neg (by omega), if_neg (by omega), if_neg (by omega), if_neg (by omega), if_neg (by omega), if_neg (by omega), if_neg (by omega)]
theorem ff_no : textB [255] = false := by
  unfold textB textU
  have e : ud [255] 0 = (65533, 1) := by rw [ud_eq]; decide
  rw [okFrom, if_pos (by decide), e, if_pos ⟨rfl, rfl⟩]; rfl
theorem fields_law (l : List Int) (how : Int) : P0 f_law05_TreeFields [.v (.sl (ints l)), .v (.int .i64 how)] [] = some (.bool true, []) := by
  rw [eq_law05_TreeFields]; unfold F_law05_TreeFields
  by_cases hl : 60 < l.length
  · have d : decide (((l.length : Nat) : Int) > 60) = true := decide_eq_true (by omega)
    simp only [tick_eq, lenV_sl, ints_len, some_bind, d, if_true, awake05]
  have d : decide (((l.length : Nat) : Int) > 60) = false := decide_eq_false (by omega)
  obtain ⟨t, ht, hto, htb, _⟩ := Made_ok 4 (by decide) l
  have ht : P0 f_law00_Made [.v (.sl (ints l)), .v (.int .i64 4)] [] = some (t.val, []) := ht
  have hck := tCheck_t hto (Nat.le_trans (depth_bnd htb) (by decide)) (Nat.le_trans (nodes_bnd htb) (by decide))
  have hcp := ltree_ok t hto
  obtain ⟨w, hw1, hw2, _⟩ := placeN how 6 (by decide) (by decide)
  have hw1 : P0 f_law00_Place [.v (.int .i64 how), .v (.int .i64 6)] [] = some (.int .i64 (w : Int), []) := hw1
  have tt := hto.tame
  -- the six
  have k0' : P0 f_tree_Check [.v (.agg [.int .i64 1, .bool true, .bool false, .sl [], .int .i64 0, .str [], .sl [], .sl []])] [] = some (.bool false, []) := by
    have h := no_check (t := .mk 1 true .zero [] [] []) (tame_z (by simp) (fun x hx => by simp at hx)) (no_own (by rw [own_1 rfl]; rfl))
    rw [mk_val] at h; exact h
  have k1' : P0 f_tree_Check [.v (.agg [.int .i64 t.kind, .bool t.b, .bool false, .sl [.int .u32 10], .int .i64 0, .str t.s, .sl (strs t.k), .sl (trs t.v)])] [] = some (.bool false, []) := by
    have h := no_check (t := .mk t.kind t.b n10 t.s t.k t.v) (.mk _ ⟨fun x hx => by rw [List.mem_singleton.1 hx]; decide, by show [10].length ≤ _; decide, by have := hto.lens.1; show t.k.length ≤ _; omega⟩ (fun x hx => by cases tt with | mk _ _ hv => exact hv x hx)) (no_own (own_n10 hto))
    rw [mk_val] at h; exact h
  have k2' : P0 f_tree_Check [.v (.agg [.int .i64 6, .bool false, .bool false, .sl [], .int .i64 0, .str [], .sl [], .sl [t.val, .agg [.int .i64 0, .bool false, .bool false, .sl [], .int .i64 0, .str [], .sl [], .sl []]]])] [] = some (.bool false, []) := by
    have h := no_check (t := .mk 6 false .zero [] [] [t, Tree.zero]) (tame_z (by simp) (fun x hx => by
      simp only [List.mem_cons, List.mem_nil_iff, or_false] at hx
      rcases hx with rfl | rfl
      · exact tt
      · exact tame_z (by simp) (fun x hx => by simp at hx))) (fun q => no_own zero_own (q.sub _ (by simp [Tree.v])))
    rw [mk_val] at h
    exact h
  have k3' : P0 f_tree_Check [.v (.agg [.int .i64 7, .bool false, .bool false, .sl [], .int .i64 0, .str [], .sl [.str [98], .str [97]], .sl [t.val, t.val]])] [] = some (.bool false, []) := by
    have hnm : nmsB [[98], [97]] = false := nmsB_f (fun q => by
      have := (q.1 1 (by decide) (by decide)).2 (by decide)
      exact absurd this (by decide))
    have h := no_check (t := .mk 7 false .zero [] [[98], [97]] [t, t]) (tame_z (by decide) (fun x hx => by
      simp only [List.mem_cons, List.mem_nil_iff, or_false, or_self] at hx
      subst hx; exact tt)) (no_own (by rw [own_7 rfl]; show (_ && _ && _ && (nmsB [[98], [97]] && _) && _) = false; rw [hnm]; simp))
    rw [mk_val] at h; exact h
  have k4' : P0 f_tree_Check [.v (.agg [.int .i64 7, .bool false, .bool false, .sl [], .int .i64 0, .str [], .sl [.str [97]], .sl [t.val, t.val]])] [] = some (.bool false, []) := by
    have h := no_check (t := .mk 7 false .zero [] [[97]] [t, t]) (tame_z (by decide) (fun x hx => by
      simp only [List.mem_cons, List.mem_nil_iff, or_false, or_self] at hx
      subst hx; exact tt)) (no_own (by rw [own_7 rfl]; show (_ && _ && _ && (_ && false) && _) = false; simp))
    rw [mk_val] at h; exact h
  have k5' : P0 f_tree_Check [.v (.agg [.int .i64 4, .bool false, .bool false, .sl [], .int .i64 0, .str [255], .sl [], .sl []])] [] = some (.bool false, []) := by
    have h := no_check (t := .mk 4 false .zero [255] [] []) (tame_z (by simp) (fun x hx => by simp at hx)) (no_own (by rw [own_4 rfl]; show (_ && _ && textB [255] && _ && _) = false; rw [ff_no]; rfl))
    rw [mk_val] at h; exact h
  have hx15 : ∃ q : Bool, (if t.b = false then (fldV t.val 0).bind fun c13 => (binV .neq c13 (.int .i64 2)).bind fun x14 => some x14 else some (.bool true) : Option V) = some (.bool q) := by
    cases t.b with
    | true => exact ⟨true, rfl⟩
    | false => exact ⟨!decide (t.kind = 2), by simp only [tick_eq, if_true, fld0, some_bind, neq_i]⟩
  obtain ⟨q, hx15⟩ := hx15
  rcases (by omega : w = 0 ∨ w = 1 ∨ w = 2 ∨ w = 3 ∨ w = 4 ∨ w = 5) with rfl | rfl | rfl | rfl | rfl | rfl
  all_goals
    have e0 : ((0 : Nat) : Int) = 0 := rfl
    have e1 : ((1 : Nat) : Int) = 1 := rfl
    have e2 : ((2 : Nat) : Int) = 2 := rfl
    have e3 : ((3 : Nat) : Int) = 3 := rfl
    have e4 : ((4 : Nat) : Int) = 4 := rfl
    have e5 : ((5 : Nat) : Int) = 5 := rfl
    simp only [tick_eq, lenV_sl, ints_len, some_bind, d, Bool.false_eq_true, if_false, ht, okN_tree, tst_t, hck, not_b, Bool.not_true, asBool_b, hcp, hw1, eql_i, e0, e1, e2, e3, e4, e5, Int.reduceEq, decide_true, decide_false, if_true, fld0, fld1, fld2, fld3, fld4, fld5, fld6, fld7, hx15, okN_bool, fld_bool, vec_0, vec_s, k0', k1', k2', k3', k4', k5', Bool.not_false, awake05]
theorem pure_TreeFields {n0 n1 : Nat} {xs ys : List V} (hx : Ty Go.Proofs.Tryd.prog n0 35 xs) (hy : Ty Go.Proofs.Tryd.prog n1 3 ys) :
    P0 f_law05_TreeFields ([mkV Go.Proofs.Tryd.prog 35 xs, mkV Go.Proofs.Tryd.prog 3 ys].map .v) [] = some (.bool true, []) := by
  obtain ⟨l, el⟩ := ty_ints Go.Proofs.Tryd.underlying35 Go.Proofs.Tryd.underlying3 hx
  obtain ⟨y, _, ey⟩ := ty_int Go.Proofs.Tryd.underlying3 hy
  rw [el, ey]
  exact fields_law l y
end Go.Ev
