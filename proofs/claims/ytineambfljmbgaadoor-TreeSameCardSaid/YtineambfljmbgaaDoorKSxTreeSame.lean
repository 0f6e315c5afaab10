/- The law: a value is the same as its copy, and as no other one. -/
import Derived.Test.YtineambfljmbgaaDoorKSv8
import Derived.Test.YtineambfljmbgaaDoorKSv9
import Derived.Test.YtineambfljmbgaaDoorKSt9
import Derived.Test.YtineambfljmbgaaDoorRows
set_option linter.all false
namespace Go.Ev
attribute [local irreducible] P0
theorem okw1 {t : Tree} (h : OkT t) : w1 t ≤ 2001 := by
  have hn := (nm_u32 h.num_ok).2.2
  unfold w1
  split
  · omega
  · have hs : t.s.length ≤ 2000 := by cases h <;> first | assumption | simp [Tree.s, Ev.null, Ev.obj]
    split
    · omega
    · split <;> omega
theorem weight_nodes : ∀ t : Tree, OkT t → weight t ≤ 2001 * nodes t := by
  intro t
  induction t using Tree.ind with
  | h t ih =>
    intro h
    rw [weight_eq, nodes_eq]
    have : ∀ l : List Tree, (∀ x, x ∈ l → weight x ≤ 2001 * nodes x) → weightL l ≤ 2001 * nodesL l := by
      intro l
      induction l with
      | nil => intro _; simp [weightL, nodesL]
      | cons y r ihr =>
        intro hh
        have h1 := hh y List.mem_cons_self
        have h2 := ihr (fun x hx => hh x (List.mem_cons_of_mem _ hx))
        rw [weightL, nodesL]; omega
    have := this t.v (fun x hx => ih x hx (h.sub x hx))
    have := okw1 h
    omega
def pair (a b : Tree) : Tree := .mk 6 false .zero [] [] [a, b]
def sole (a : Tree) : Tree := .mk 6 false .zero [] [] [a]
def mem1 (n : Str) (a : Tree) : Tree := .mk 7 false .zero [] [n] [a]
theorem pair_ok {a b : Tree} (ha : OkT a) (hb : OkT b) : OkT (pair a b) := .arr [a, b] (by simp) (fun x hx => by
  simp only [List.mem_cons, List.mem_nil_iff, or_false] at hx
  rcases hx with rfl | rfl <;> assumption)
theorem sole_ok {a : Tree} (ha : OkT a) : OkT (sole a) := .arr [a] (by simp) (fun x hx => by rw [List.mem_singleton.1 hx]; exact ha)
theorem mem1_ok {n : Str} {a : Tree} (hn : (dec8 n).isSome = true ∧ n.length ≤ 2000) (ha : OkT a) : OkT (mem1 n a) :=
  .obj [(n, a)] ⟨by simp [names], trivial⟩ (by simp) (fun x hx => by rw [List.mem_singleton.1 (show x ∈ [n] from hx)]; exact hn) (fun q hq => by rw [List.mem_singleton.1 hq]; exact ha)
theorem mem1_ne (n : Str) (a : Tree) : mem1 n a ≠ a := fun e => by
  have h := congrArg nodes e
  have : nodes (mem1 n a) = 1 + nodes a := by show nodes (.mk 7 false .zero [] [n] [a]) = _; rw [nodes, nodesL, nodesL]; omega
  omega
theorem same_law (l k : List Int) : P0 f_law05_TreeSame [.v (.sl (ints l)), .v (.sl (ints k))] [] = some (.bool true, []) := by
  rw [eq_law05_TreeSame]; unfold F_law05_TreeSame
  by_cases hl : 60 < l.length
  · have d : decide (((l.length : Nat) : Int) > 60) = true := decide_eq_true (by omega)
    simp only [tick_eq, lenV_sl, ints_len, some_bind, d, Bool.true_eq_false, if_false, asBool_b, if_true, awake05]
  have d : decide (((l.length : Nat) : Int) > 60) = false := decide_eq_false (by omega)
  by_cases hk : 60 < k.length
  · have d2 : decide (((k.length : Nat) : Int) > 60) = true := decide_eq_true (by omega)
    simp only [tick_eq, lenV_sl, ints_len, some_bind, d, d2, asBool_b, if_true, awake05]
  have d2 : decide (((k.length : Nat) : Int) > 60) = false := decide_eq_false (by omega)
  obtain ⟨t, ht, hto, htb, _⟩ := Made_ok 4 (by decide) l
  obtain ⟨u, hu, huo, hub, _⟩ := Made_ok 4 (by decide) k
  have ht : P0 f_law00_Made [.v (.sl (ints l)), .v (.int .i64 4)] [] = some (t.val, []) := ht
  have hu : P0 f_law00_Made [.v (.sl (ints k)), .v (.int .i64 4)] [] = some (u.val, []) := hu
  have nt : nodes t ≤ 121 := Nat.le_trans (nodes_bnd htb) (by decide)
  have nu : nodes u ≤ 121 := Nat.le_trans (nodes_bnd hub) (by decide)
  have wt := weight_nodes t hto
  have wu := weight_nodes u huo
  have dt := depth_nodes t
  have du := depth_nodes u
  have hcp := ltree_ok t hto
  have S : ∀ {x y : Tree}, OkT x → OkT y → ∃ r, P0 f_tree_Same [.v x.val, .v y.val] [] = some (.bool r, []) ∧ (r = true ↔ x = y) := fun hx hy => tsame_ok _ hx.okG hx.tame _ hy.okG hy.tame
  have pv : ∀ x y : Tree, (pair x y).val = .agg [.int .i64 6, .bool false, .bool false, .sl [], .int .i64 0, .str [], .sl [], .sl [x.val, y.val]] := fun x y => by rw [pair, mk_val]; rfl
  have sv : ∀ x : Tree, (sole x).val = .agg [.int .i64 6, .bool false, .bool false, .sl [], .int .i64 0, .str [], .sl [], .sl [x.val]] := fun x => by rw [sole, mk_val]; rfl
  have mv : ∀ (n : Str) (x : Tree), (mem1 n x).val = .agg [.int .i64 7, .bool false, .bool false, .sl [], .int .i64 0, .str [], .sl [.str n], .sl [x.val]] := fun n x => by rw [mem1, mk_val]; rfl
  obtain ⟨r1, s1, q1⟩ := S hto hto
  obtain rfl := q1.2 rfl
  obtain ⟨r2, s2, q2⟩ := S (pair_ok hto huo) (pair_ok huo hto)
  obtain ⟨r3, s3, q3⟩ := S hto huo
  obtain ⟨r4, s4, q4⟩ := S huo hto
  have e24 : r2 = r3 := by
    have : r2 = true ↔ r3 = true := q2.trans (Iff.trans ⟨fun e => by
      have := congrArg Tree.v e
      exact (List.cons_eq_cons.1 (show [t, u] = [u, t] from this)).1, fun e => by rw [e]⟩ q3.symm)
    cases r2 <;> cases r3 <;> simp_all
  have e34 : r4 = r3 := by
    have : r4 = true ↔ r3 = true := q4.trans (Iff.trans ⟨fun e => e.symm, fun e => e.symm⟩ q3.symm)
    cases r4 <;> cases r3 <;> simp_all
  subst e24
  subst e34
  obtain ⟨r5, s5, q5⟩ := S (pair_ok hto huo) (sole_ok hto)
  have f5 : r5 = false := by
    cases r5 with
    | false => rfl
    | true =>
      have := congrArg Tree.v (q5.1 rfl)
      have := congrArg List.length (show [t, u] = [t] from this)
      simp at this
  subst f5
  have na : (dec8 ([97] : Str)).isSome = true ∧ ([97] : Str).length ≤ 2000 := by decide
  have nb' : (dec8 ([98] : Str)).isSome = true ∧ ([98] : Str).length ≤ 2000 := by decide
  obtain ⟨r6, s6, q6⟩ := S (mem1_ok na hto) (mem1_ok nb' hto)
  have f6 : r6 = false := by
    cases r6 with
    | false => rfl
    | true =>
      have := congrArg Tree.k (q6.1 rfl)
      exact absurd (show ([[97]] : List Str) = [[98]] from this) (by decide)
  subst f6
  obtain ⟨r7, s7, q7⟩ := S (mem1_ok na hto) hto
  have f7 : r7 = false := by
    cases r7 with
    | false => rfl
    | true => exact absurd (q7.1 rfl) (mem1_ne _ _)
  subst f7
  have wp : weight (pair t u) = 1 + weight t + weight u := by
    show weight (.mk 6 false .zero [] [] [t, u]) = _
    rw [weight, weightL, weightL, weightL]
    have : w1 (.mk 6 false .zero [] [] [t, u]) = 1 := rfl
    omega
  have np : nodes (pair t u) = 1 + nodes t + nodes u := by
    show nodes (.mk 6 false .zero [] [] [t, u]) = _
    rw [nodes, nodesL, nodesL, nodesL]; omega
  have nm : nodes (mem1 [97] t) = 1 + nodes t := by
    show nodes (.mk 7 false .zero [] [[97]] [t]) = _
    rw [nodes, nodesL, nodesL]; omega
  have dp : depth (pair t u) = 1 + max (depth t) (depth u) := by
    show depth (.mk 6 false .zero [] [] [t, u]) = _
    rw [depth, depthL, depthL, depthL]; omega
  have a1 := tweight_ok (pair t u) (by omega)
  have a2 := tweight_ok t (by omega)
  have a3 := tweight_ok u (by omega)
  have a4 := tnodes_ok (mem1 [97] t) (by omega)
  have a5 := tnodes_ok t (by omega)
  have a6 := tdepth_ok (pair t u) (by omega)
  have a7 := tdepth_ok t (by omega)
  have a8 := tdepth_ok u (by omega)
  rw [pv] at a1 a6
  rw [mv] at a4
  rw [pv, pv] at s2
  rw [pv, sv] at s5
  rw [mv, mv] at s6
  rw [mv] at s7
  have x1 : IntKind.i64.wrap (1 + ((weight t : Nat) : Int)) = ((1 + weight t : Nat) : Int) := by rw [w64 (a := 1 + ((weight t : Nat) : Int)) (by omega)]; omega
  have x2 : IntKind.i64.wrap (((1 + weight t : Nat) : Int) + ((weight u : Nat) : Int)) = ((weight (pair t u) : Nat) : Int) := by rw [w64 (a := ((1 + weight t : Nat) : Int) + ((weight u : Nat) : Int)) (by omega)]; omega
  have x3 : IntKind.i64.wrap (1 + ((nodes t : Nat) : Int)) = ((nodes (mem1 [97] t) : Nat) : Int) := by rw [w64 (a := 1 + ((nodes t : Nat) : Int)) (by omega)]; omega
  have x4 : IntKind.i64.wrap (1 + ((max (depth t) (depth u) : Nat) : Int)) = ((depth (pair t u) : Nat) : Int) := by rw [w64 (a := 1 + ((max (depth t) (depth u) : Nat) : Int)) (by omega)]; omega
  simp only [tick_eq, lenV_sl, ints_len, some_bind, d, d2, if_true, asBool_b, Bool.false_eq_true, if_false, ht, hu, okN_tree, tst_t, hcp, s1, s2, s3, s4, s5, s6, s7, beq_self_eq_true, not_b, Bool.not_false, a1, a2, a3, a4, a5, a6, a7, a8, add_i, x1, x2, x3, eql_i, decide_true, maxV_2, x4, awake05]
theorem pure_TreeSame {n0 n1 : Nat} {xs ys : List V} (hx : Ty Go.Proofs.Tryd.prog n0 35 xs) (hy : Ty Go.Proofs.Tryd.prog n1 35 ys) :
    P0 f_law05_TreeSame ([mkV Go.Proofs.Tryd.prog 35 xs, mkV Go.Proofs.Tryd.prog 35 ys].map .v) [] = some (.bool true, []) := by
  obtain ⟨l, el⟩ := ty_ints Go.Proofs.Tryd.underlying35 Go.Proofs.Tryd.underlying3 hx
  obtain ⟨k, ek⟩ := ty_ints Go.Proofs.Tryd.underlying35 Go.Proofs.Tryd.underlying3 hy
  rw [el, ek]
  exact same_law l k
end Go.Ev
