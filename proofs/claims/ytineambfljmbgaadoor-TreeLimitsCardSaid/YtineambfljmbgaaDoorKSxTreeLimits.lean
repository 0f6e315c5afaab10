/- The law: so deep, so many, so long. -/
import Derived.Test.YtineambfljmbgaaDoorKSv7
import Derived.Test.YtineambfljmbgaaDoorKSt9
import Derived.Test.YtineambfljmbgaaDoorRows
set_option linter.all false
namespace Go.Ev
attribute [local irreducible] P0
def nest : Nat → Tree
  | 0 => Ev.null
  | d + 1 => .mk 6 false .zero [] [] [nest d]
theorem nest_okG (d : Nat) : OkG (nest d) ∧ TameT (nest d) := by
  induction d with
  | zero => exact ⟨OkT.null.okG, OkT.null.tame⟩
  | succ d ih =>
    refine ⟨.mk _ ?_ (fun x hx => ?_), .mk _ ⟨fun x hx => by simp [nest, Tree.n, Nm.zero] at hx, by simp [nest, Tree.n, Nm.zero], by simp [nest, Tree.k]⟩ (fun x hx => ?_)⟩
    · rw [own_6 rfl, k0_nil rfl]; rfl
    · obtain rfl := List.mem_singleton.1 (show x ∈ [nest d] from hx); exact ih.1
    · obtain rfl := List.mem_singleton.1 (show x ∈ [nest d] from hx); exact ih.2
theorem nest_depth (d : Nat) : depth (nest d) = d + 1 ∧ nodes (nest d) = d + 1 := by
  induction d with
  | zero => exact ⟨rfl, rfl⟩
  | succ d ih =>
    constructor
    · show depth (.mk 6 false .zero [] [] [nest d]) = _
      rw [depth, depthL, depthL, ih.1]; omega
    · show nodes (.mk 6 false .zero [] [] [nest d]) = _
      rw [nodes, nodesL, nodesL, ih.2]; omega
theorem nest_loop (p : List V) (d : Nat) (hd : d ≤ 1000) (m : Nat) : ∀ i, i + m = d →
    ∃ a b c e f g h k, (nest i).val = .agg [a, b, c, e, f, g, h, k] ∧ loopL (L_law05_TreeLimits_1 (.int .i64 (d : Int), p)) (vec [.int .i64 (i : Int), a, b, c, e, f, g, h, k]) = some (0, vec [(nest d).val]) := by
  induction m with
  | zero =>
    intro i hi
    obtain rfl : i = d := by omega
    refine ⟨_, _, _, _, _, _, _, _, (nest i).val_eq, loopL_inr ?_⟩
    unfold L_law05_TreeLimits_1
    simp only [tick_eq, vec_0, vec_s, lss_i, Int.lt_irrefl, decide_false, some_bind, asBool_b, Bool.false_eq_true, if_false, ← Tree.val_eq]
  | succ m ih =>
    intro i hi
    obtain ⟨a, b, c, e, f, g, h, k, h1, h2⟩ := ih (i + 1) (by omega)
    refine ⟨_, _, _, _, _, _, _, _, (nest i).val_eq, ?_⟩
    rw [← h2]
    apply loopL_inl
    unfold L_law05_TreeLimits_1
    have c1 : (i : Int) < (d : Int) := by omega
    have hv : (nest (i + 1)).val = .agg [.int .i64 6, .bool false, .bool false, .sl [], .int .i64 0, .str [], .sl [], .sl [(nest i).val]] := by
      show (Tree.mk 6 false .zero [] [] [nest i]).val = _
      rw [mk_val]; rfl
    rw [hv] at h1
    simp only [V.agg.injEq, List.cons.injEq, and_true] at h1
    obtain ⟨rfl, rfl, rfl, rfl, rfl, rfl, rfl, rfl⟩ := h1
    simp only [tick_eq, vec_0, vec_s, lss_i, c1, decide_true, some_bind, asBool_b, if_true, ← Tree.val_eq, okN_tree, tst_t, add_i, i64_succ (i := i) (by omega)]
def wide (w : Nat) : Tree := .mk 6 false .zero [] [] (List.replicate w bT)
theorem wide_loop (p : List V) (w : Nat) (hw : w ≤ 1000) (m : Nat) : ∀ i, i + m = w →
    loopL (L_law05_TreeLimits_2 (.int .i64 (w : Int), p)) (vec [.int .i64 (i : Int), .int .i64 6, .bool false, .bool false, .sl [], .int .i64 0, .str [], .sl [], .sl (trs (List.replicate i bT))]) = some (0, vec [.int .i64 6, .bool false, .bool false, .sl [], .int .i64 0, .str [], .sl [], .sl (trs (List.replicate w bT))]) := by
  induction m with
  | zero =>
    intro i hi
    obtain rfl : i = w := by omega
    apply loopL_inr
    unfold L_law05_TreeLimits_2
    simp only [tick_eq, vec_0, vec_s, lss_i, Int.lt_irrefl, decide_false, some_bind, asBool_b, Bool.false_eq_true, if_false, elems_sl]
  | succ m ih =>
    intro i hi
    rw [← ih (i + 1) (by omega)]
    apply loopL_inl
    unfold L_law05_TreeLimits_2
    have c1 : (i : Int) < (w : Int) := by omega
    have e : trs (List.replicate i bT) ++ [bT.val] = trs (List.replicate (i + 1) bT) := by rw [trs_1, List.replicate_succ']
    rw [bT_val] at e
    have hl : (trs (List.replicate i bT)).length = i := by rw [trs_len, List.length_replicate]
    have z : szOk 8 [(.agg [(.int .i64 2), (.bool true), (.bool false), (.sl []), (.int .i64 0), (.str []), (.sl []), (.sl [])] : V)] = true := rfl
    simp only [tick_eq, vec_0, vec_s, lss_i, c1, decide_true, some_bind, asBool_b, if_true, z, tst_t, elems_sl, hl, len1, app_ok 120 i 1 (by omega) (by omega), add_i, i64_succ (i := i) (by omega), e]
theorem wide_facts (w : Nat) (hw : w ≤ 1000) : TameT (wide w) ∧ (OkG (wide w) ↔ w ≤ 300) ∧ depth (wide w) ≤ 2 ∧ nodes (wide w) = w + 1 ∧ weight (wide w) = w + 1 := by
  have hb : OkT bT := .bool true
  refine ⟨.mk _ ⟨fun x hx => by simp [wide, Tree.n, Nm.zero] at hx, by simp [wide, Tree.n, Nm.zero], by simp [wide, Tree.k]⟩ (fun x hx => ?_), ?_, ?_, ?_, ?_⟩
  · rw [List.eq_of_mem_replicate (show x ∈ List.replicate w bT from hx)]; exact hb.tame
  · have ho : ownB (wide w) = decide (w ≤ 300) := by
      rw [own_6 rfl, k0_nil rfl]
      show (true && decide ((List.replicate w bT).length ≤ 300)) = _
      rw [List.length_replicate, Bool.true_and]
    constructor
    · intro h; have := h.own; rw [ho, decide_eq_true_eq] at this; exact this
    · intro h
      exact .mk _ (by rw [ho]; exact decide_eq_true h) (fun x hx => by rw [List.eq_of_mem_replicate (show x ∈ List.replicate w bT from hx)]; exact hb.okG)
  · rw [depth_eq]
    show 1 + depthL (List.replicate w bT) ≤ 2
    have : depthL (List.replicate w bT) ≤ 1 := by
      induction w with
      | zero => simp [depthL]
      | succ w ih => rw [List.replicate_succ, depthL]; have := ih (by omega); have e : depth bT = 1 := rfl; omega
    omega
  · rw [nodes_eq]
    show 1 + nodesL (List.replicate w bT) = _
    have : nodesL (List.replicate w bT) = w := by
      induction w with
      | zero => rfl
      | succ w ih => rw [List.replicate_succ, nodesL, ih (by omega)]; have e : nodes bT = 1 := rfl; omega
    omega
  · rw [weight_eq]
    show 1 + weightL (List.replicate w bT) = _
    have : weightL (List.replicate w bT) = w := by
      induction w with
      | zero => rfl
      | succ w ih => rw [List.replicate_succ, weightL, ih (by omega)]; have e : weight bT = 1 := rfl; omega
    omega
def long (l : Nat) : Tree := .mk 4 false .zero (List.replicate l 0) [] []
theorem dec8_zeros (l : Nat) : (dec8 (List.replicate l 0)).isSome = true := by
  induction l with
  | zero => rfl
  | succ l ih =>
    rw [List.replicate_succ, dec8.eq_3 _ _ (by intro r h; simp at h)]
    rw [if_pos (by decide)]
    simpa using ih
theorem long_okG (l : Nat) : TameT (long l) ∧ (OkG (long l) ↔ l ≤ 2000) := by
  refine ⟨.mk _ ⟨fun x hx => by simp [long, Tree.n, Nm.zero] at hx, by simp [long, Tree.n, Nm.zero], by simp [long, Tree.k]⟩ (fun x hx => by simp [long, Tree.v] at hx), ?_⟩
  have ho : ownB (long l) = textB (List.replicate l 0) := by
    rw [own_4 rfl, k0_nil rfl, v0_nil rfl]
    show (true && textB (List.replicate l 0) && true && true) = _
    rw [Bool.true_and, Bool.and_true, Bool.and_true]
  have ht : textB (List.replicate l 0) = decide (l ≤ 2000) := by
    unfold textB
    rw [textU_8 (dec8_zeros l), List.length_replicate, Bool.and_true]
  constructor
  · intro h; have := h.own; rw [ho, ht, decide_eq_true_eq] at this; exact this
  · intro h; exact .mk _ (by rw [ho, ht]; exact decide_eq_true h) (fun x hx => by simp [long, Tree.v] at hx)
theorem asBytes_zeros (l : Nat) : asBytesV (List.replicate l (.int .u8 0)) = some (List.replicate l 0) := by
  induction l with
  | zero => rfl
  | succ l ih => rw [List.replicate_succ, asBytesV, ih]; rfl
theorem limits_ok (n k m : Int) : P0 f_law05_TreeLimits [.v (.int .i64 n), .v (.int .i64 k), .v (.int .i64 m)] [] = some (.bool true, []) := by
  obtain ⟨d, hd1, hd2, _⟩ := placeN n 80 (by decide) (by decide)
  obtain ⟨w, hw1, hw2, _⟩ := placeN k 320 (by decide) (by decide)
  obtain ⟨l, hl1, hl2, _⟩ := placeN m 2100 (by decide) (by decide)
  have hd1 : P0 f_law00_Place [.v (.int .i64 n), .v (.int .i64 80)] [] = some (.int .i64 (d : Int), []) := hd1
  have hw1 : P0 f_law00_Place [.v (.int .i64 k), .v (.int .i64 320)] [] = some (.int .i64 (w : Int), []) := hw1
  have hl1 : P0 f_law00_Place [.v (.int .i64 m), .v (.int .i64 2100)] [] = some (.int .i64 (l : Int), []) := hl1
  obtain ⟨a, b, c, e, f, g, h, kk, h1, h2⟩ := nest_loop [] d (by omega) d 0 (by omega)
  rw [show nest 0 = Ev.null from rfl, null_val] at h1
  simp only [V.agg.injEq, List.cons.injEq, and_true] at h1
  obtain ⟨rfl, rfl, rfl, rfl, rfl, rfl, rfl, rfl⟩ := h1
  rw [show ((0 : Nat) : Int) = 0 from rfl] at h2
  have h3 := wide_loop [] w (by omega) w 0 (by omega)
  have h3 : loopL (L_law05_TreeLimits_2 (.int .i64 (w : Int), [])) (vec [.int .i64 0, .int .i64 6, .bool false, .bool false, .sl [], .int .i64 0, .str [], .sl [], .sl []]) = some (0, vec [.int .i64 6, .bool false, .bool false, .sl [], .int .i64 0, .str [], .sl [], .sl (trs (List.replicate w bT))]) := h3
  have hwv : (wide w).val = .agg [.int .i64 6, .bool false, .bool false, .sl [], .int .i64 0, .str [], .sl [], .sl (trs (List.replicate w bT))] := by rw [wide, mk_val]; rfl
  have hlv : (long l).val = .agg [.int .i64 4, .bool false, .bool false, .sl [], .int .i64 0, .str (List.replicate l 0), .sl [], .sl []] := by rw [long, mk_val]; rfl
  obtain ⟨n1, n2⟩ := nest_okG d
  obtain ⟨n3, n4⟩ := nest_depth d
  obtain ⟨w1', w2', w3', w4', w5'⟩ := wide_facts w (by omega)
  obtain ⟨l1', l2'⟩ := long_okG l
  obtain ⟨b1, c1, i1⟩ := tCheck_ok (nest d) n2
  have i1 : b1 = decide (d < 64) := by
    have : b1 = true ↔ d < 64 := i1.trans ⟨fun q => by have := q.2.1; omega, fun q => ⟨n1, by omega, by omega⟩⟩
    cases b1 with
    | true => exact (decide_eq_true (this.1 rfl)).symm
    | false => exact (decide_eq_false (fun q => by have := this.2 q; contradiction)).symm
  obtain ⟨b2, c2, i2⟩ := tCheck_ok (wide w) w1'
  have i2 : b2 = decide (w ≤ 300) := by
    have : b2 = true ↔ w ≤ 300 := i2.trans ⟨fun q => w2'.1 q.1, fun q => ⟨w2'.2 q, by omega, by omega⟩⟩
    cases b2 with
    | true => exact (decide_eq_true (this.1 rfl)).symm
    | false => exact (decide_eq_false (fun q => by have := this.2 q; contradiction)).symm
  obtain ⟨b3, c3, i3⟩ := tCheck_ok (long l) l1'
  have i3 : b3 = decide (l ≤ 2000) := by
    have : b3 = true ↔ l ≤ 2000 := i3.trans ⟨fun q => l2'.1 q.1, fun q => ⟨l2'.2 q, by rw [depth_eq]; show 1 + depthL [] ≤ 64; rw [depthL]; omega, by rw [nodes_eq]; show 1 + nodesL [] ≤ 2000; rw [nodesL]; omega⟩⟩
    cases b3 with
    | true => exact (decide_eq_true (this.1 rfl)).symm
    | false => exact (decide_eq_false (fun q => by have := this.2 q; contradiction)).symm
  rw [hwv] at c2
  rw [hlv] at c3
  have hdep := tdepth_ok (nest d) (by omega)
  have hwt := tweight_ok (wide w) (by omega)
  rw [hwv] at hwt
  have dd : decide ((d : Int) < 64) = decide (d < 64) := by
    by_cases q : d < 64
    · rw [decide_eq_true q, decide_eq_true (by omega)]
    · rw [decide_eq_false q, decide_eq_false (by omega)]
  have dw : decide ((w : Int) ≤ 300) = decide (w ≤ 300) := by
    by_cases q : w ≤ 300
    · rw [decide_eq_true q, decide_eq_true (by omega)]
    · rw [decide_eq_false q, decide_eq_false (by omega)]
  have dl : decide ((l : Int) ≤ 2000) = decide (l ≤ 2000) := by
    by_cases q : l ≤ 2000
    · rw [decide_eq_true q, decide_eq_true (by omega)]
    · rw [decide_eq_false q, decide_eq_false (by omega)]
  have hmk : mksV 1 (.int .i64 (l : Int)) (.int .i64 (l : Int)) = some (l, l) := mks_n 1 l (by omega) (by omega)
  have hz : ((List.replicate l (V.int .u8 0)).drop 0).take l = List.replicate l (.int .u8 0) := by rw [List.drop_zero]; exact List.take_of_length_le (by rw [List.length_replicate]; omega)
  rw [eq_law05_TreeLimits]; unfold F_law05_TreeLimits
  simp only [tick_eq, hd1, hw1, hl1, some_bind, h2, h3, hmk, hz, asBytes_zeros, vec_0, vec_s, c1, i1, lss_i, dd, asBool_b, beq_self_eq_true, if_true, hdep, n3, add_i, i64_succ (i := d) (by omega), eql_i, decide_true, elems_sl, c2, i2, leq_i, dw, hwt, w5', i64_succ (i := w) (by omega), c3, i3, dl, awake05]
theorem pure_TreeLimits {n0 n1 n2 : Nat} {xs ys zs : List V} (hx : Ty Go.Proofs.Tryd.prog n0 3 xs) (hy : Ty Go.Proofs.Tryd.prog n1 3 ys) (hz : Ty Go.Proofs.Tryd.prog n2 3 zs) :
    P0 f_law05_TreeLimits ([mkV Go.Proofs.Tryd.prog 3 xs, mkV Go.Proofs.Tryd.prog 3 ys, mkV Go.Proofs.Tryd.prog 3 zs].map .v) [] = some (.bool true, []) := by
  obtain ⟨x, _, ex⟩ := ty_int Go.Proofs.Tryd.underlying3 hx
  obtain ⟨y, _, ey⟩ := ty_int Go.Proofs.Tryd.underlying3 hy
  obtain ⟨z, _, ez⟩ := ty_int Go.Proofs.Tryd.underlying3 hz
  rw [ex, ey, ez]
  exact limits_ok x y z
end Go.Ev
