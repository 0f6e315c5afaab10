/- Values and plain facts that the specifications lean on. -/
import Derived.Test.YtppkffipolncbaaKEvD
import Derived.IntWalk
import Derived.Laws.BitsAllLaws
import Derived.Laws.BitsLemmas
set_option linter.all false
section
namespace Go.Ev

abbrev Str := List UInt8
structure Nm where
  neg : Bool
  m : List Nat
  e : Int
inductive Tree where
  | mk (kind : Int) (b : Bool) (n : Nm) (s : Str) (k : List Str) (v : List Tree)

def strs (l : List Str) : List V := l.map .str
def limbs (l : List Nat) : List V := l.map fun (x : Nat) => V.int .u32 (x : Int)
def ints (l : List Int) : List V := l.map (.int .i64)
def Nm.val (n : Nm) : V := .agg [.bool n.neg, .sl (limbs n.m), .int .i64 n.e]
mutual
def Tree.val : Tree → V
  | .mk kind b n s k v => .agg [.int .i64 kind, .bool b, .bool n.neg, .sl (limbs n.m), .int .i64 n.e, .str s, .sl (strs k), .sl (vals v)]
def vals : List Tree → List V
  | [] => []
  | t :: r => t.val :: vals r
end
theorem vals_map (l : List Tree) : vals l = l.map Tree.val := by induction l <;> simp_all [vals]
def trs (l : List Tree) : List V := l.map Tree.val
def Tree.kind : Tree → Int | .mk k _ _ _ _ _ => k
def Tree.b : Tree → Bool | .mk _ b _ _ _ _ => b
def Tree.n : Tree → Nm | .mk _ _ n _ _ _ => n
def Tree.s : Tree → Str | .mk _ _ _ s _ _ => s
def Tree.k : Tree → List Str | .mk _ _ _ _ k _ => k
def Tree.v : Tree → List Tree | .mk _ _ _ _ _ v => v
theorem Tree.val_eq (t : Tree) : t.val = .agg [.int .i64 t.kind, .bool t.b, .bool t.n.neg, .sl (limbs t.n.m), .int .i64 t.n.e, .str t.s, .sl (strs t.k), .sl (trs t.v)] := by
  cases t; simp [Tree.val, vals_map, trs, kind, b, n, s, k, v]
def Nm.zero : Nm := ⟨false, [], 0⟩
def Tree.zero : Tree := .mk 0 false .zero [] [] []

/- no 'rfl' here: simp is to lay down each step, so that the kernel need not run what follows -/
theorem some_bind {α β : Type} (a : α) (f : α → Option β) : (some a).bind f = f a := by rw [Option.bind_some]
theorem tst_t {ρ : Type} (k : Option ρ) : tst true k = k := by unfold tst; split <;> simp_all
/- simp looks at the head alone: what follows waits until its turn (tick: a premise that simp always turns, so that the law is always taken) -/
def tick : Prop := True
@[simp] theorem tick_eq : tick = True := propext ⟨fun _ => trivial, fun _ => trivial⟩
@[congr] theorem bind_head {α β : Type} {x y : Option α} {f : α → Option β} {p : Prop} (_ : tick = p) (h : x = y) : x.bind f = y.bind f := by rw [h]
@[congr] theorem tst_head {ρ : Type} {b c : Bool} {k : Option ρ} {p : Prop} (_ : tick = p) (h : b = c) : tst b k = tst c k := by rw [h]
@[congr] theorem ite_head {α : Sort _} {c d : Prop} {s : Decidable c} [Decidable d] {a b : α} {p : Prop} (_ : tick = p) (h : c = d) : ite c a b = ite d a b := by subst h; congr
def Yes {α : Type} (x : Option α) (r : α) : Prop := x = some r
@[simp] theorem Yes_some {α : Type} (a b : α) : Yes (some a) b ↔ a = b := by simp [Yes]
theorem yes {α : Type} {x : Option α} {r : α} (h : Yes x r) : x = some r := h
theorem asBool_b (b : Bool) : asBool (.bool b) = some b := rfl
theorem asStr_s (s : Str) : asStr (.str s) = some s := rfl
theorem okN_int (k : IntKind) (n : Int) : okN 1 (.int k n) = true := rfl
theorem okN_bool (b : Bool) : okN 1 (.bool b) = true := rfl
theorem okN_str (s : Str) : okN 1 (.str s) = true := rfl
theorem okN_sl (l : List V) : okN 1 (.sl l) = true := rfl
theorem okN_nm (n : Nm) : okN 3 n.val = true := rfl
theorem okN_num (a b c : V) : okN 3 (.agg [a, b, c]) = (a.one && (b.one && (c.one && true))) := rfl
theorem okN_tr (a b c d e f g h : V) : okN 8 (.agg [a, b, c, d, e, f, g, h]) = (a.one && (b.one && (c.one && (d.one && (e.one && (f.one && (g.one && (h.one && true)))))))) := rfl
theorem one_int (k : IntKind) (n : Int) : (V.int k n).one = true := rfl
theorem one_bool (b : Bool) : (V.bool b).one = true := rfl
theorem one_str (s : Str) : (V.str s).one = true := rfl
theorem one_sl (l : List V) : (V.sl l).one = true := rfl
theorem okN_tree (t : Tree) : okN 8 t.val = true := by rw [t.val_eq]; rfl
theorem szOk_trs (l : List Tree) : szOk 8 (trs l) = true := by
  induction l with
  | nil => rfl
  | cons t r ih => show szOk 8 (t.val :: trs r) = true; simp [szOk, okN_tree, ih]
theorem szOk_strs (l : List Str) : szOk 1 (strs l) = true := by
  induction l with
  | nil => rfl
  | cons t r ih => show szOk 1 (.str t :: strs r) = true; simp [szOk, okN_str, ih]
theorem szOk_limbs (l : List Nat) : szOk 1 (limbs l) = true := by
  induction l with
  | nil => rfl
  | cons t r ih => show szOk 1 (.int .u32 t :: limbs r) = true; simp [szOk, okN_int, ih]
theorem szOk_ints (l : List Int) : szOk 1 (ints l) = true := by
  induction l with
  | nil => rfl
  | cons t r ih => show szOk 1 (.int .i64 t :: ints r) = true; simp [szOk, okN_int, ih]
theorem asSl_trs (l : List Tree) : asSl 8 (.sl (trs l)) = some (trs l) := by unfold asSl; simp only [szOk_trs]
theorem asSl_strs (l : List Str) : asSl 1 (.sl (strs l)) = some (strs l) := by unfold asSl; simp only [szOk_strs]
theorem asSl_limbs (l : List Nat) : asSl 1 (.sl (limbs l)) = some (limbs l) := by unfold asSl; simp only [szOk_limbs]
theorem asSl_ints (l : List Int) : asSl 1 (.sl (ints l)) = some (ints l) := by unfold asSl; simp only [szOk_ints]
theorem asSl_nil (n : Nat) : asSl n (.sl []) = some [] := rfl
theorem asEl_trs (l : List Tree) : asEl 8 (.sl (trs l)) = some (trs l) := asSl_trs l
theorem asEl_strs (l : List Str) : asEl 1 (.sl (strs l)) = some (strs l) := asSl_strs l
theorem asEl_limbs (l : List Nat) : asEl 1 (.sl (limbs l)) = some (limbs l) := asSl_limbs l
theorem asEl_ints (l : List Int) : asEl 1 (.sl (ints l)) = some (ints l) := asSl_ints l
theorem fld_nm0 (n : Nm) : fldV n.val 0 = some (.bool n.neg) := rfl
theorem fld_nm1 (n : Nm) : fldV n.val 1 = some (.sl (limbs n.m)) := rfl
theorem fld_nm2 (n : Nm) : fldV n.val 2 = some (.int .i64 n.e) := rfl
theorem fld0 (t : Tree) : fldV t.val 0 = some (.int .i64 t.kind) := by rw [t.val_eq]; rfl
theorem fld1 (t : Tree) : fldV t.val 1 = some (.bool t.b) := by rw [t.val_eq]; rfl
theorem fld2 (t : Tree) : fldV t.val 2 = some (.bool t.n.neg) := by rw [t.val_eq]; rfl
theorem fld3 (t : Tree) : fldV t.val 3 = some (.sl (limbs t.n.m)) := by rw [t.val_eq]; rfl
theorem fld4 (t : Tree) : fldV t.val 4 = some (.int .i64 t.n.e) := by rw [t.val_eq]; rfl
theorem fld5 (t : Tree) : fldV t.val 5 = some (.str t.s) := by rw [t.val_eq]; rfl
theorem fld6 (t : Tree) : fldV t.val 6 = some (.sl (strs t.k)) := by rw [t.val_eq]; rfl
theorem fld7 (t : Tree) : fldV t.val 7 = some (.sl (trs t.v)) := by rw [t.val_eq]; rfl
theorem fld_agg (l : List V) (i : Nat) : fldV (.agg l) i = l[i]? := rfl
theorem fld_str (s : Str) : fldV (.str s) 0 = some (.str s) := rfl
theorem fld_int (k : IntKind) (n : Int) : fldV (.int k n) 0 = some (.int k n) := rfl
theorem fld_bool (b : Bool) : fldV (.bool b) 0 = some (.bool b) := rfl
theorem fld_sl (l : List V) : fldV (.sl l) 0 = some (.sl l) := rfl
theorem lenV_sl (l : List V) : lenV (.sl l) = some l.length := rfl
theorem elems_sl (l : List V) : V.elems (.sl l) = l := rfl
theorem strs_len (l : List Str) : (strs l).length = l.length := by simp [strs]
theorem limbs_len (l : List Nat) : (limbs l).length = l.length := by simp [limbs]
theorem ints_len (l : List Int) : (ints l).length = l.length := by simp [ints]
theorem trs_len (l : List Tree) : (trs l).length = l.length := by simp [trs]
theorem strs_get (l : List Str) (i : Nat) : (strs l)[i]? = l[i]?.map .str := by simp [strs]
theorem limbs_get (l : List Nat) (i : Nat) : (limbs l)[i]? = l[i]?.map (fun (x : Nat) => V.int .u32 (x : Int)) := by simp [limbs]
theorem ints_get (l : List Int) (i : Nat) : (ints l)[i]? = l[i]?.map (.int .i64) := by simp [ints]
theorem trs_get (l : List Tree) (i : Nat) : (trs l)[i]? = l[i]?.map Tree.val := by simp [trs]
theorem strs_gete (l : List Str) (i : Nat) (h : i < (strs l).length) : (strs l)[i] = .str (l[i]'(by simpa [strs] using h)) := by simp [strs]
theorem limbs_gete (l : List Nat) (i : Nat) (h : i < (limbs l).length) : (limbs l)[i] = .int .u32 ((l[i]'(by simpa [limbs] using h) : Nat) : Int) := by simp [limbs]
theorem ints_gete (l : List Int) (i : Nat) (h : i < (ints l).length) : (ints l)[i] = .int .i64 (l[i]'(by simpa [ints] using h)) := by simp [ints]
theorem trs_gete (l : List Tree) (i : Nat) (h : i < (trs l).length) : (trs l)[i] = (l[i]'(by simpa [trs] using h)).val := by simp [trs]
theorem strs_drop (l : List Str) (i : Nat) : (strs l).drop i = strs (l.drop i) := by simp [strs, List.map_drop]
theorem limbs_drop (l : List Nat) (i : Nat) : (limbs l).drop i = limbs (l.drop i) := by simp [limbs, List.map_drop]
theorem ints_drop (l : List Int) (i : Nat) : (ints l).drop i = ints (l.drop i) := by simp [ints, List.map_drop]
theorem trs_drop (l : List Tree) (i : Nat) : (trs l).drop i = trs (l.drop i) := by simp [trs, List.map_drop]
theorem strs_take (l : List Str) (i : Nat) : (strs l).take i = strs (l.take i) := by simp [strs, List.map_take]
theorem limbs_take (l : List Nat) (i : Nat) : (limbs l).take i = limbs (l.take i) := by simp [limbs, List.map_take]
theorem ints_take (l : List Int) (i : Nat) : (ints l).take i = ints (l.take i) := by simp [ints, List.map_take]
theorem trs_take (l : List Tree) (i : Nat) : (trs l).take i = trs (l.take i) := by simp [trs, List.map_take]
theorem strs_app (l r : List Str) : strs l ++ strs r = strs (l ++ r) := by simp [strs]
theorem limbs_app (l r : List Nat) : limbs l ++ limbs r = limbs (l ++ r) := by simp [limbs]
theorem trs_app (l r : List Tree) : trs l ++ trs r = trs (l ++ r) := by simp [trs]
theorem strs_set (l : List Str) (i : Nat) (x : Str) : (strs l).set i (.str x) = strs (l.set i x) := by simp [strs, List.map_set]
theorem limbs_set (l : List Nat) (i : Nat) (x : Nat) : (limbs l).set i (.int .u32 (x : Int)) = limbs (l.set i x) := by simp [limbs, List.map_set]
theorem trs_set (l : List Tree) (i : Nat) (x : Tree) : (trs l).set i x.val = trs (l.set i x) := by simp [trs, List.map_set]
section
variable (k : IntKind) (a b : Int)
theorem eql_i : binV .eql (.int k a) (.int k b) = some (.bool (decide (a = b))) := by simp [binV, intV, Bool.beq_eq_decide_eq]
theorem neq_i : binV .neq (.int k a) (.int k b) = some (.bool (!decide (a = b))) := by
  simp only [binV, intV, isShift, decide_true, Bool.or_true, if_pos, bne]; congr 2
theorem lss_i : binV .lss (.int k a) (.int k b) = some (.bool (decide (a < b))) := by simp [binV, intV]
theorem leq_i : binV .leq (.int k a) (.int k b) = some (.bool (decide (a ≤ b))) := by simp [binV, intV]
theorem gtr_i : binV .gtr (.int k a) (.int k b) = some (.bool (decide (b < a))) := by simp [binV, intV]
theorem geq_i : binV .geq (.int k a) (.int k b) = some (.bool (decide (b ≤ a))) := by simp [binV, intV]
theorem add_i : binV .add (.int k a) (.int k b) = some (.int k (k.wrap (a + b))) := by simp [binV, intV]
theorem sub_i : binV .sub (.int k a) (.int k b) = some (.int k (k.wrap (a - b))) := by simp [binV, intV]
theorem mul_i : binV .mul (.int k a) (.int k b) = some (.int k (k.wrap (a * b))) := by simp [binV, intV]
theorem rem_i (h : b ≠ 0) : binV .rem (.int k a) (.int k b) = some (.int k (a.tmod b)) := by simp [binV, intV, h]
theorem shl_i (k' : IntKind) (h : 0 ≤ b) : binV .shl (.int k a) (.int k' b) = some (.int k (k.wrap (a * 2 ^ Nat.min b.toNat k.bits))) := by
  have : ¬ b < 0 := by omega
  simp [binV, intV, isShift, this]
theorem shr_i (k' : IntKind) (h : 0 ≤ b) : binV .shr (.int k a) (.int k' b) = some (.int k (a.fdiv (2 ^ Nat.min b.toNat k.bits))) := by
  have : ¬ b < 0 := by omega
  simp [binV, intV, isShift, this]
theorem cvi_i (k' : IntKind) : cviV k (.int k' a) = some (.int k (k.wrap a)) := rfl
theorem neg_i : unV .neg (.int k a) = some (.int k (k.wrap (0 - a))) := rfl
end
theorem w64 {a : Int} (h : -9223372036854775808 ≤ a ∧ a ≤ 9223372036854775807) : IntKind.i64.wrap a = a := IntWalk.i64_in a h
theorem wu64 {a : Int} (h : 0 ≤ a ∧ a ≤ 18446744073709551615) : IntKind.u64.wrap a = a := IntWalk.u64_in a h
theorem eql_s (a b : Str) : binV .eql (.str a) (.str b) = some (.bool (a == b)) := rfl
theorem neq_s (a b : Str) : binV .neq (.str a) (.str b) = some (.bool (!(a == b))) := rfl
theorem lss_s (a b : Str) : binV .lss (.str a) (.str b) = some (.bool (Op.bytesLess a b)) := rfl
theorem leq_s (a b : Str) : binV .leq (.str a) (.str b) = some (.bool (Op.bytesLess a b || a == b)) := rfl
theorem gtr_s (a b : Str) : binV .gtr (.str a) (.str b) = some (.bool !(Op.bytesLess a b || a == b)) := rfl
theorem geq_s (a b : Str) : binV .geq (.str a) (.str b) = some (.bool !(Op.bytesLess a b)) := rfl
theorem not_b (b : Bool) : unV .not (.bool b) = some (.bool !b) := rfl
theorem idx_i (k : IntKind) (i : Int) (n : Nat) (h : 0 ≤ i ∧ i < n) : idxV (.int k i) n = some i.toNat := if_pos h
theorem idx_nat (k : IntKind) (i n : Nat) (h : i < n) : idxV (.int k (i : Int)) n = some i := by
  rw [idx_i _ _ _ ⟨Int.natCast_nonneg i, by exact_mod_cast h⟩]; simp
theorem ext_tup (xs : List V) (i : Nat) : extV (.tup xs) i = xs[i]? := rfl
theorem bnd_to (k : IntKind) (i : Int) (n : Nat) (h : 0 ≤ i ∧ i ≤ n) : bnd2 none (some (.int k i)) n = some (0, i.toNat) := by
  obtain ⟨h1, h2⟩ := h
  obtain ⟨j, rfl⟩ := Int.eq_ofNat_of_zero_le h1
  have : j ≤ n := by exact_mod_cast h2
  simp [bnd2, bndV, this]
theorem app_ok (bytes n m : Nat) (h : (n + m) * bytes ≤ 140737488355328) (h2 : n + m ≤ 140737488355328) : appOk bytes n m = true := by unfold appOk; rw [decide_eq_true h, decide_eq_true h2]; rfl
theorem vec_0 (x : V) (l : List V) : vec (x :: l) 0 = x := rfl
theorem vec_s (x : V) (l : List V) (i : Nat) : vec (x :: l) (i + 1) = vec l i := rfl
theorem loopL_inl {α β : Type} {f : α → Option (α ⊕ β)} {a a' : α} (h : f a = some (.inl a')) : loopL f a = loopL f a' := by rw [loopL_eq, h]
theorem loopL_inr {α β : Type} {f : α → Option (α ⊕ β)} {a : α} {b : β} (h : f a = some (.inr b)) : loopL f a = some b := by rw [loopL_eq, h]
theorem natv (k : IntKind) (n : Nat) : natV (.int k (n : Int)) = n := by simp [natV]
attribute [simp] some_bind tst_t asBool_b asStr_s okN_int okN_bool okN_str okN_sl okN_nm okN_num okN_tr one_int one_bool one_str one_sl okN_tree szOk_trs szOk_strs szOk_limbs szOk_ints
attribute [simp] asSl_trs asSl_strs asSl_limbs asSl_ints asSl_nil asEl_trs asEl_strs asEl_limbs asEl_ints fld_nm0 fld_nm1 fld_nm2 fld0 fld1 fld2 fld3 fld4 fld5 fld6 fld7 fld_agg fld_str fld_int fld_bool fld_sl
attribute [simp] lenV_sl elems_sl strs_len limbs_len ints_len trs_len strs_get limbs_get ints_get trs_get strs_gete limbs_gete ints_gete trs_gete strs_drop limbs_drop ints_drop trs_drop strs_take limbs_take ints_take trs_take strs_app limbs_app trs_app strs_set limbs_set trs_set
attribute [simp] eql_i neq_i lss_i leq_i gtr_i geq_i add_i sub_i mul_i cvi_i neg_i eql_s neq_s lss_s leq_s gtr_s geq_s not_b ext_tup vec_0 vec_s natv
end Go.Ev
end
section
namespace Go.Ev
end Go.Ev
end
section
namespace Go.Ev

end Go.Ev
end
section
namespace Go.Ev

theorem and_mask (a M k : Nat) (hM : M + 1 = 2 ^ k) (ha : a < 18446744073709551616) (hM2 : M < 18446744073709551616) : binV .and (.int .u64 (a : Int)) (.int .u64 (M : Int)) = some (.int .u64 ((a % 2 ^ k : Nat) : Int)) := by
  have h := u64_and_nat a M ha hM2
  have e : M = 2 ^ k - 1 := by omega
  simp only [binV, intV, isShift, decide_true, Bool.or_true, if_pos, h]
  rw [e, Nat.and_two_pow_sub_one_eq_mod]
theorem shr_u64 (a : Nat) (k : IntKind) (n : Nat) (h : n < 64) : binV .shr (.int .u64 (a : Int)) (.int k (n : Int)) = some (.int .u64 ((a / 2 ^ n : Nat) : Int)) := by
  rw [shr_i _ _ _ _ (Int.natCast_nonneg n), Int.toNat_natCast]
  have e : Nat.min n (IntKind.bits .u64) = n := Nat.min_eq_left (by show n ≤ 64; omega)
  rw [e, Int.fdiv_eq_ediv_of_nonneg _ (Int.le_of_lt (Int.pow_pos (by decide)))]
  have e2 : ((2 : Int) ^ n) = ((2 ^ n : Nat) : Int) := by simp
  rw [e2, ← Int.natCast_ediv]
end Go.Ev
end
section
namespace Go.Ev
theorem ty_int {P : Program} {n : Nat} {t : TypeId} {k : IntKind} {xs : List V} (hu : P.underlying t = some (.int k)) (h : Ty P n t xs) : ∃ z, (Lit.int k z).wf = true ∧ mkV P t xs = .int k z := by
  cases n with
  | zero => exact h.elim
  | succ n =>
    unfold Ty at h
    rw [hu] at h
    obtain ⟨z, hz, rfl⟩ := h
    refine ⟨z, hz, ?_⟩
    unfold mkV isAggT
    rw [hu]; rfl
theorem wf_u64 {z : Int} (h : (Lit.int .u64 z).wf = true) : ∃ b : Nat, z = b ∧ b < 18446744073709551616 := by
  have h : 0 ≤ z ∧ z ≤ 18446744073709551615 := by simpa [Lit.wf, IntKind.min, IntKind.max, IntKind.signed, IntKind.bits] using h
  exact ⟨z.toNat, by omega, by omega⟩
end Go.Ev
end
