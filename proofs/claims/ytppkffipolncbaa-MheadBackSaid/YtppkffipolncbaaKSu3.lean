/- Heads: what Get gets. -/
import Derived.Test.YtppkffipolncbaaKSu2
set_option linter.all false
namespace Go.Ev
attribute [local irreducible] P0
def hk (c : Nat) : Nat := if c < 128 then 4 else if c < 144 then 10 else if c < 160 then 9 else if c < 192 then 7 else if 224 ≤ c then 5 else ([1, 0, 2, 3, 8, 8, 8, 11, 11, 11, 12, 6, 4, 4, 4, 4, 5, 5, 5, 5, 11, 11, 11, 11, 11, 7, 7, 7, 9, 9, 10, 10] : List Nat).getD (c - 192) 0
def hz (c : Nat) : Nat := if c < 192 then 0 else ([0, 0, 0, 0, 1, 2, 4, 1, 2, 4, 4, 8, 1, 2, 4, 8, 1, 2, 4, 8, 0, 0, 0, 0, 0, 1, 2, 4, 2, 4, 2, 4] : List Nat).getD (c - 192) 0
def hn (c : Nat) : Nat := if c < 128 then c else if c < 144 then c - 128 else if c < 160 then c - 144 else if c < 192 then c - 160 else if 224 ≤ c then 18446744073709551360 + c else if 212 ≤ c ∧ c ≤ 216 then 2 ^ (c - 212) else 0
def hs (c : Nat) : Bool := decide (208 ≤ c ∧ c ≤ 211)
def mo (c : Nat) : Nat := if hk c = 11 then 1 else 0
def hdV (c : Nat) : V := .agg [.int .i64 (hk c : Int), .int .i64 (hz c : Int), .int .u64 (hn c : Int), .bool (hs c)]
theorem of_tab : (List.range 256).map (fun (c : Nat) => F_mhead_of (.int .u8 (c : Int))) = (List.range 256).map (fun (c : Nat) => some (.tup [hdV c, .bool (!(c == 193))], [])) := by kernel_rfl
theorem tab_at {α : Type} {f g : Nat → α} {n : Nat} (h : (List.range n).map f = (List.range n).map g) (c : Nat) (hc : c < n) : f c = g c := by
  have h2 := congrArg (·[c]?) h
  simp only [List.getElem?_map, List.getElem?_range hc, Option.map_some] at h2
  exact Option.some.inj h2
theorem of8_ok (c : Nat) (hc : c < 256) : P0 f_mhead_of [.v (.int .u8 (c : Int))] [] = some (.tup [hdV c, .bool (!(c == 193))], []) := by
  rw [eq_mhead_of]; exact tab_at (f := fun (c : Nat) => F_mhead_of (.int .u8 (c : Int))) (g := fun (c : Nat) => some (.tup [hdV c, .bool (!(c == 193))], [])) of_tab c hc
def U8 (l : List Nat) : Prop := ∀ x, x ∈ l → x < 256
/-- bytes behind a number -/
def acc : Nat → List Nat → Nat
  | a, [] => a
  | a, x :: r => acc (a * 256 % 18446744073709551616 + x) r
theorem shl8 (a : Nat) : binV .shl (.int .u64 (a : Int)) (.int .u64 8) = some (.int .u64 ((a * 256 % 18446744073709551616 : Nat) : Int)) := by
  rw [shl_i _ _ _ _ (by decide), show (2 : Int) ^ Nat.min (Int.toNat 8) (IntKind.bits .u64) = 256 by decide, IntKind.wrap_u64]
  congr 2
theorem or8 (a x : Nat) (hx : x < 256) : binV .or (.int .u64 ((a * 256 % 18446744073709551616 : Nat) : Int)) (.int .u64 (x : Int)) = some (.int .u64 ((a * 256 % 18446744073709551616 + x : Nat) : Int)) := by
  have h := u64_or_nat (a * 256 % 18446744073709551616) x (by omega) (by omega)
  have e : a * 256 % 18446744073709551616 = 2 ^ 8 * (a % 72057594037927936) := by omega
  have h2 := Nat.two_pow_add_eq_or_of_lt (i := 8) (b := x) (by omega) (a % 72057594037927936)
  rw [← e] at h2
  simp only [binV, intV, isShift, decide_true, Bool.or_true, if_pos, h]
  rw [← h2]
theorem wu64n (n : Nat) (h : n < 18446744073709551616) : IntKind.u64.wrap (n : Int) = (n : Int) := wu64 (a := (n : Int)) (by omega)
theorem get_loop (l : List Nat) (hu : U8 l) (hl : l.length ≤ 1000) (L : List V) (q : Nat × Nat) (hq : (L.drop q.1).take (q.2 - q.1) = bys l) (m : Nat) : ∀ (i a : Nat), i + m = l.length →
    loopL (L_mhead_Get_1 L q) (vec [.int .u64 (a : Int), .int .i64 (i : Int)]) = some (0, vec [.int .u64 (acc a (l.drop i) : Nat)]) := by
  induction m with
  | zero =>
    intro i a hi
    apply loopL_inr
    unfold L_mhead_Get_1
    have c1 : ¬ (i : Int) < (l.length : Int) := by omega
    have e : l.drop i = [] := List.drop_eq_nil_of_le (by omega)
    simp only [tick_eq, vec_0, vec_s, hq, bys_len, lss_i, c1, decide_false, some_bind, asBool_b, Bool.false_eq_true, if_false, e, acc]
  | succ m ih =>
    intro i a hi
    have hlt : i < l.length := by omega
    have c1 : (i : Int) < (l.length : Int) := by omega
    have hx : l[i]? = some l[i] := List.getElem?_eq_getElem hlt
    have h8 := hu _ (List.getElem_mem hlt)
    rw [List.drop_eq_getElem_cons hlt, acc, ← ih (i + 1) _ (by omega)]
    apply loopL_inl
    unfold L_mhead_Get_1
    simp only [tick_eq, vec_0, vec_s, hq, bys_len, lss_i, c1, decide_true, some_bind, asBool_b, if_true, asSl_bys, idx_nat _ i l.length hlt, bys_get, hx, Option.map_some, fld_int, shl8, cvi_i, wu64n l[i] (by omega), or8 a l[i] h8, add_i, show IntKind.i64.wrap ((i : Int) + 1) = ((i + 1 : Nat) : Int) from w64 (a := (i : Int) + 1) (by omega)]
/-- a number of so many bytes that bears a sign -/
def sgn (s x : Nat) : Int := IntKind.u64.wrap ((IntKind.i64.wrap (IntKind.u64.wrap ((x : Int) * 2 ^ Nat.min (64 - 8 * s) 64))).fdiv (2 ^ Nat.min (64 - 8 * s) 64))
def valH (c : Nat) (l : List Nat) : Int := if hs c = true then sgn (hz c) (acc (hn c) l) else (acc (hn c) l : Nat)
def getV (b : List Nat) (i : Nat) : V :=
  let c := b[i]?.getD 0
  if c = 193 then .tup [.int .i64 0, .int .u64 0, .int .i64 0, .int .i64 3]
  else if b.length < i + 1 + (hz c + mo c) then .tup [.int .i64 0, .int .u64 0, .int .i64 0, .int .i64 2]
  else .tup [.int .i64 (hk c : Int), .int .u64 (valH c ((b.drop (i + 1)).take (hz c))), .int .i64 ((i + 1 + (hz c + mo c) : Nat) : Int), .int .i64 0]
theorem hz_le : ∀ c, c < 256 → hz c ≤ 8 ∧ mo c ≤ 1 ∧ hk c ≤ 12 ∧ (hs c = true → hk c = 5) ∧ hn c < 18446744073709551616 := by
  have h : (List.range 256).all (fun c => decide (hz c ≤ 8 ∧ mo c ≤ 1 ∧ hk c ≤ 12 ∧ (hs c = true → hk c = 5) ∧ hn c < 18446744073709551616)) = true := by kernel_rfl
  intro c hc
  exact of_decide_eq_true (List.all_eq_true.1 h c (List.mem_range.2 hc))
end Go.Ev
