/- Texts: some that are valid. -/
import Derived.Test.YtineambfljmbgaaKSq3
import Derived.Test.YtineambfljmbgaaKSq4a
import Derived.Test.YtineambfljmbgaaKSp
set_option linter.all false
namespace Go.Ev
attribute [local irreducible] P0

def runes (l : List Nat) : List V := l.map fun (x : Nat) => V.int .i32 (x : Int)
theorem runes_len (l : List Nat) : (runes l).length = l.length := by simp [runes]
theorem runes_get (l : List Nat) (i : Nat) : (runes l)[i]? = l[i]?.map (fun (x : Nat) => V.int .i32 (x : Int)) := by simp [runes]
theorem szOk_runes (l : List Nat) : szOk 1 (runes l) = true := by
  induction l with
  | nil => rfl
  | cons t r ih => show szOk 1 (.int .i32 t :: runes r) = true; simp [szOk, ih]
theorem asSl_runes (l : List Nat) : asSl 1 (.sl (runes l)) = some (runes l) := by unfold asSl; simp only [szOk_runes]
theorem wi32 {a : Int} (h : -2147483648 ≤ a ∧ a ≤ 2147483647) : IntKind.i32.wrap a = a := IntWalk.i32_in a h
theorem rune_ascii (s : Str) (i : Nat) (b : UInt8) (h : s[i]? = some b) (hb : b.toNat < 128) :
    P0 f_ref04_Rune [.v (.str s), .v (.int .i64 (i : Int))] [] = some (.tup [.int .i32 (b.toNat : Int), .int .i64 1], []) := by
  have hi : i < s.length := by
    rcases Nat.lt_or_ge i s.length with h' | h'
    · exact h'
    · rw [List.getElem?_eq_none h'] at h; cases h
  rw [eq_ref04_Rune]; unfold F_ref04_Rune
  have e1 : ¬ ((i : Int) < 0) ∧ 0 ≤ (i : Int) := by omega
  have e2 : ¬ (s.length ≤ i) ∧ i < s.length := by omega
  have w := wi32 (a := (b.toNat : Int)) (by omega)
  have e3 : (b.toNat : Int) < 128 := by omega
  apply yes; simp [e1, e2, lns_s, ixs_nat s .i64 i b h, w, e3]
theorem rune_e (s : Str) (i : Nat) (h : s[i]? = some 195) (h2 : s[i + 1]? = some 169) (hl : s.length ≤ 1000000) :
    P0 f_ref04_Rune [.v (.str s), .v (.int .i64 (i : Int))] [] = some (.tup [.int .i32 233, .int .i64 2], []) := by
  have hi : i + 1 < s.length := by
    rcases Nat.lt_or_ge (i + 1) s.length with h' | h'
    · exact h'
    · rw [List.getElem?_eq_none h'] at h2; cases h2
  have e1 : ¬ ((i : Int) < 0) ∧ 0 ≤ (i : Int) := by omega
  have e2 : ¬ (s.length ≤ i) ∧ i < s.length := by omega
  have w := w64 (a := (i : Int) + 1) (by omega)
  have x1 : ixsV (.str s) (.int .i64 (i : Int)) = some (.int .u8 195) := ixs_nat s .i64 i 195 h
  have x2 : ixsV (.str s) (.int .i64 ((i : Int) + 1)) = some (.int .u8 169) := ixs_nat s .i64 (i + 1) 169 h2
  have wi : IntKind.i32.wrap 195 = 195 := wi32 (by decide)
  have hc : P0 f_ref04_cont [.v (.str s), .v (.int .i64 ((i : Int) + 1))] [] = some (.bool true, []) := by
    rw [eq_ref04_cont]; unfold F_ref04_cont
    have e3 : (i : Int) + 1 < s.length := by omega
    have a1 : binV .and (.int .u8 169) (.int .u8 192) = some (.int .u8 128) := by kernel_rfl
    apply yes; simp [lns_s, e3, x2, a1]
  rw [eq_ref04_Rune]; unfold F_ref04_Rune
  have a2 : binV .and (.int .i32 195) (.int .i32 31) = some (.int .i32 3) := by kernel_rfl
  have a3 : binV .shl (.int .i32 3) (.int .u64 6) = some (.int .i32 192) := by kernel_rfl
  have a4 : binV .and (.int .u8 169) (.int .u8 63) = some (.int .u8 41) := by kernel_rfl
  have a5 : IntKind.i32.wrap 41 = 41 := wi32 (by decide)
  have a6 : binV .or (.int .i32 192) (.int .i32 41) = some (.int .i32 233) := by kernel_rfl
  apply yes; simp [e1, e2, lns_s, x1, x2, wi, w, hc, a2, a3, a4, a5, a6]
theorem runes_app (l r : List Nat) : runes l ++ runes r = runes (l ++ r) := by simp [runes]
theorem runes_1 (b : Nat) : [V.int .i32 (b : Int)] = runes [b] := rfl
theorem runes_loop (n : Nat) : ∀ (pre r : Str) (l m : List Nat), r.length ≤ n → (pre ++ r).length ≤ 1000000 → l.length ≤ pre.length → dec8 r = some m →
    loopL (L_ref04_Runes_1 (.str (pre ++ r))) (vec [.sl (runes l), .int .i64 (pre.length : Int)]) = some (0, vec [.sl (runes (l ++ m))]) := by
  induction n with
  | zero =>
    intro pre r l m hr hl hll hd
    have : r = [] := List.length_eq_zero_iff.1 (by omega)
    subst this
    simp [dec8] at hd; subst hd
    apply loopL_inr
    unfold L_ref04_Runes_1
    apply yes; simp [lns_s]
  | succ n ih =>
    intro pre r l m hr hl hll hd
    cases r with
    | nil =>
      simp [dec8] at hd; subst hd
      apply loopL_inr
      unfold L_ref04_Runes_1
      apply yes; simp [lns_s]
    | cons b r =>
      have hlen : (pre ++ b :: r).length = pre.length + r.length + 1 := by simp; omega
      have hlt : (pre.length : Int) < ((pre ++ b :: r).length : Int) := by omega
      have hb0 : (pre ++ b :: r)[pre.length]? = some b := by simp
      have happ : appOk 4 l.length 1 = true := app_ok _ _ _ (by omega) (by omega)
      unfold dec8 at hd
      split at hd
      · next h => simp at h
      · next b' r' h =>
        injection h with h1 h2; subst h1; subst h2
        cases hm : dec8 r' with
        | none => simp [hm] at hd
        | some m' =>
          simp [hm] at hd; subst hd
          have e : pre ++ 195 :: 169 :: r' = (pre ++ [195, 169]) ++ r' := by simp
          have hr' := rune_e (pre ++ 195 :: 169 :: r') pre.length hb0 (by simp [List.getElem?_append]) hl
          have hih := ih (pre ++ [195, 169]) r' (l ++ [233]) m' (by simp at hr; omega) (by rw [← e]; exact hl) (by simp; omega) hm
          rw [← e] at hih
          rw [show l ++ 233 :: m' = l ++ [233] ++ m' by simp, ← hih]
          apply loopL_inl
          unfold L_ref04_Runes_1
          have w := w64 (a := (pre.length : Int) + 2) (by omega)
          have r1 : [V.int .i32 233] = runes [233] := rfl
          apply yes; simp only [vec_0, vec_s, lns_s, some_bind, lss_i, hlt, decide_true, asBool_b, if_pos, hr', ext_tup]
          simp [szOk, runes_len, happ, w, r1, runes_app]
      · next b' r' _ h =>
        injection h with h1 h2; subst h1; subst h2
        split at hd
        · next hb =>
          cases hm : dec8 r with
          | none => simp [hm] at hd
          | some m' =>
            simp [hm] at hd; subst hd
            have e : pre ++ b :: r = (pre ++ [b]) ++ r := by simp
            have hr' := rune_ascii (pre ++ b :: r) pre.length b hb0 hb
            have hih := ih (pre ++ [b]) r (l ++ [b.toNat]) m' (by simp at hr; omega) (by rw [← e]; exact hl) (by simp; omega) hm
            rw [← e] at hih
            rw [show l ++ b.toNat :: m' = l ++ [b.toNat] ++ m' by simp, ← hih]
            apply loopL_inl
            unfold L_ref04_Runes_1
            have w := w64 (a := (pre.length : Int) + 1) (by omega)
            apply yes; simp only [vec_0, vec_s, lns_s, some_bind, lss_i, hlt, decide_true, asBool_b, if_pos, hr', ext_tup]
            simp [szOk, runes_len, happ, w, runes_1, runes_app]
        · cases hd
theorem valid_loop (l : List Nat) (pars : List V) (k : Nat) : ∀ i, i + k = l.length → l.length ≤ 1000000 →
    loopL (L_ref04_Valid_1 (.sl (runes l), pars)) (vec [.int .i64 (i : Int)]) = some (0, vec []) := by
  induction k with
  | zero =>
    intro i hi hl
    apply loopL_inr
    unfold L_ref04_Valid_1
    have : ¬ i < l.length := by omega
    apply yes; simp [runes_len, this]
  | succ k ih =>
    intro i hi hl
    rw [← ih (i + 1) (by omega) hl]
    apply loopL_inl
    unfold L_ref04_Valid_1
    have h1 : i < l.length := by omega
    have w := w64 (a := (i : Int) + 1) (by omega)
    have hx : l[i]? = some l[i] := List.getElem?_eq_getElem h1
    have e : (runes l)[i]? = some (.int .i32 (l[i] : Int)) := by rw [runes_get, hx]; rfl
    have h2 : ¬ ((l[i] : Int) < 0) ∧ 0 ≤ (l[i] : Int) := by omega
    apply yes; simp only [lenV_sl, some_bind, vec_0, runes_len, lss_i, asBool_b, asSl_runes, idx_nat _ i l.length h1, e, fld_int]
    simp [h1, h2, w]
theorem valid_ok (s : Str) (hs : s.length ≤ 1000000) (hd : (dec8 s).isSome = true) : P0 f_ref04_Valid [.v (.str s)] [] = some (.bool true, []) := by
  obtain ⟨m, hm⟩ := Option.isSome_iff_exists.1 hd
  have hlm : ∀ (n : Nat) (s : Str) (m : List Nat), s.length ≤ n → dec8 s = some m → m.length ≤ s.length := fun n => by
    induction n with
    | zero => intro s m h1 h2; have : s = [] := List.length_eq_zero_iff.1 (by omega); subst this; simp [dec8] at h2; simp [← h2]
    | succ n ih =>
      intro s m h1 h2
      cases s with
      | nil => simp [dec8] at h2; simp [← h2]
      | cons b r =>
        unfold dec8 at h2
        split at h2
        · next h => simp at h
        · next r' h =>
          injection h with h3 h4; subst h3; subst h4
          cases h5 : dec8 r' with
          | none => simp [h5] at h2
          | some m' => simp [h5] at h2; subst h2; have := ih r' m' (by simp at h1; omega) h5; simp; omega
        · next b' r' _ h =>
          injection h with h3 h4; subst h3; subst h4
          split at h2
          · cases h5 : dec8 r with
            | none => simp [h5] at h2
            | some m' => simp [h5] at h2; subst h2; have := ih r m' (by simp at h1; omega) h5; simp; omega
          · cases h2
  have h1 := runes_loop s.length [] s [] m (Nat.le_refl _) hs (Nat.le_refl _) hm
  have hr : P0 f_ref04_Runes [.v (.str s)] [] = some (.sl (runes m), []) := by
    rw [eq_ref04_Runes]; unfold F_ref04_Runes
    simp only [List.nil_append, List.length_nil, runes, List.map_nil] at h1
    rw [show ((0 : Nat) : Int) = 0 from rfl] at h1
    rw [h1]; rfl
  have h2 := valid_loop m [] m.length 0 (by omega) (by have := hlm _ s m (Nat.le_refl _) hm; omega)
  rw [eq_ref04_Valid]; unfold F_ref04_Valid
  rw [show ((0 : Nat) : Int) = 0 from rfl] at h2
  rw [hr, some_bind, h2]; rfl
end Go.Ev
