/- Values by numbers, part 2. -/
import Derived.Test.YtineambfljmbgaaDoorKSt7
set_option linter.all false
namespace Go.Ev
attribute [local irreducible] P0
theorem mk_val (kind : Int) (b : Bool) (n : Nm) (s : Str) (k : List Str) (v : List Tree) : (Tree.mk kind b n s k v).val = .agg [.int .i64 kind, .bool b, .bool n.neg, .sl (limbs n.m), .int .i64 n.e, .str s, .sl (strs k), .sl (trs v)] := by rw [Tree.val_eq]; rfl
theorem text_at (i : Nat) (h : i < 9) : ∃ x s, ixaV false 9 1 (.agg [(.int .i64 0), (.int .i64 1), (.int .i64 2), (.int .i64 3), (.int .i64 4), (.int .i64 5), (.int .i64 6), (.int .i64 8), (.int .i64 9)]) (.int .i64 (i : Int)) = some x ∧ slsV (.str [97, 98, 99, 34, 92, 10, 195, 169, 122]) none (some x) = some (.str s) ∧ (dec8 s).isSome = true ∧ s.length ≤ 2000 := by
  match i, h with
  | 0, _ => exact ⟨_, _, rfl, rfl, rfl, by decide⟩
  | 1, _ => exact ⟨_, _, rfl, rfl, rfl, by decide⟩
  | 2, _ => exact ⟨_, _, rfl, rfl, rfl, by decide⟩
  | 3, _ => exact ⟨_, _, rfl, rfl, rfl, by decide⟩
  | 4, _ => exact ⟨_, _, rfl, rfl, rfl, by decide⟩
  | 5, _ => exact ⟨_, _, rfl, rfl, rfl, by decide⟩
  | 6, _ => exact ⟨_, _, rfl, rfl, rfl, by decide⟩
  | 7, _ => exact ⟨_, _, rfl, rfl, rfl, by decide⟩
  | 8, _ => exact ⟨_, _, rfl, rfl, rfl, by decide⟩
theorem bytes_at (i : Nat) (h : i < 5) : ∃ s, slsV (.str [0, 255, 97, 98]) none (some (.int .i64 (i : Int))) = some (.str s) ∧ s.length ≤ 2000 := by
  match i, h with
  | 0, _ => exact ⟨_, rfl, by decide⟩
  | 1, _ => exact ⟨_, rfl, by decide⟩
  | 2, _ => exact ⟨_, rfl, by decide⟩
  | 3, _ => exact ⟨_, rfl, by decide⟩
  | 4, _ => exact ⟨_, rfl, by decide⟩
theorem bnd_leaf (d : Nat) {t : Tree} (h : t.v = []) : Bnd 3 (d + 1) t := .mk d t (by rw [h]; simp) (fun x hx => by rw [h] at hx; simp at hx)
theorem made_step (d : Nat) (hd : d < 1000) (hm : ∀ e, d = e + 1 → MadeOk e) (l : List Int) : ∃ (t : Tree) (l' : List Int), P0 f_law00_made [.v (.sl (ints l)), .v (.int .i64 (d : Int))] [] = some (.tup [t.val, .sl (ints l')], []) ∧ Md8 (d + 1) t ∧ (∀ r, l = 45 :: r → 0 < d → t.kind = 7) := by
  rw [eq_law00_made]; unfold F_law00_made
  cases l with
  | nil => exact ⟨Ev.null, [], by rw [null_val]; rfl, ⟨.null, Bnd.null 3 d⟩, fun r h => by simp at h⟩
  | cons a r =>
    obtain ⟨v, hp1, hv, hv2⟩ := placeN a 1073741824 (by omega) (by omega)
    have hp1 : P0 f_law00_Place [.v (.int .i64 a), .v (.int .i64 1073741824)] [] = some (.int .i64 (v : Int), []) := hp1
    have hlen : (((((r.length + 1 : Nat) : Int)) == 0) = true) = False := by
      have : ¬ (((r.length + 1 : Nat) : Int) = 0) := by omega
      simp [this]; omega
    have hpos : 0 < r.length + 1 := by omega
    have hb1 : bnd2 (some (.int .i64 1)) none (r.length + 1) = some (1, r.length + 1) := bnd_from _ 1 _ (by omega)
    have hdrop : ((ints (a :: r)).drop 1).take (r.length + 1 - 1) = ints r := by
      rw [ints_drop]; show (ints r).take (r.length + 1 - 1) = ints r
      exact List.take_of_length_le (by rw [ints_len]; omega)
    have q12 := quoN v 12 (by omega) (by omega)
    have r12 := remN v 12 (by omega)
    have r2 := remN (v / 12) 2 (by omega)
    have r9 := remN (v / 12) 9 (by omega)
    have r5 := remN (v / 12) 5 (by omega)
    obtain ⟨n, hn1, hn2⟩ := number_ok ((v / 12 : Nat) : Int) (by omega) (by omega)
    obtain ⟨tx, ts, ht1, ht2, ht3, ht4⟩ := text_at (v / 12 % 9) (by omega)
    obtain ⟨bs, hby1, hby2⟩ := bytes_at (v / 12 % 5) (by omega)
    have w64k : ∀ x : Int, -1000 ≤ x → x ≤ 1000 → IntKind.i64.wrap x = x := fun x h1 h2 => w64 (by omega)
    have hk45 : ∀ r', a :: r = 45 :: r' → v % 12 = 9 := fun r' h => by
      have : a = 45 := (List.cons_eq_cons.1 h).1
      subst this
      have := hv2 (by omega)
      omega
    obtain ⟨K, hKv, hK⟩ : ∃ K : Int, ((v % 12 : Nat) : Int) = K ∧ (K = 0 ∨ K = 1 ∨ K = 2 ∨ K = 3 ∨ K = 4 ∨ K = 5 ∨ K = 6 ∨ K = 7 ∨ K = 8 ∨ K = 9 ∨ K = 10 ∨ K = 11) := ⟨_, rfl, by omega⟩
    have r12' : binV .rem (.int .i64 (v : Int)) (.int .i64 12) = some (.int .i64 K) := hKv ▸ r12
    have hm' : decide ((d : Int) ≤ 0) = false → ∃ e, d = e + 1 ∧ MadeOk e := fun h => by
      have : ¬ (d : Int) ≤ 0 := by simpa using h
      exact ⟨d - 1, by omega, hm _ (by omega)⟩
    have dz : decide ((d : Int) ≤ 0) = true → d = 0 := fun h => by
      have := of_decide_eq_true h
      omega
    have leaf : ∀ t : Tree, OkT t → t.v = [] → (K ≤ 5 ∨ d = 0) → Md8 (d + 1) t ∧ (∀ r', a :: r = 45 :: r' → 0 < d → t.kind = 7) := fun t ho hv hk => ⟨⟨ho, bnd_leaf d hv⟩, fun r' h h0 => by have := hk45 r' h; omega⟩
    cases hd0 : decide ((d : Int) ≤ 0) <;> rcases hK with rfl | rfl | rfl | rfl | rfl | rfl | rfl | rfl | rfl | rfl | rfl | rfl <;>
      simp only [tick_eq, lenV_sl, ints_len, List.length_cons, some_bind, hlen, Bool.false_eq_true, if_false, asSl_ints, idx_0 _ _ hpos, ints_get, List.getElem?_cons_zero, Option.map_some, fld_int, hp1, hb1, hdrop, r12', leq_i, geq_i, hd0, asBool_b, decide_true, decide_false, if_true, Int.reduceLE, Int.reduceSub, Int.reduceEq, sub_i, w64k, vec_0, vec_s, eql_i, show binV .quo (.int .i64 (v : Int)) (.int .i64 12) = _ from q12, show binV .rem (.int .i64 ((v / 12 : Nat) : Int)) (.int .i64 2) = _ from r2, show binV .rem (.int .i64 ((v / 12 : Nat) : Int)) (.int .i64 9) = _ from r9, show binV .rem (.int .i64 ((v / 12 : Nat) : Int)) (.int .i64 5) = _ from r5, okN_bool, okN_str, tst_t, fld_bool, fld_str, hn1, okN_nm, fld_nm0, fld_nm1, fld_nm2, ht1, ht2, hby1, Nat.one_ne_zero, elems_sl]
    · exact ⟨Ev.null, r, by first | (simp only [mk_val, null_val]; done) | (simp only [mk_val, null_val]; rfl), leaf _ (.null) rfl (.inl (by decide))⟩
    · exact ⟨.mk 2 (decide (((v / 12 % 2 : Nat) : Int) = 1)) .zero [] [] [], r, by first | (simp only [mk_val, null_val]; done) | (simp only [mk_val, null_val]; rfl), leaf _ (.bool _) rfl (.inl (by decide))⟩
    · exact ⟨.mk 3 false n [] [] [], r, by first | (simp only [mk_val, null_val]; done) | (simp only [mk_val, null_val]; rfl), leaf _ (.num n hn2) rfl (.inl (by decide))⟩
    · exact ⟨.mk 3 false n [] [] [], r, by first | (simp only [mk_val, null_val]; done) | (simp only [mk_val, null_val]; rfl), leaf _ (.num n hn2) rfl (.inl (by decide))⟩
    · exact ⟨.mk 4 false .zero ts [] [], r, by first | (simp only [mk_val, null_val]; done) | (simp only [mk_val, null_val]; rfl), leaf _ (.text ts ht3 ht4) rfl (.inl (by decide))⟩
    · exact ⟨.mk 5 false .zero bs [] [], r, by first | (simp only [mk_val, null_val]; done) | (simp only [mk_val, null_val]; rfl), leaf _ (.bytes bs hby2) rfl (.inl (by decide))⟩
    · obtain ⟨e, rfl, hme⟩ := hm' hd0
      obtain ⟨la, vs, la1, la2, la3⟩ := arr_loop [] v e (by omega) (by omega) hme (v / 12 % 4) 0 r [] (by omega) rfl (fun x hx => by simp at hx)
      simp only [show ((0 : Nat) : Int) = 0 from rfl, show trs [] = [] from rfl] at la1
      refine ⟨.mk 6 false .zero [] [] vs, la, ?_, ⟨.arr vs (by omega) (fun x hx => (la3 x hx).1), .mk _ _ la2 (fun x hx => (la3 x hx).2)⟩, fun r' h h0 => by have := hk45 r' h; omega⟩
      simp only [tick_eq, la1, some_bind, vec_0, vec_s, elems_sl, Nat.one_ne_zero, if_false, mk_val]; rfl
    · obtain ⟨e, rfl, hme⟩ := hm' hd0
      obtain ⟨la, vs, la1, la2, la3⟩ := arr_loop [] v e (by omega) (by omega) hme (v / 12 % 4) 0 r [] (by omega) rfl (fun x hx => by simp at hx)
      simp only [show ((0 : Nat) : Int) = 0 from rfl, show trs [] = [] from rfl] at la1
      refine ⟨.mk 6 false .zero [] [] vs, la, ?_, ⟨.arr vs (by omega) (fun x hx => (la3 x hx).1), .mk _ _ la2 (fun x hx => (la3 x hx).2)⟩, fun r' h h0 => by have := hk45 r' h; omega⟩
      simp only [tick_eq, la1, some_bind, vec_0, vec_s, elems_sl, Nat.one_ne_zero, if_false, mk_val]; rfl
    · obtain ⟨e, rfl, hme⟩ := hm' hd0
      obtain ⟨la, vs, la1, la2, la3⟩ := arr_loop [] v e (by omega) (by omega) hme (v / 12 % 4) 0 r [] (by omega) rfl (fun x hx => by simp at hx)
      simp only [show ((0 : Nat) : Int) = 0 from rfl, show trs [] = [] from rfl] at la1
      refine ⟨.mk 6 false .zero [] [] vs, la, ?_, ⟨.arr vs (by omega) (fun x hx => (la3 x hx).1), .mk _ _ la2 (fun x hx => (la3 x hx).2)⟩, fun r' h h0 => by have := hk45 r' h; omega⟩
      simp only [tick_eq, la1, some_bind, vec_0, vec_s, elems_sl, Nat.one_ne_zero, if_false, mk_val]; rfl
    · obtain ⟨e, rfl, hme⟩ := hm' hd0
      obtain ⟨lo, u, lo1, lo2, lo3, lo4, lo5⟩ := obj_loop [] v e (by omega) (by omega) hme (v / 12 % 4) 0 r [] (by omega) (by simp) trivial (fun x hx => by simp [names] at hx) (fun x hx => by simp at hx)
      simp only [show ((0 : Nat) : Int) = 0 from rfl, show strs (names []) = [] from rfl, show trs (valsL []) = [] from rfl] at lo1
      refine ⟨obj u, lo, ?_, ⟨.obj u lo3 (by omega) lo4 (fun q hq => (lo5 q hq).1), .mk _ _ (by rw [obj_v, valsL_len]; exact lo2) (fun x hx => by obtain ⟨q, hq, rfl⟩ := List.mem_map.1 (show x ∈ valsL u from hx); exact (lo5 q hq).2)⟩, fun r' h h0 => rfl⟩
      simp only [tick_eq, lo1, some_bind, vec_0, vec_s, elems_sl, if_true, okN_tree, tst_t]
    · obtain ⟨e, rfl, hme⟩ := hm' hd0
      obtain ⟨lo, u, lo1, lo2, lo3, lo4, lo5⟩ := obj_loop [] v e (by omega) (by omega) hme (v / 12 % 4) 0 r [] (by omega) (by simp) trivial (fun x hx => by simp [names] at hx) (fun x hx => by simp at hx)
      simp only [show ((0 : Nat) : Int) = 0 from rfl, show strs (names []) = [] from rfl, show trs (valsL []) = [] from rfl] at lo1
      refine ⟨obj u, lo, ?_, ⟨.obj u lo3 (by omega) lo4 (fun q hq => (lo5 q hq).1), .mk _ _ (by rw [obj_v, valsL_len]; exact lo2) (fun x hx => by obtain ⟨q, hq, rfl⟩ := List.mem_map.1 (show x ∈ valsL u from hx); exact (lo5 q hq).2)⟩, fun r' h h0 => rfl⟩
      simp only [tick_eq, lo1, some_bind, vec_0, vec_s, elems_sl, if_true, okN_tree, tst_t]
    · obtain ⟨e, rfl, hme⟩ := hm' hd0
      obtain ⟨lo, u, lo1, lo2, lo3, lo4, lo5⟩ := obj_loop [] v e (by omega) (by omega) hme (v / 12 % 4) 0 r [] (by omega) (by simp) trivial (fun x hx => by simp [names] at hx) (fun x hx => by simp at hx)
      simp only [show ((0 : Nat) : Int) = 0 from rfl, show strs (names []) = [] from rfl, show trs (valsL []) = [] from rfl] at lo1
      refine ⟨obj u, lo, ?_, ⟨.obj u lo3 (by omega) lo4 (fun q hq => (lo5 q hq).1), .mk _ _ (by rw [obj_v, valsL_len]; exact lo2) (fun x hx => by obtain ⟨q, hq, rfl⟩ := List.mem_map.1 (show x ∈ valsL u from hx); exact (lo5 q hq).2)⟩, fun r' h h0 => rfl⟩
      simp only [tick_eq, lo1, some_bind, vec_0, vec_s, elems_sl, if_true, okN_tree, tst_t]
    · exact ⟨Ev.null, r, by first | (simp only [mk_val, null_val]; done) | (simp only [mk_val, null_val]; rfl), leaf _ (.null) rfl (.inl (by decide))⟩
    · exact ⟨.mk 2 (decide (((v / 12 % 2 : Nat) : Int) = 1)) .zero [] [] [], r, by first | (simp only [mk_val, null_val]; done) | (simp only [mk_val, null_val]; rfl), leaf _ (.bool _) rfl (.inl (by decide))⟩
    · exact ⟨.mk 3 false n [] [] [], r, by first | (simp only [mk_val, null_val]; done) | (simp only [mk_val, null_val]; rfl), leaf _ (.num n hn2) rfl (.inl (by decide))⟩
    · exact ⟨.mk 3 false n [] [] [], r, by first | (simp only [mk_val, null_val]; done) | (simp only [mk_val, null_val]; rfl), leaf _ (.num n hn2) rfl (.inl (by decide))⟩
    · exact ⟨.mk 4 false .zero ts [] [], r, by first | (simp only [mk_val, null_val]; done) | (simp only [mk_val, null_val]; rfl), leaf _ (.text ts ht3 ht4) rfl (.inl (by decide))⟩
    · exact ⟨.mk 5 false .zero bs [] [], r, by first | (simp only [mk_val, null_val]; done) | (simp only [mk_val, null_val]; rfl), leaf _ (.bytes bs hby2) rfl (.inl (by decide))⟩
    · exact ⟨Ev.null, r, by first | (simp only [mk_val, null_val]; done) | (simp only [mk_val, null_val]; rfl), leaf _ (.null) rfl (.inr (dz hd0))⟩
    · exact ⟨.mk 2 (decide (((v / 12 % 2 : Nat) : Int) = 1)) .zero [] [] [], r, by first | (simp only [mk_val, null_val]; done) | (simp only [mk_val, null_val]; rfl), leaf _ (.bool _) rfl (.inr (dz hd0))⟩
    · exact ⟨.mk 3 false n [] [] [], r, by first | (simp only [mk_val, null_val]; done) | (simp only [mk_val, null_val]; rfl), leaf _ (.num n hn2) rfl (.inr (dz hd0))⟩
    · exact ⟨.mk 3 false n [] [] [], r, by first | (simp only [mk_val, null_val]; done) | (simp only [mk_val, null_val]; rfl), leaf _ (.num n hn2) rfl (.inr (dz hd0))⟩
    · exact ⟨.mk 4 false .zero ts [] [], r, by first | (simp only [mk_val, null_val]; done) | (simp only [mk_val, null_val]; rfl), leaf _ (.text ts ht3 ht4) rfl (.inr (dz hd0))⟩
    · exact ⟨.mk 5 false .zero bs [] [], r, by first | (simp only [mk_val, null_val]; done) | (simp only [mk_val, null_val]; rfl), leaf _ (.bytes bs hby2) rfl (.inr (dz hd0))⟩
theorem madeOk : ∀ d, d < 1000 → MadeOk d
  | 0, hd => fun l => by
    obtain ⟨t, l', h1, h2, _⟩ := made_step 0 hd (fun e h => by omega) l
    exact ⟨t, l', h1, h2⟩
  | d + 1, hd => fun l => by
    have ih := madeOk d (by omega)
    obtain ⟨t, l', h1, h2, _⟩ := made_step (d + 1) hd (fun e h => by have : e = d := by omega
                                                                     subst this; exact ih) l
    exact ⟨t, l', h1, h2⟩
theorem Made_ok (d : Nat) (hd : d < 1000) (l : List Int) : ∃ t : Tree, P0 f_law00_Made [.v (.sl (ints l)), .v (.int .i64 (d : Int))] [] = some (t.val, []) ∧ OkT t ∧ Bnd 3 (d + 1) t ∧ (∀ r, l = 45 :: r → 0 < d → t.kind = 7) := by
  obtain ⟨t, l', h1, h2, h3⟩ := made_step d hd (fun e h => madeOk e (by omega)) l
  refine ⟨t, ?_, h2.1, h2.2, h3⟩
  rw [eq_law00_Made]; unfold F_law00_Made
  simp only [tick_eq, h1, some_bind, ext_tup, List.getElem?_cons_zero, List.getElem?_cons_succ, okN_tree, tst_t]
end Go.Ev
