/- The law: member by member. -/
import Derived.Test.YtineambfljmbgaaKSt9
import Derived.Test.YtineambfljmbgaaRows
set_option linter.all false
namespace Go.Ev
attribute [local irreducible] P0
theorem len60' (n : Nat) : decide (((n : Nat) : Int) > 60) = decide (60 < n) := by
  by_cases h : 60 < n
  · rw [decide_eq_true h, decide_eq_true (show ((n : Nat) : Int) > 60 by omega)]
  · rw [decide_eq_false h, decide_eq_false (show ¬ ((n : Nat) : Int) > 60 by omega)]
/-- what a member looked for is, and whether it is there -/
theorem mem_at (n : Str) {t : Tree} (h : OkT t) : ∃ x : Tree, memV n (al t) = .tup [x.val, .bool (lk n (al t)).isSome] ∧ (∀ y, lk n (al t) = some y → x = y ∧ OkT y) ∧ (lk n (al t) = none → x = Tree.zero) := by
  unfold memV
  cases hl : lk n (al t) with
  | none => exact ⟨Tree.zero, rfl, fun y hy => by contradiction, fun _ => rfl⟩
  | some y => exact ⟨y, rfl, fun z hz => by injection hz with hz; subst hz; exact ⟨rfl, h.al_ok _ (lk_mem hl)⟩, fun h => by contradiction⟩
/-- nothing at all is the same as itself -/
theorem zero_same : P0 f_ref05_Same [.v Tree.zero.val, .v Tree.zero.val] [] = some (.bool true, []) := by
  rw [eq_ref05_Same]; unfold F_ref05_Same
  have hk : Tree.zero.kind = 0 := rfl
  simp only [tick_eq, okN_tree, tst_t, fld0, hk, some_bind, neq_i, eql_i, Int.reduceEq, decide_true, decide_false, Bool.not_true, asBool_b, Bool.false_eq_true, if_false, vec_0]
theorem Bnd.sub {c d : Nat} {t : Tree} (h : Bnd c (d + 1) t) : ∀ q, q ∈ al t → Bnd c d q.2 := by
  cases h with
  | mk _ _ hl hv => exact fun q hq => hv _ (al_v hq)
theorem members_ok (l k : List Int) (name : Int) : P0 f_law16_MergeMembers [.v (.sl (ints l)), .v (.sl (ints k)), .v (.int .i64 name)] [] = some (.bool true, []) := by
  rw [eq_law16_MergeMembers]; unfold F_law16_MergeMembers
  by_cases hl : 60 < l.length
  · simp only [tick_eq, lenV_sl, ints_len, some_bind, len60', hl, decide_true, Bool.true_eq_false, if_false, asBool_b, if_true, awake16]
  by_cases hk : 60 < k.length
  · simp only [tick_eq, lenV_sl, ints_len, some_bind, len60', hl, hk, decide_true, decide_false, if_true, asBool_b, awake16]
  obtain ⟨t, ht, hto, htb, ht7⟩ := Made_ok 3 (by decide) (45 :: l)
  obtain ⟨p, hp, hpo, hpb, hp7⟩ := Made_ok 3 (by decide) (45 :: k)
  have ht7 := ht7 l rfl (by decide)
  have hp7 := hp7 k rfl (by decide)
  have m1 := merge_ok (c1 := 3) (c2 := 3) (by decide) hpo 4 _ hto htb hpb
  have ao := mrg_ok (c1 := 3) (c2 := 3) (by decide) hpo 4 _ hto htb hpb
  have ab := mrg_bnd hpo 4 _ hto.srt htb hpb
  have ct : ([V.int .i64 45] ++ ints l) = ints (45 :: l) := rfl
  have cp : ([V.int .i64 45] ++ ints k) = ints (45 :: k) := rfl
  have z45 : szOk 1 [V.int .i64 45] = true := rfl
  have l1 : (List.length (α := V) [V.int .i64 45]) = 1 := rfl
  have ht3 : P0 f_law00_Made [.v (.sl (ints (45 :: l))), .v (.int .i64 3)] [] = some (t.val, []) := ht
  have hp3 : P0 f_law00_Made [.v (.sl (ints (45 :: k))), .v (.int .i64 3)] [] = some (p.val, []) := hp
  obtain ⟨w, hw1, hw2, _⟩ := placeN name 9 (by decide) (by decide)
  have nn : strs nms ++ [V.str [110, 111, 110, 101]] = strs (nms ++ [[110, 111, 110, 101]]) := strs_1 _ _
  have nl : (nms ++ [[110, 111, 110, 101]]).length = 9 := rfl
  have zn : szOk 1 [V.str [110, 111, 110, 101]] = true := rfl
  have nw : (nms ++ [[110, 111, 110, 101]])[w]? = some ((nms ++ [[110, 111, 110, 101]])[w]'(by rw [nl]; exact hw2)) := List.getElem?_eq_getElem _
  generalize (nms ++ [[110, 111, 110, 101]])[w]'(by rw [nl]; exact hw2) = n at nw
  have ltb : (al t).length ≤ 1000000 := by have := al_len t; have := hto.lens.2.1; omega
  have lpb : (al p).length ≤ 1000000 := by have := al_len p; have := hpo.lens.2.1; omega
  have lub : (al (mrg t p)).length ≤ 1000000 := by have := al_len (mrg t p); have := ao.lens.2.1; omega
  have g1 := rmember_ok t n (by have := hto.lens.1; omega) ltb
  have g2 := rmember_ok p n (by have := hpo.lens.1; omega) lpb
  have g3 := rmember_ok (mrg t p) n (by have := ao.lens.1; omega) lub
  obtain ⟨x, ex, x1, x2⟩ := mem_at n hto
  obtain ⟨y, ey, y1, y2⟩ := mem_at n hpo
  obtain ⟨z, ez, z1, z2⟩ := mem_at n ao
  rw [ex] at g1
  rw [ey] at g2
  rw [ez] at g3
  have hu : lk n (al (mrg t p)) = match lk n (al p) with
      | none => lk n (al t)
      | some y => if y.kind = 1 then none else some (mrg ((lk n (al t)).getD Ev.null) y) := by
    have e := ok_obj hpo hp7
    rw [e, mrg_obj, al_obj, lk_mrgA (al p) hpo.al_srt n (al t) hto.al_srt, al_obj]
    cases lk n (al p) <;> rfl
  have step : ∀ {K : Option (V × List V)}, ((lenV (V.sl (ints l))).bind fun n1 =>
    ((if (decide ((((n1 : Nat) : Int) : Int) > 60)) = false then (lenV (V.sl (ints k))).bind fun n2 => some (.bool (decide ((((n2 : Nat) : Int) : Int) > 60))) else some (.bool true) : Option V)).bind fun x3 => (asBool x3).bind fun b4 => if b4 = true then (P0 f_law16_awake [] []).bind fun r5 => some (r5.1, []) else K) = K := by
    intro K
    simp only [tick_eq, lenV_sl, ints_len, some_bind, len60', hl, hk, decide_false, if_true, asBool_b, Bool.false_eq_true, if_false]
  rw [step]
  have a1 : appOk 8 1 l.length = true := app_ok _ _ _ (by omega) (by omega)
  have a2 : appOk 8 1 k.length = true := app_ok _ _ _ (by omega) (by omega)
  have a3 : appOk 16 nms.length 1 = true := rfl
  have a4 : (List.length (α := V) [V.str [110, 111, 110, 101]]) = 1 := rfl
  have hw9 : P0 f_law00_Place [.v (.int .i64 name), .v (.int .i64 ((9 : Nat) : Int))] [] = some (.int .i64 (w : Int), []) := hw1
  simp only [tick_eq, asEl_ints, some_bind, z45, tst_t, l1, ints_len, a1, a2, ct, cp, ht3, hp3, okN_tree, fld0, ht7, hp7, neq_i, decide_true, Bool.not_true, asBool_b, if_true, Bool.false_eq_true, if_false, m1, nms_ok, slV_sl, zn, strs_len, a3, a4, nn, nl, hw9, szOk_strs, idx_nat _ w 9 hw2, strs_get, nw, Option.map_some, fld_str, g1, g2, g3, ext_tup, List.getElem?_cons_zero, List.getElem?_cons_succ, not_b]
  cases hpl : lk n (al p) with
  | none =>
    rw [hpl] at hu
    have hu : lk n (al (mrg t p)) = lk n (al t) := hu
    have hs : P0 f_ref05_Same [.v z.val, .v x.val] [] = some (.bool true, []) := by
      cases hc : lk n (al t) with
      | none =>
        rw [x2 hc, z2 (hu.trans hc)]; exact zero_same
      | some q =>
        obtain ⟨e1, o1⟩ := x1 q hc
        obtain ⟨e2, o2⟩ := z1 q (hu.trans hc)
        rw [e1, e2]
        obtain ⟨r, h1, h2⟩ := same_ok q o1 q o1
        rw [h1, h2.2 rfl]
    simp only [tick_eq, Option.isSome_none, Bool.not_false, if_true, hu, beq_self_eq_true, hs, some_bind, asBool_b, awake16]
  | some q =>
    obtain ⟨eq', oq⟩ := y1 q hpl
    subst eq'
    rw [hpl] at hu
    have hu : lk n (al (mrg t p)) = if y.kind = 1 then none else some (mrg ((lk n (al t)).getD Ev.null) y) := hu
    by_cases h1 : y.kind = 1
    · rw [if_pos h1] at hu
      simp only [tick_eq, Option.isSome_some, Bool.not_true, Bool.false_eq_true, if_false, fld0, eql_i, h1, decide_true, some_bind, asBool_b, if_true, hu, Option.isSome_none, not_b, Bool.not_false, awake16]
    · rw [if_neg h1] at hu
      obtain ⟨ez', oz⟩ := z1 _ hu
      have yb : Bnd 3 3 y := hpb.sub _ (lk_mem hpl)
      by_cases h7 : y.kind = 7
      · cases hc : lk n (al t) with
        | none =>
          rw [hc] at hu ez' oz
          have ez' : z = mrg Ev.null y := ez'
          have hm := merge_ok (c1 := 3) (c2 := 3) (by decide) oq 3 _ .null (Bnd.null 3 2) yb
          rw [null_val] at hm
          have oz : OkT (mrg Ev.null y) := oz
          obtain ⟨r, r1, r2⟩ := same_ok _ oz _ oz
          have hr := r2.2 rfl
          subst hr
          have zk : z.kind = 7 := by rw [ez', ok_obj oq h7, mrg_obj]; rfl
          have zk2 : (mrg Ev.null y).kind = 7 := by rw [← ez']; exact zk
          simp only [tick_eq, Option.isSome_some, Option.isSome_none, Bool.not_true, Bool.false_eq_true, if_false, fld0, eql_i, neq_i, h7, Int.reduceEq, decide_true, decide_false, some_bind, asBool_b, if_true, hu, zk2, hm, ez', r1, awake16]
        | some v =>
          obtain ⟨ex', ox⟩ := x1 _ hc
          subst ex'
          rw [hc] at hu ez' oz
          have ez' : z = mrg x y := ez'
          have oz : OkT (mrg x y) := oz
          have xb : Bnd 3 3 x := htb.sub _ (lk_mem hc)
          have zk : z.kind = 7 := by rw [ez', ok_obj oq h7, mrg_obj]; rfl
          by_cases hx7 : x.kind = 7
          · have hm := merge_ok (c1 := 3) (c2 := 3) (by decide) oq 3 _ ox xb yb
            obtain ⟨r, r1, r2⟩ := same_ok _ oz _ oz
            have hr := r2.2 rfl
            subst hr
            simp only [tick_eq, Option.isSome_some, Option.isSome_none, Bool.not_true, Bool.false_eq_true, if_false, fld0, eql_i, neq_i, h7, hx7, Int.reduceEq, decide_true, decide_false, some_bind, asBool_b, if_true, hu, hm, ez', r1, awake16]
          · have hm := merge_ok (c1 := 3) (c2 := 3) (by decide) oq 3 _ .null (Bnd.null 3 2) yb
            rw [null_val] at hm
            have hno : mrg x y = mrg Ev.null y := by
              rw [ok_obj oq h7, mrg_obj, mrg_obj, al_of hx7, al_of (t := Ev.null) (by simp [Tree.kind, Ev.null])]
            rw [hno] at ez' oz
            obtain ⟨r, r1, r2⟩ := same_ok _ oz _ oz
            have hr := r2.2 rfl
            subst hr
            have zk2 : (mrg Ev.null y).kind = 7 := by rw [← ez']; exact zk
            simp only [tick_eq, Option.isSome_some, Option.isSome_none, Bool.not_true, Bool.false_eq_true, if_false, fld0, eql_i, neq_i, h7, hx7, Int.reduceEq, decide_true, decide_false, some_bind, asBool_b, if_true, hu, hm, ez', zk2, r1, awake16]
      · have e : mrg ((lk n (al t)).getD Ev.null) y = y := mrg_no h7
        rw [e] at hu ez' oz
        subst ez'
        obtain ⟨r, r1, r2⟩ := same_ok _ oq _ oq
        have hr := r2.2 rfl
        subst hr
        simp only [tick_eq, Option.isSome_some, Bool.not_true, Bool.false_eq_true, if_false, fld0, eql_i, neq_i, h1, h7, decide_true, decide_false, Bool.not_false, some_bind, asBool_b, if_true, hu, r1, awake16]
theorem pure_MergeMembers {n0 n1 n2 : Nat} {xs ys zs : List V} (hx : Ty Go.Proofs.Try.prog n0 22 xs) (hy : Ty Go.Proofs.Try.prog n1 22 ys) (hz : Ty Go.Proofs.Try.prog n2 3 zs) :
    P0 f_law16_MergeMembers ([mkV Go.Proofs.Try.prog 22 xs, mkV Go.Proofs.Try.prog 22 ys, mkV Go.Proofs.Try.prog 3 zs].map .v) [] = some (.bool true, []) := by
  obtain ⟨l, el⟩ := ty_ints Go.Proofs.Try.underlying22 Go.Proofs.Try.underlying3 hx
  obtain ⟨k, ek⟩ := ty_ints Go.Proofs.Try.underlying22 Go.Proofs.Try.underlying3 hy
  obtain ⟨z, _, ez⟩ := ty_int Go.Proofs.Try.underlying3 hz
  rw [el, ek, ez]
  exact members_ok l k z
end Go.Ev
