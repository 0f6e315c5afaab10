/- The law: the same merge a second time turns nothing. -/
import Derived.Test.YtineambfljmbgaaKSt9
import Derived.Test.YtineambfljmbgaaRows
set_option linter.all false
namespace Go.Ev
attribute [local irreducible] P0
theorem len60 (n : Nat) : decide (((n : Nat) : Int) > 60) = decide (60 < n) := by
  by_cases h : 60 < n
  · rw [decide_eq_true h, decide_eq_true (show ((n : Nat) : Int) > 60 by omega)]
  · rw [decide_eq_false h, decide_eq_false (show ¬ ((n : Nat) : Int) > 60 by omega)]
theorem twice_ok (l k : List Int) : P0 f_law16_MergeTwice [.v (.sl (ints l)), .v (.sl (ints k))] [] = some (.bool true, []) := by
  rw [eq_law16_MergeTwice]; unfold F_law16_MergeTwice
  by_cases hl : 60 < l.length
  · simp only [tick_eq, lenV_sl, ints_len, some_bind, len60, hl, decide_true, Bool.true_eq_false, if_false, asBool_b, if_true, awake16]
  by_cases hk : 60 < k.length
  · simp only [tick_eq, lenV_sl, ints_len, some_bind, len60, hl, hk, decide_true, decide_false, if_true, asBool_b, awake16]
  obtain ⟨t, ht, hto, htb, _⟩ := Made_ok 4 (by decide) l
  obtain ⟨p, hp, hpo, hpb, _⟩ := Made_ok 4 (by decide) k
  have m1 := merge_ok (c1 := 3) (c2 := 3) (by decide) hpo 5 _ hto htb hpb
  have ao := mrg_ok (c1 := 3) (c2 := 3) (by decide) hpo 5 _ hto htb hpb
  have ab := mrg_bnd hpo 5 _ hto.srt htb hpb
  have m2 := merge_ok (c1 := 6) (c2 := 3) (by decide) hpo 5 _ ao ab hpb
  rw [mrg_idem hpo t hto.srt] at m2
  have m3 := merge_ok (c1 := 3) (c2 := 3) (by decide) hpo 5 _ .null (Bnd.null 3 4) hpb
  have co := mrg_ok (c1 := 3) (c2 := 3) (by decide) hpo 5 _ .null (Bnd.null 3 4) hpb
  have eo : OkT (obj []) := .obj [] trivial (by decide) (fun x hx => by simp [names] at hx) (fun q hq => by simp at hq)
  have eb : Bnd 3 5 (obj []) := .mk _ _ (by decide) (fun x hx => by simp [obj_v, valsL] at hx)
  have m4 := merge_ok (c1 := 3) (c2 := 3) (by decide) eo 5 _ hto htb eb
  have dO := mrg_ok (c1 := 3) (c2 := 3) (by decide) eo 5 _ hto htb eb
  rw [null_val] at m3
  rw [obj_nil_val] at m4
  have hn := nodes_bnd ab
  have hck := tcheck_ok ab ao (by decide) (Nat.le_trans hn (by decide))
  have hcl := clean_ok (by decide) hpb
  obtain ⟨r1, s1, q1⟩ := same_ok _ ao _ ao
  obtain ⟨r2, s2, q2⟩ := same_ok _ co _ hpo
  obtain ⟨r3, s3, q3⟩ := same_ok _ dO _ hto
  have r1t : r1 = true := q1.2 rfl
  have r2c : r2 = cln p := by
    have h := cln_iff hpo
    cases r2 with
    | true => exact (h.2 (q2.1 rfl)).symm
    | false =>
      cases hc : cln p with
      | true => exact q2.2 (h.1 hc)
      | false => rfl
  subst r1t
  subst r2c
  have hd4 : P0 f_law00_Made [.v (.sl (ints l)), .v (.int .i64 4)] [] = some (t.val, []) := ht
  have hd4' : P0 f_law00_Made [.v (.sl (ints k)), .v (.int .i64 4)] [] = some (p.val, []) := hp
  by_cases hz : t.kind = 7
  · have r3t : r3 = true := q3.2 (mrg_empty hto hz)
    subst r3t
    cases hc : cln p <;> simp only [hc] at s2 hcl <;>
    simp only [tick_eq, lenV_sl, ints_len, some_bind, len60, hl, hk, decide_false, if_true, asBool_b, Bool.false_eq_true, if_false, hd4, hd4', okN_tree, tst_t, m1, m2, m3, m4, s1, s2, s3, hck, hcl, not_b, Bool.not_true, Bool.not_false, Bool.true_eq_false, beq_self_eq_true, fld0, neq_i, hz, decide_true, awake16]
  · cases hc : cln p <;> simp only [hc] at s2 hcl <;>
    simp only [tick_eq, lenV_sl, ints_len, some_bind, len60, hl, hk, decide_false, if_true, asBool_b, Bool.false_eq_true, if_false, hd4, hd4', okN_tree, tst_t, m1, m2, m3, m4, s1, s2, s3, hck, hcl, not_b, Bool.not_true, Bool.not_false, Bool.true_eq_false, beq_self_eq_true, fld0, neq_i, hz, decide_true, awake16]
theorem pure_MergeTwice {n0 n1 : Nat} {xs ys : List V} (hx : Ty Go.Proofs.Try.prog n0 22 xs) (hy : Ty Go.Proofs.Try.prog n1 22 ys) :
    P0 f_law16_MergeTwice ([mkV Go.Proofs.Try.prog 22 xs, mkV Go.Proofs.Try.prog 22 ys].map .v) [] = some (.bool true, []) := by
  obtain ⟨l, el⟩ := ty_ints Go.Proofs.Try.underlying22 Go.Proofs.Try.underlying3 hx
  obtain ⟨k, ek⟩ := ty_ints Go.Proofs.Try.underlying22 Go.Proofs.Try.underlying3 hy
  rw [el, ek]
  exact twice_ok l k
end Go.Ev
