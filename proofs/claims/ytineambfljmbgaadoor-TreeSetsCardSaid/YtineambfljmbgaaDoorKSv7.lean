/- Values by numbers may be; the document's example. -/
import Derived.Test.YtineambfljmbgaaDoorKSv6
set_option linter.all false
namespace Go.Ev
attribute [local irreducible] P0
theorem k0_nil {t : Tree} (h : t.k = []) : k0 t = true := by unfold k0; rw [h]; rfl
theorem v0_nil {t : Tree} (h : t.v = []) : v0 t = true := by unfold v0; rw [h]; rfl
theorem textB_8 {s : Str} (h : (dec8 s).isSome = true) (hl : s.length ≤ 2000) : textB s = true := by
  unfold textB; rw [decide_eq_true hl, textU_8 h]; rfl
theorem nms_of {l : List Str} (hs : Srt l) (hn : ∀ x, x ∈ l → (dec8 x).isSome = true ∧ x.length ≤ 2000) (hl : l.length ≤ 300) : NmsP l :=
  ⟨fun k hk _ => ⟨textB_8 (hn _ (List.getElem_mem hk)).1 (hn _ (List.getElem_mem hk)).2, fun h0 => srt_at hs (k - 1) k hk (by omega)⟩, hl⟩
theorem own_1 {t : Tree} (h : t.kind = 1) : ownB t = (!t.b && numZ t.n && decide (t.s = []) && k0 t && v0 t) := if_pos h
theorem own_2 {t : Tree} (h : t.kind = 2) : ownB t = (true && numZ t.n && decide (t.s = []) && k0 t && v0 t) := (if_neg (by omega)).trans (if_pos h)
theorem own_3 {t : Tree} (h : t.kind = 3) : ownB t = (!t.b && nokB t.n && decide (t.s = []) && k0 t && v0 t) := (if_neg (by omega)).trans ((if_neg (by omega)).trans (if_pos h))
theorem own_4 {t : Tree} (h : t.kind = 4) : ownB t = (!t.b && numZ t.n && textB t.s && k0 t && v0 t) := (if_neg (by omega)).trans ((if_neg (by omega)).trans ((if_neg (by omega)).trans (if_pos h)))
theorem own_5 {t : Tree} (h : t.kind = 5) : ownB t = (!t.b && numZ t.n && decide (t.s.length ≤ 2000) && k0 t && v0 t) := (if_neg (by omega)).trans ((if_neg (by omega)).trans ((if_neg (by omega)).trans ((if_neg (by omega)).trans (if_pos h))))
theorem own_7 {t : Tree} (h : t.kind = 7) : ownB t = (!t.b && numZ t.n && decide (t.s = []) && (nmsB t.k && decide (t.k.length = t.v.length)) && decide (t.v.length ≤ 300)) := (if_neg (by omega)).trans ((if_neg (by omega)).trans ((if_neg (by omega)).trans ((if_neg (by omega)).trans ((if_neg (by omega)).trans (if_pos h)))))
theorem own_6 {t : Tree} (h : t.kind = 6) : ownB t = (!t.b && numZ t.n && decide (t.s = []) && k0 t && decide (t.v.length ≤ 300)) := (if_neg (by omega)).trans ((if_neg (by omega)).trans ((if_neg (by omega)).trans ((if_neg (by omega)).trans ((if_neg (by omega)).trans ((if_neg (by omega)).trans (if_pos h))))))
theorem OkT.ownB {t : Tree} (h : OkT t) : ownB t = true := by
  cases h with
  | null => rw [own_1 rfl, k0_nil rfl, v0_nil rfl]; rfl
  | bool b => rw [own_2 rfl, k0_nil rfl, v0_nil rfl]; rfl
  | num n hn => rw [own_3 rfl, k0_nil rfl, v0_nil rfl, show nokB (Tree.mk 3 false n [] [] []).n = true from hn.nokB]; rfl
  | text s hs hl => rw [own_4 rfl, k0_nil rfl, v0_nil rfl, show textB (Tree.mk 4 false .zero s [] []).s = true from textB_8 hs hl]; rfl
  | bytes s hl => rw [own_5 rfl, k0_nil rfl, v0_nil rfl, decide_eq_true (show (Tree.mk 5 false .zero s [] []).s.length ≤ 2000 from hl)]; rfl
  | arr v hl hv => rw [own_6 rfl, k0_nil rfl, decide_eq_true (show (Tree.mk 6 false .zero [] [] v).v.length ≤ 300 from hl)]; rfl
  | obj l hs hl hn hv =>
    have e1 : nmsB (Ev.obj l).k = true := (nmsB_iff _).2 (nms_of (l := names l) hs hn (by rw [names_len]; exact hl))
    have e2 : decide ((Ev.obj l).k.length = (Ev.obj l).v.length) = true := decide_eq_true (by show (names l).length = (valsL l).length; rw [names_len, valsL_len])
    have e3 : decide ((Ev.obj l).v.length ≤ 300) = true := decide_eq_true (by show (valsL l).length ≤ 300; rw [valsL_len]; exact hl)
    rw [own_7 rfl, e1, e2, e3]; rfl
theorem OkT.okG {t : Tree} : OkT t → OkG t := by
  induction t using Tree.ind with
  | h t ih => exact fun h => .mk t h.ownB (fun x hx => ih x hx (h.sub x hx))
theorem OkT.tame {t : Tree} : OkT t → TameT t := by
  induction t using Tree.ind with
  | h t ih => exact fun h => .mk t ⟨(nm_u32 h.num_ok).1, by have := (nm_u32 h.num_ok).2.2; omega, by have := h.lens.1; omega⟩ (fun x hx => ih x hx (h.sub x hx))
theorem tCheck_t {t : Tree} (h : OkT t) (hd : depth t ≤ 64) (hn : nodes t ≤ 2000) : P0 f_tree_Check [.v t.val] [] = some (.bool true, []) := by
  obtain ⟨b, h1, h2⟩ := tCheck_ok t h.tame
  rw [h1, h2.2 ⟨h.okG, hd, hn⟩]
def exN : Tree := .mk 3 false ⟨false, [1], 0⟩ [] [] []
def exS : Tree := .mk 4 false .zero [120, 121] [] []
def exA : Tree := .mk 6 false .zero [] [] [exN, exS]
def exO : AL := [([97], exA)]
theorem exN_ok : OkT exN := .num _ (.inr ⟨by simp, by intro x hx; rw [List.mem_singleton.1 hx]; decide, by decide, by unfold Nrm; decide, by decide, by decide, by decide⟩)
theorem exO_ok : OkT (obj exO) := by
  refine .obj exO ⟨by simp [exO], trivial⟩ (by decide) (by decide) (fun q hq => ?_)
  simp only [exO, List.mem_singleton] at hq
  subst hq
  refine .arr [exN, exS] (by decide) (fun x hx => ?_)
  simp only [List.mem_cons, List.mem_nil_iff, or_false] at hx
  rcases hx with rfl | rfl
  · exact exN_ok
  · exact .text _ (by decide) (by decide)
theorem awake05 : P0 f_law05_awake [] [] = some (.bool true, []) := by
  have ev : (obj exO).val = .agg [(.int .i64 7), (.bool false), (.bool false), (.sl []), (.int .i64 0), (.str []), (.sl [(.str [97])]), (.sl [(.agg [(.int .i64 6), (.bool false), (.bool false), (.sl []), (.int .i64 0), (.str []), (.sl []), (.sl [(.agg [(.int .i64 3), (.bool false), (.bool false), (.sl [(.int .u32 1)]), (.int .i64 0), (.str []), (.sl []), (.sl [])]), (.agg [(.int .i64 4), (.bool false), (.bool false), (.sl []), (.int .i64 0), (.str [120, 121]), (.sl []), (.sl [])])])])])] := by
    rw [obj_val]; rfl
  have ew : weight (obj exO) = 7 := by decide
  have en : nodes (obj exO) = 4 := by decide
  have ed : depth (obj exO) = 3 := by decide
  have a1 := tweight_ok (obj exO) (by rw [ew]; decide)
  have a2 := tCheck_t exO_ok (by rw [ed]; decide) (by rw [en]; decide)
  have a3 := tnodes_ok (obj exO) (by rw [en]; decide)
  have a4 := tdepth_ok (obj exO) (by rw [en]; decide)
  rw [ew, ev] at a1
  rw [ev] at a2
  rw [en, ev] at a3
  rw [ed, ev] at a4
  rw [eq_law05_awake]; unfold F_law05_awake
  simp only [tick_eq, a1, a2, a3, a4, some_bind, eql_i, show decide (((7 : Nat) : Int) = 7) = true by decide, show decide (((4 : Nat) : Int) = 4) = true by decide, show decide (((3 : Nat) : Int) = 3) = true by decide, asBool_b, if_true]
end Go.Ev
