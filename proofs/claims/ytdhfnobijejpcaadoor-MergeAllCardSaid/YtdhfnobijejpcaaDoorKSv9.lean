/- Sameness. -/
import Derived.Test.YtdhfnobijejpcaaDoorKSv7
set_option linter.all false
open Bool renaming and_eq_true→zG
namespace Go.Ev
attribute [local irreducible] P0
theorem nokB_len{n:Nm}(h:nokB n=true):n.m.length≤90:=by
 unfold nokB at h
 split at h
 ·next h0=>rw[h0];simp
 ·rw[decide_eq_true_eq]at h;exact h.1
/-- what a value is, by its kind -/
theorem numZ_eq{n:Nm}(h:numZ n=true):n = .zero:=by
 unfold numZ at h
 simp only[zG,Bool.not_eq_true',decide_eq_true_eq]at h
 obtain⟨⟨h1,h2⟩,h3⟩:=h
 cases n;simp_all [Nm.zero]
theorem k0_eq{t:Tree}(h:k0 t=true):t.k=[]:=by
 unfold k0 at h;have:=eq_of_beq h
 exact List.eq_nil_of_length_eq_zero (by omega)
theorem v0_eq{t:Tree}(h:v0 t=true):t.v=[]:=by
 unfold v0 at h;have:=eq_of_beq h
 exact List.eq_nil_of_length_eq_zero (by omega)
theorem Tree.eta(t:Tree):t = .mk t.kind t.b t.n t.s t.k t.v:=by cases t;rfl
theorem own_kind{t:Tree}(h:ownB t=true):t.kind=1∨t.kind=2∨t.kind=3∨t.kind=4∨t.kind=5∨t.kind=6∨t.kind=7:=by
 unfold ownB at h
 repeat' (split at h)
 all_goals first
  | contradiction
  | omega
theorem own_shape{t:Tree}(h:ownB t=true) :
  (t.kind=1→t = .mk 1 false .zero [] [] [])∧(t.kind=2→t = .mk 2 t.b .zero [] [] [])∧(t.kind=3→t = .mk 3 false t.n [] [] []∧nokB t.n=true)∧(t.kind=4→t = .mk 4 false .zero t.s [] [])∧(t.kind=5→t = .mk 5 false .zero t.s [] []) ∧
  (t.kind=6→t = .mk 6 false .zero [] [] t.v)∧(t.kind=7→t = .mk 7 false .zero [] t.k t.v∧NmsP t.k∧t.k.length=t.v.length):=by
 refine⟨fun hk => ?_,fun hk => ?_,fun hk => ?_,fun hk => ?_,fun hk => ?_,fun hk => ?_,fun hk => ?_⟩
 ·rw[own_1 hk]at h
  simp only[zG,Bool.not_eq_true',decide_eq_true_eq]at h
  obtain⟨⟨⟨⟨h1,h2⟩,h3⟩,h4⟩,h5⟩:=h
  have e:=t.eta
  rw[hk,h1,numZ_eq h2,h3,k0_eq h4,v0_eq h5]at e;exact e
 ·rw[own_2 hk]at h
  simp only[zG,Bool.not_eq_true',decide_eq_true_eq,Bool.true_and]at h
  obtain⟨⟨⟨h2,h3⟩,h4⟩,h5⟩:=h
  have e:=t.eta
  rw[hk,numZ_eq h2,h3,k0_eq h4,v0_eq h5]at e;exact e
 ·rw[own_3 hk]at h
  simp only[zG,Bool.not_eq_true',decide_eq_true_eq]at h
  obtain⟨⟨⟨⟨h1,h2⟩,h3⟩,h4⟩,h5⟩:=h
  have e:=t.eta
  rw[hk,h1,h3,k0_eq h4,v0_eq h5]at e;exact⟨e,h2⟩
 ·rw[own_4 hk]at h
  simp only[zG,Bool.not_eq_true',decide_eq_true_eq]at h
  obtain⟨⟨⟨⟨h1,h2⟩,h3⟩,h4⟩,h5⟩:=h
  have e:=t.eta
  rw[hk,h1,numZ_eq h2,k0_eq h4,v0_eq h5]at e;exact e
 ·rw[own_5 hk]at h
  simp only[zG,Bool.not_eq_true',decide_eq_true_eq]at h
  obtain⟨⟨⟨⟨h1,h2⟩,h3⟩,h4⟩,h5⟩:=h
  have e:=t.eta
  rw[hk,h1,numZ_eq h2,k0_eq h4,v0_eq h5]at e;exact e
 ·rw[own_6 hk]at h
  simp only[zG,Bool.not_eq_true',decide_eq_true_eq]at h
  obtain⟨⟨⟨⟨h1,h2⟩,h3⟩,h4⟩,h5⟩:=h
  have e:=t.eta
  rw[hk,h1,numZ_eq h2,h3,k0_eq h4]at e;exact e
 ·rw[own_7 hk]at h
  simp only[zG,Bool.not_eq_true',decide_eq_true_eq]at h
  obtain⟨⟨⟨⟨h1,h2⟩,h3⟩,h4,h4'⟩,h5⟩:=h
  have e:=t.eta
  rw[hk,h1,numZ_eq h2,h3]at e;exact⟨e,(nmsB_iff _).1 h4,h4'⟩
theorem TameT.tame{t:Tree}(h:TameT t):Tame t:=by cases h;assumption
theorem TameT.sub{t:Tree}(h:TameT t) : ∀ x,x∈t.v→TameT x:=by cases h;assumption
end Go.Ev
