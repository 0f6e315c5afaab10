/- What is told of the library's functions is so. -/
import Derived.Test.YtineambfljmbgaaKEvE
import Derived.Test.YtineambfljmbgaaKCode
import Derived.Test.YtineambfljmbgaaProg
import Derived.KernelRfl
set_option linter.all false
namespace Go.Ev
open Go.Proofs Go.Shelf
set_option maxRecDepth 100000
def ren_34 : Ren := ⟨fun i => match i with | 22 => 34 | 29 => 46 | 30 => 47 | _ => 0, fun i => match i with | 0 => 0 | 3 => 3 | 4 => 4 | 9 => 9 | 24 => 27 | _ => 0, fun _ => 0⟩
noncomputable def info_34 : TypeInfo := (Go.Proofs.Try.prog.info? 9).get (by kernel_rfl)
noncomputable def zero_34 : Value := info_34.zero.getD (.bool false)
theorem lays_34 : InsL Go.Proofs.Try.prog ren_34 1 16 zero_34 where
  mixed := by kernel_rfl
  f22 := ⟨"slices.Insert[[]string,string]", by decide, by kernel_rfl⟩
  t0 := by kernel_rfl
  t3 := by kernel_rfl
  t4 := by kernel_rfl
  t24 := by kernel_rfl
  a0 := fun w => by kernel_rfl
  z0 := fun w => by kernel_rfl
  v0 := fun w => by kernel_rfl
  a3 := fun w => by kernel_rfl
  z3 := fun w => by kernel_rfl
  v3 := fun w => by kernel_rfl
  a4 := fun w => by kernel_rfl
  z4 := fun w => by kernel_rfl
  v4 := fun w => by kernel_rfl
  a24 := fun w => by kernel_rfl
  z24 := fun w => by kernel_rfl
  v24 := fun w => by kernel_rfl
  i9 := ⟨info_34, by kernel_rfl, by kernel_rfl, by kernel_rfl, by kernel_rfl⟩
  zk := by kernel_rfl
  k0 := by decide
def ren_35 : Ren := ⟨fun i => match i with | 22 => 35 | 29 => 48 | 30 => 49 | _ => 0, fun i => match i with | 0 => 0 | 3 => 3 | 4 => 4 | 9 => 30 | 24 => 28 | _ => 0, fun _ => 0⟩
noncomputable def info_35 : TypeInfo := (Go.Proofs.Try.prog.info? 30).get (by kernel_rfl)
noncomputable def zero_35 : Value := info_35.zero.getD (.bool false)
theorem lays_35 : InsL Go.Proofs.Try.prog ren_35 8 120 zero_35 where
  mixed := by kernel_rfl
  f22 := ⟨"slices.Insert[[]erratum/api.Tree,erratum/api.Tree]", by decide, by kernel_rfl⟩
  t0 := by kernel_rfl
  t3 := by kernel_rfl
  t4 := by kernel_rfl
  t24 := by kernel_rfl
  a0 := fun w => by kernel_rfl
  z0 := fun w => by kernel_rfl
  v0 := fun w => by kernel_rfl
  a3 := fun w => by kernel_rfl
  z3 := fun w => by kernel_rfl
  v3 := fun w => by kernel_rfl
  a4 := fun w => by kernel_rfl
  z4 := fun w => by kernel_rfl
  v4 := fun w => by kernel_rfl
  a24 := fun w => by kernel_rfl
  z24 := fun w => by kernel_rfl
  v24 := fun w => by kernel_rfl
  i9 := ⟨info_35, by kernel_rfl, by kernel_rfl, by kernel_rfl, by kernel_rfl⟩
  zk := by kernel_rfl
  k0 := by decide
def ren_44 : Ren := ⟨fun i => match i with | 4 => 44 | _ => 0, fun i => match i with | 0 => 0 | 3 => 3 | 4 => 4 | 9 => 9 | 20 => 20 | 22 => 27 | 25 => 9 | _ => 0, fun _ => 0⟩
noncomputable def info_44 : TypeInfo := (Go.Proofs.Try.prog.info? 9).get (by kernel_rfl)
noncomputable def zero_44 : Value := info_44.zero.getD (.bool false)
theorem lays_44 : Lays8.n4 Go.Proofs.Try.prog ren_44 where
  mixed := by kernel_rfl
  f4 := ⟨"slices.Grow[[]string,string]", by decide, by kernel_rfl⟩
  t0 := by kernel_rfl
  t3 := by kernel_rfl
  t4 := by kernel_rfl
  t9 := by kernel_rfl
  t20 := by kernel_rfl
  t22 := by kernel_rfl
  a0 := fun w => by kernel_rfl
  z0 := fun w => by kernel_rfl
  v0 := fun w => by kernel_rfl
  a3 := fun w => by kernel_rfl
  z3 := fun w => by kernel_rfl
  v3 := fun w => by kernel_rfl
  a4 := fun w => by kernel_rfl
  z4 := fun w => by kernel_rfl
  v4 := fun w => by kernel_rfl
  a9 := fun w => by kernel_rfl
  z9 := fun w => by kernel_rfl
  v9 := fun w => by kernel_rfl
  a20 := fun w => by kernel_rfl
  z20 := fun w => by kernel_rfl
  v20 := fun w => by kernel_rfl
  a22 := fun w => by kernel_rfl
  z22 := fun w => by kernel_rfl
  v22 := fun w => by kernel_rfl
def ren_45 : Ren := ⟨fun i => match i with | 4 => 45 | _ => 0, fun i => match i with | 0 => 0 | 3 => 3 | 4 => 4 | 9 => 9 | 20 => 20 | 22 => 28 | 25 => 30 | _ => 0, fun _ => 0⟩
noncomputable def info_45 : TypeInfo := (Go.Proofs.Try.prog.info? 30).get (by kernel_rfl)
noncomputable def zero_45 : Value := info_45.zero.getD (.bool false)
theorem lays_45 : Lays8.n4 Go.Proofs.Try.prog ren_45 where
  mixed := by kernel_rfl
  f4 := ⟨"slices.Grow[[]erratum/api.Tree,erratum/api.Tree]", by decide, by kernel_rfl⟩
  t0 := by kernel_rfl
  t3 := by kernel_rfl
  t4 := by kernel_rfl
  t9 := by kernel_rfl
  t20 := by kernel_rfl
  t22 := by kernel_rfl
  a0 := fun w => by kernel_rfl
  z0 := fun w => by kernel_rfl
  v0 := fun w => by kernel_rfl
  a3 := fun w => by kernel_rfl
  z3 := fun w => by kernel_rfl
  v3 := fun w => by kernel_rfl
  a4 := fun w => by kernel_rfl
  z4 := fun w => by kernel_rfl
  v4 := fun w => by kernel_rfl
  a9 := fun w => by kernel_rfl
  z9 := fun w => by kernel_rfl
  v9 := fun w => by kernel_rfl
  a20 := fun w => by kernel_rfl
  z20 := fun w => by kernel_rfl
  v20 := fun w => by kernel_rfl
  a22 := fun w => by kernel_rfl
  z22 := fun w => by kernel_rfl
  v22 := fun w => by kernel_rfl
theorem extOk : ∀ f h, E0.ext f = some h → ∀ ds0 ds d, h ds0 ds = some d → ∀ (S : G) (st : St) (vs : List Value), Inv S st → RepL S ds0 vs → RepL S ds vs → GlOk S E0 →
    Does Go.Proofs.Try.prog f vs.toArray S.w fun e w' => ∃ S', S'.w = w' ∧ Ext S S' ∧ Inv S' (told st d).2 ∧ ∃ v, e = .returned v ∧ Rep S' (told st d).1 v := by
  intro f h hx
  have hx : ex0 f = some h := hx
  unfold ex0 at hx
  split at hx <;> first | contradiction | skip
  · injection hx with hx; subst hx
    exact does_insert lays_34
  · injection hx with hx; subst hx
    exact does_insert lays_35
  · injection hx with hx; subst hx
    exact does_grow lays_44 (i0 := info_44) (z := zero_44) (by kernel_rfl) (by kernel_rfl) (by kernel_rfl) (by kernel_rfl) (by decide) (by kernel_rfl)
  · injection hx with hx; subst hx
    exact does_grow lays_45 (i0 := info_45) (z := zero_45) (by kernel_rfl) (by kernel_rfl) (by kernel_rfl) (by kernel_rfl) (by decide) (by kernel_rfl)
end Go.Ev
