/- What is told of the library's functions is so. -/
import Derived.Test.YtdhfnobijejpcaaDoorKEvE
import Derived.Test.YtdhfnobijejpcaaDoorKCode
import Derived.Test.YtdhfnobijejpcaaDoorProg
import Derived.KernelRfl
set_option linter.all false
namespace Go.Ev
open Go.Proofs Go.Shelf
set_option maxRecDepth 100000
def ren_54:Ren:=⟨fun i=>match i with | 22=>54 | 29=>74 | 30=>75 | _=>0,fun i=>match i with | 0=>0 | 3=>3 | 4=>4 | 9=>9 | 24=>26 | _=>0,fun _=>0⟩
noncomputable def info_54:TypeInfo:=(Go.Proofs.Tryd.prog.info? 9).get (by kernel_rfl)
noncomputable def zero_54:Value:=info_54.zero.getD (.bool false)
theorem lays_54:InsL Go.Proofs.Tryd.prog ren_54 1 16 zero_54 where
 mixed:=by kernel_rfl
 f22:=⟨"slices.Insert[[]string,string]",by decide,by kernel_rfl⟩
 t0:=by kernel_rfl
 t3:=by kernel_rfl
 t4:=by kernel_rfl
 t24:=by kernel_rfl
 a0:=fun w=>by kernel_rfl
 z0:=fun w=>by kernel_rfl
 v0:=fun w=>by kernel_rfl
 a3:=fun w=>by kernel_rfl
 z3:=fun w=>by kernel_rfl
 v3:=fun w=>by kernel_rfl
 a4:=fun w=>by kernel_rfl
 z4:=fun w=>by kernel_rfl
 v4:=fun w=>by kernel_rfl
 a24:=fun w=>by kernel_rfl
 z24:=fun w=>by kernel_rfl
 v24:=fun w=>by kernel_rfl
 i9:=⟨info_54,by kernel_rfl,by kernel_rfl,by kernel_rfl,by kernel_rfl⟩
 zk:=by kernel_rfl
 k0:=by decide
def ren_55:Ren:=⟨fun i=>match i with | 22=>55 | 29=>76 | 30=>77 | _=>0,fun i=>match i with | 0=>0 | 3=>3 | 4=>4 | 9=>29 | 24=>27 | _=>0,fun _=>0⟩
noncomputable def info_55:TypeInfo:=(Go.Proofs.Tryd.prog.info? 29).get (by kernel_rfl)
noncomputable def zero_55:Value:=info_55.zero.getD (.bool false)
theorem lays_55:InsL Go.Proofs.Tryd.prog ren_55 8 120 zero_55 where
 mixed:=by kernel_rfl
 f22:=⟨"slices.Insert[[]erratum/api.Tree,erratum/api.Tree]",by decide,by kernel_rfl⟩
 t0:=by kernel_rfl
 t3:=by kernel_rfl
 t4:=by kernel_rfl
 t24:=by kernel_rfl
 a0:=fun w=>by kernel_rfl
 z0:=fun w=>by kernel_rfl
 v0:=fun w=>by kernel_rfl
 a3:=fun w=>by kernel_rfl
 z3:=fun w=>by kernel_rfl
 v3:=fun w=>by kernel_rfl
 a4:=fun w=>by kernel_rfl
 z4:=fun w=>by kernel_rfl
 v4:=fun w=>by kernel_rfl
 a24:=fun w=>by kernel_rfl
 z24:=fun w=>by kernel_rfl
 v24:=fun w=>by kernel_rfl
 i9:=⟨info_55,by kernel_rfl,by kernel_rfl,by kernel_rfl,by kernel_rfl⟩
 zk:=by kernel_rfl
 k0:=by decide
def ren_78:Ren:=⟨fun i=>match i with | 4=>78 | _=>0,fun i=>match i with | 0=>0 | 3=>3 | 4=>4 | 9=>9 | 20=>20 | 22=>26 | 25=>9 | _=>0,fun _=>0⟩
noncomputable def info_78:TypeInfo:=(Go.Proofs.Tryd.prog.info? 9).get (by kernel_rfl)
noncomputable def zero_78:Value:=info_78.zero.getD (.bool false)
theorem lays_78:Lays8.n4 Go.Proofs.Tryd.prog ren_78 where
 mixed:=by kernel_rfl
 f4:=⟨"slices.Grow[[]string,string]",by decide,by kernel_rfl⟩
 t0:=by kernel_rfl
 t3:=by kernel_rfl
 t4:=by kernel_rfl
 t9:=by kernel_rfl
 t20:=by kernel_rfl
 t22:=by kernel_rfl
 a0:=fun w=>by kernel_rfl
 z0:=fun w=>by kernel_rfl
 v0:=fun w=>by kernel_rfl
 a3:=fun w=>by kernel_rfl
 z3:=fun w=>by kernel_rfl
 v3:=fun w=>by kernel_rfl
 a4:=fun w=>by kernel_rfl
 z4:=fun w=>by kernel_rfl
 v4:=fun w=>by kernel_rfl
 a9:=fun w=>by kernel_rfl
 z9:=fun w=>by kernel_rfl
 v9:=fun w=>by kernel_rfl
 a20:=fun w=>by kernel_rfl
 z20:=fun w=>by kernel_rfl
 v20:=fun w=>by kernel_rfl
 a22:=fun w=>by kernel_rfl
 z22:=fun w=>by kernel_rfl
 v22:=fun w=>by kernel_rfl
def ren_79:Ren:=⟨fun i=>match i with | 4=>79 | _=>0,fun i=>match i with | 0=>0 | 3=>3 | 4=>4 | 9=>9 | 20=>20 | 22=>27 | 25=>29 | _=>0,fun _=>0⟩
noncomputable def info_79:TypeInfo:=(Go.Proofs.Tryd.prog.info? 29).get (by kernel_rfl)
noncomputable def zero_79:Value:=info_79.zero.getD (.bool false)
theorem lays_79:Lays8.n4 Go.Proofs.Tryd.prog ren_79 where
 mixed:=by kernel_rfl
 f4:=⟨"slices.Grow[[]erratum/api.Tree,erratum/api.Tree]",by decide,by kernel_rfl⟩
 t0:=by kernel_rfl
 t3:=by kernel_rfl
 t4:=by kernel_rfl
 t9:=by kernel_rfl
 t20:=by kernel_rfl
 t22:=by kernel_rfl
 a0:=fun w=>by kernel_rfl
 z0:=fun w=>by kernel_rfl
 v0:=fun w=>by kernel_rfl
 a3:=fun w=>by kernel_rfl
 z3:=fun w=>by kernel_rfl
 v3:=fun w=>by kernel_rfl
 a4:=fun w=>by kernel_rfl
 z4:=fun w=>by kernel_rfl
 v4:=fun w=>by kernel_rfl
 a9:=fun w=>by kernel_rfl
 z9:=fun w=>by kernel_rfl
 v9:=fun w=>by kernel_rfl
 a20:=fun w=>by kernel_rfl
 z20:=fun w=>by kernel_rfl
 v20:=fun w=>by kernel_rfl
 a22:=fun w=>by kernel_rfl
 z22:=fun w=>by kernel_rfl
 v22:=fun w=>by kernel_rfl
theorem extOk : ∀ f h,E0.ext f=some h → ∀ ds0 ds d,h ds0 ds=some d → ∀ (S:G) (st:St) (vs:List Value),Inv S st→RepL S ds0 vs→RepL S ds vs→GlOk S E0 →
  Does Go.Proofs.Tryd.prog f vs.toArray S.w fun e w' => ∃ S',S'.w=w'∧Ext S S'∧Inv S' (told st d).2 ∧ ∃ v,e = .returned v∧Rep S' (told st d).1 v:=by
 intro f h hx
 have hx:ex0 f=some h:=hx
 unfold ex0 at hx
 split at hx<;>first | contradiction | skip
 ·injection hx with hx;subst hx
  exact does_insert lays_54
 ·injection hx with hx;subst hx
  exact does_insert lays_55
 ·injection hx with hx;subst hx
  exact does_grow lays_78 (i0:=info_78) (z:=zero_78) (by kernel_rfl) (by kernel_rfl) (by kernel_rfl) (by kernel_rfl) (by decide) (by kernel_rfl)
 ·injection hx with hx;subst hx
  exact does_grow lays_79 (i0:=info_79) (z:=zero_79) (by kernel_rfl) (by kernel_rfl) (by kernel_rfl) (by kernel_rfl) (by decide) (by kernel_rfl)
end Go.Ev
