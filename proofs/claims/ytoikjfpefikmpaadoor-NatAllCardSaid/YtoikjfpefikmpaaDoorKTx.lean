/- What is told of the library's functions is so. -/
import Derived.Test.YtoikjfpefikmpaaDoorKEvE
import Derived.Test.YtoikjfpefikmpaaDoorKCode
import Derived.Test.YtoikjfpefikmpaaDoorProg
import Derived.KernelRfl
set_option linter.all false
namespace Go.Ev
open Go.Proofs Go.Shelf
set_option maxRecDepth 100000
def ren_b:Ren:=⟨fun i=>match i with | 166=>40 | 169=>42 | 240=>48 | 276=>53 | _=>0,fun i=>match i with | 0=>0 | 3=>3 | 4=>4 | 5=>5 | 9=>9 | 20=>20 | 37=>53 | 70=>54 | 72=>56 | 75=>58 | 80=>62 | 127=>73 | 164=>74 | _=>0,fun _=>0⟩
theorem lays_b166:Lays.n166 Go.Proofs.Tryd.prog ren_b where
 mixed:=by kernel_rfl
 f166:=by kernel_rfl
 f240:=by kernel_rfl
 f276:=by kernel_rfl
 t0:=by kernel_rfl
 a0:=fun w=>by kernel_rfl
 z0:=fun w=>by kernel_rfl
 v0:=fun w=>by kernel_rfl
 t3:=by kernel_rfl
 a3:=fun w=>by kernel_rfl
 z3:=fun w=>by kernel_rfl
 v3:=fun w=>by kernel_rfl
 t4:=by kernel_rfl
 a4:=fun w=>by kernel_rfl
 z4:=fun w=>by kernel_rfl
 v4:=fun w=>by kernel_rfl
 t9:=by kernel_rfl
 a9:=fun w=>by kernel_rfl
 z9:=fun w=>by kernel_rfl
 v9:=fun w=>by kernel_rfl
 t20:=by kernel_rfl
 a20:=fun w=>by kernel_rfl
 z20:=fun w=>by kernel_rfl
 v20:=fun w=>by kernel_rfl
 t37:=by kernel_rfl
 a37:=fun w=>by kernel_rfl
 z37:=fun w=>by kernel_rfl
 v37:=fun w=>by kernel_rfl
 t70:=by kernel_rfl
 a70:=fun w=>by kernel_rfl
 z70:=fun w=>by kernel_rfl
 v70:=fun w=>by kernel_rfl
 t72:=by kernel_rfl
 a72:=fun w=>by kernel_rfl
 z72:=fun w=>by kernel_rfl
 v72:=fun w=>by kernel_rfl
 t75:=by kernel_rfl
 a75:=fun w=>by kernel_rfl
 z75:=fun w=>by kernel_rfl
 v75:=fun w=>by kernel_rfl
 t164:=by kernel_rfl
 a164:=fun w=>by kernel_rfl
 z164:=fun w=>by kernel_rfl
 v164:=fun w=>by kernel_rfl
theorem lays_b169:Lays.n169 Go.Proofs.Tryd.prog ren_b where
 mixed:=by kernel_rfl
 f169:=by kernel_rfl
 t0:=by kernel_rfl
 a0:=fun w=>by kernel_rfl
 z0:=fun w=>by kernel_rfl
 v0:=fun w=>by kernel_rfl
 t3:=by kernel_rfl
 a3:=fun w=>by kernel_rfl
 z3:=fun w=>by kernel_rfl
 v3:=fun w=>by kernel_rfl
 t9:=by kernel_rfl
 a9:=fun w=>by kernel_rfl
 z9:=fun w=>by kernel_rfl
 v9:=fun w=>by kernel_rfl
 t37:=by kernel_rfl
 a37:=fun w=>by kernel_rfl
 z37:=fun w=>by kernel_rfl
 v37:=fun w=>by kernel_rfl
 t70:=by kernel_rfl
 a70:=fun w=>by kernel_rfl
 z70:=fun w=>by kernel_rfl
 v70:=fun w=>by kernel_rfl
 t72:=by kernel_rfl
 a72:=fun w=>by kernel_rfl
 z72:=fun w=>by kernel_rfl
 v72:=fun w=>by kernel_rfl
 t127:=by kernel_rfl
 a127:=fun w=>by kernel_rfl
 z127:=fun w=>by kernel_rfl
 v127:=fun w=>by kernel_rfl
theorem extra_b:Builder.Extra Go.Proofs.Tryd.prog ren_b where
 sizeBuilder:=by kernel_rfl
 liesBuilder:=by kernel_rfl
 t5:=by kernel_rfl
 a5:=fun w=>by kernel_rfl
 z5:=fun w=>by kernel_rfl
 v5:=fun w=>by kernel_rfl
 infoByte:=by kernel_rfl
 cellsByte:=by kernel_rfl
 sizeByte:=by kernel_rfl
 neB5:=by decide
theorem effOk : ∀ f e,E0.ext f=some (.eff e) → ∀ ds st d st' (S:G) (vs:List Value),effD e ds st=some (d,st')→Inv S st→RepL S ds vs →
  Does Go.Proofs.Tryd.prog f vs.toArray S.w fun e w' => ∃ S',S'.w=w'∧Ext S S'∧Inv S' st' ∧ ∃ v,e = .returned v∧Rep S' d v:=by
 intro f e hx
 have hx:ex0 f=some (.eff e):=hx
 unfold ex0 at hx
 split at hx<;>first | contradiction | (injection hx with hx;contradiction) | skip
 ·injection hx with hx;injection hx with hx;subst hx
  exact does_ws lays_b166 extra_b
 ·injection hx with hx;injection hx with hx;subst hx
  exact does_bs lays_b169 extra_b
theorem extOk : ∀ f h,E0.ext f=some (.fn h) → ∀ ds0 ds d,h ds0 ds=some d → ∀ (S:G) (st:St) (vs:List Value),Inv S st→RepL S ds0 vs→RepL S ds vs→GlOk S E0 →
  Does Go.Proofs.Tryd.prog f vs.toArray S.w fun e w' => ∃ S',S'.w=w'∧Ext S S'∧Inv S' (told st d).2 ∧ ∃ v,e = .returned v∧Rep S' (told st d).1 v:=by
 intro f h hx
 have hx:ex0 f=some (.fn h):=hx
 unfold ex0 at hx
 split at hx<;>first | contradiction | (injection hx with hx;contradiction) | skip
end Go.Ev
