/- What is told of the library's functions is so. -/
import Derived.Test.YtnefgdahdccldaaGreatDoorKEvF
import Derived.Test.YtnefgdahdccldaaGreatDoorKCode
import Derived.Test.YtnefgdahdccldaaGreatDoorProg
import Derived.KernelRfl
set_option linter.all false
noncomputable section
namespace Go.Ev
open Go.Proofs Go.Shelf
set_option maxRecDepth 100000
def zyY:Ren:=⟨fun i=>match i with | 22=>118 | 29=>130 | 30=>131 | _=>0,fun i=>match i with | 0=>0 | 3=>3 | 4=>4 | 9=>9 | 24=>25 | _=>0,fun _=>0⟩
def info_118:TypeInfo:=(Go.Proofs.Tryz.prog.info? 9).get (by kernel_rfl)
def zxW:Value:=info_118.zero.getD (.bool false)
theorem zxl:zvM Go.Proofs.Tryz.prog zyY 1 16 zxW where
 mixed:=by kernel_rfl
 f22:=⟨"slices.Insert[[]string,string]",by decide,by kernel_rfl⟩
 t0:=by kernel_rfl
 t3:=by kernel_rfl
 t4:=by kernel_rfl
 t24:=by kernel_rfl
 a0:=fun w=>by kernel_rfl
 z0:=fun w=>by kernel_rfl
 v0:=fun w=>by kernel_rfl
 a3:=fun w=>by kernel_rfl
 z3:=fun w=>by kernel_rfl
 v3:=fun w=>by kernel_rfl
 a4:=fun w=>by kernel_rfl
 z4:=fun w=>by kernel_rfl
 v4:=fun w=>by kernel_rfl
 a24:=fun w=>by kernel_rfl
 z24:=fun w=>by kernel_rfl
 v24:=fun w=>by kernel_rfl
 i9:=⟨info_118,by kernel_rfl,by kernel_rfl,by kernel_rfl,by kernel_rfl⟩
 zk:=by kernel_rfl
 k0:=by decide
def zzu:Ren:=⟨fun i=>match i with | 22=>119 | 29=>132 | 30=>133 | _=>0,fun i=>match i with | 0=>0 | 3=>3 | 4=>4 | 9=>28 | 24=>26 | _=>0,fun _=>0⟩
def info_119:TypeInfo:=(Go.Proofs.Tryz.prog.info? 28).get (by kernel_rfl)
def zwI:Value:=info_119.zero.getD (.bool false)
theorem zya:zvM Go.Proofs.Tryz.prog zzu 8 120 zwI where
 mixed:=by kernel_rfl
 f22:=⟨"slices.Insert[[]erratum/api.Tree,erratum/api.Tree]",by decide,by kernel_rfl⟩
 t0:=by kernel_rfl
 t3:=by kernel_rfl
 t4:=by kernel_rfl
 t24:=by kernel_rfl
 a0:=fun w=>by kernel_rfl
 z0:=fun w=>by kernel_rfl
 v0:=fun w=>by kernel_rfl
 a3:=fun w=>by kernel_rfl
 z3:=fun w=>by kernel_rfl
 v3:=fun w=>by kernel_rfl
 a4:=fun w=>by kernel_rfl
 z4:=fun w=>by kernel_rfl
 v4:=fun w=>by kernel_rfl
 a24:=fun w=>by kernel_rfl
 z24:=fun w=>by kernel_rfl
 v24:=fun w=>by kernel_rfl
 i9:=⟨info_119,by kernel_rfl,by kernel_rfl,by kernel_rfl,by kernel_rfl⟩
 zk:=by kernel_rfl
 k0:=by decide
def zzy:Ren:=⟨fun i=>match i with | 4=>120 | _=>0,fun i=>match i with | 0=>0 | 3=>3 | 4=>4 | 9=>9 | 20=>20 | 22=>26 | 25=>28 | _=>0,fun _=>0⟩
def info_120:TypeInfo:=(Go.Proofs.Tryz.prog.info? 28).get (by kernel_rfl)
def zxA:Value:=info_120.zero.getD (.bool false)
theorem zwG:Lays8.n4 Go.Proofs.Tryz.prog zzy where
 mixed:=by kernel_rfl
 f4:=⟨"slices.Grow[[]erratum/api.Tree,erratum/api.Tree]",by decide,by kernel_rfl⟩
 t0:=by kernel_rfl
 t3:=by kernel_rfl
 t4:=by kernel_rfl
 t9:=by kernel_rfl
 t20:=by kernel_rfl
 t22:=by kernel_rfl
 a0:=fun w=>by kernel_rfl
 z0:=fun w=>by kernel_rfl
 v0:=fun w=>by kernel_rfl
 a3:=fun w=>by kernel_rfl
 z3:=fun w=>by kernel_rfl
 v3:=fun w=>by kernel_rfl
 a4:=fun w=>by kernel_rfl
 z4:=fun w=>by kernel_rfl
 v4:=fun w=>by kernel_rfl
 a9:=fun w=>by kernel_rfl
 z9:=fun w=>by kernel_rfl
 v9:=fun w=>by kernel_rfl
 a20:=fun w=>by kernel_rfl
 z20:=fun w=>by kernel_rfl
 v20:=fun w=>by kernel_rfl
 a22:=fun w=>by kernel_rfl
 z22:=fun w=>by kernel_rfl
 v22:=fun w=>by kernel_rfl
def zy2:Ren:=⟨fun i=>match i with | 4=>134 | _=>0,fun i=>match i with | 0=>0 | 3=>3 | 4=>4 | 9=>9 | 20=>20 | 22=>25 | 25=>9 | _=>0,fun _=>0⟩
def info_134:TypeInfo:=(Go.Proofs.Tryz.prog.info? 9).get (by kernel_rfl)
def zxO:Value:=info_134.zero.getD (.bool false)
theorem zxS:Lays8.n4 Go.Proofs.Tryz.prog zy2 where
 mixed:=by kernel_rfl
 f4:=⟨"slices.Grow[[]string,string]",by decide,by kernel_rfl⟩
 t0:=by kernel_rfl
 t3:=by kernel_rfl
 t4:=by kernel_rfl
 t9:=by kernel_rfl
 t20:=by kernel_rfl
 t22:=by kernel_rfl
 a0:=fun w=>by kernel_rfl
 z0:=fun w=>by kernel_rfl
 v0:=fun w=>by kernel_rfl
 a3:=fun w=>by kernel_rfl
 z3:=fun w=>by kernel_rfl
 v3:=fun w=>by kernel_rfl
 a4:=fun w=>by kernel_rfl
 z4:=fun w=>by kernel_rfl
 v4:=fun w=>by kernel_rfl
 a9:=fun w=>by kernel_rfl
 z9:=fun w=>by kernel_rfl
 v9:=fun w=>by kernel_rfl
 a20:=fun w=>by kernel_rfl
 z20:=fun w=>by kernel_rfl
 v20:=fun w=>by kernel_rfl
 a22:=fun w=>by kernel_rfl
 z22:=fun w=>by kernel_rfl
 v22:=fun w=>by kernel_rfl
theorem zBR : ∀ f e,E0.ext f=some (.eff e) -> ∀ ds st d st' (S:G) (vs:List Value),effD e ds st=some (d,st')->Inv S st->RepL S ds vs ->
  Does Go.Proofs.Tryz.prog f vs.toArray S.w fun e w' => ∃ S',S'.w=w'/\Ext S S'/\Inv S' st' /\ ∃ v,e = .returned v/\Rep S' d v:=by
 intro f e hx;have hx:ex0 f=some (.eff e):=hx;unfold ex0 at hx;split at hx<;>first | contradiction | (injection hx with hx;contradiction) | skip
theorem zA7 : ∀ f h,E0.ext f=some (.fn h) -> ∀ ds0 ds d,h ds0 ds=some d -> ∀ (S:G) (st:St) (vs:List Value),Inv S st->RepL S ds0 vs->RepL S ds vs->GlOk S E0 ->
  Does Go.Proofs.Tryz.prog f vs.toArray S.w fun e w' => ∃ S',S'.w=w'/\Ext S S'/\Inv S' (told st d).2 /\ ∃ v,e = .returned v/\Rep S' (told st d).1 v:=by
 intro f h hx;have hx:ex0 f=some (.fn h):=hx;unfold ex0 at hx;split at hx<;>first | contradiction | (injection hx with hx;contradiction) | skip
 ·injection hx with hx;injection hx with hx;subst hx;exact zf1 zxl
 ·injection hx with hx;injection hx with hx;subst hx;exact zf1 zya
 ·injection hx with hx;injection hx with hx;subst hx;exact zlf zwG (i0:=info_120) (z:=zxA) (by kernel_rfl) (by kernel_rfl) (by kernel_rfl) (by kernel_rfl) (by decide) (by kernel_rfl)
 ·injection hx with hx;injection hx with hx;subst hx;exact zlf zxS (i0:=info_134) (z:=zxO) (by kernel_rfl) (by kernel_rfl) (by kernel_rfl) (by kernel_rfl) (by decide) (by kernel_rfl)
end Go.Ev
end
