/- What is told of the library's functions is so. -/
import Derived.Test.YtnefgdahdccldaaDoorKEvF
import Derived.Test.YtnefgdahdccldaaDoorKCode
import Derived.Test.YtnefgdahdccldaaDoorProg
import Derived.KernelRfl
set_option linter.all false
noncomputable section
namespace Go.Ev
open Go.Proofs Go.Shelf
set_option maxRecDepth 100000
def zzR:Ren:=⟨fun i=>match i with | 22=>69 | 29=>84 | 30=>85 | _=>0,fun i=>match i with | 0=>0 | 3=>3 | 4=>4 | 9=>9 | 24=>26 | _=>0,fun _=>0⟩
def info_69:TypeInfo:=(Go.Proofs.Tryd.prog.info? 9).get (by kernel_rfl)
def zxh:Value:=info_69.zero.getD (.bool false)
theorem zxE:zuA Go.Proofs.Tryd.prog zzR 1 16 zxh where
 mixed:=by kernel_rfl
 f22:=⟨"slices.Insert[[]string,string]",by decide,by kernel_rfl⟩
 t0:=by kernel_rfl
 t3:=by kernel_rfl
 t4:=by kernel_rfl
 t24:=by kernel_rfl
 a0:=fun w=>by kernel_rfl
 z0:=fun w=>by kernel_rfl
 v0:=fun w=>by kernel_rfl
 a3:=fun w=>by kernel_rfl
 z3:=fun w=>by kernel_rfl
 v3:=fun w=>by kernel_rfl
 a4:=fun w=>by kernel_rfl
 z4:=fun w=>by kernel_rfl
 v4:=fun w=>by kernel_rfl
 a24:=fun w=>by kernel_rfl
 z24:=fun w=>by kernel_rfl
 v24:=fun w=>by kernel_rfl
 i9:=⟨info_69,by kernel_rfl,by kernel_rfl,by kernel_rfl,by kernel_rfl⟩
 zk:=by kernel_rfl
 k0:=by decide
def zzt:Ren:=⟨fun i=>match i with | 22=>70 | 29=>86 | 30=>87 | _=>0,fun i=>match i with | 0=>0 | 3=>3 | 4=>4 | 9=>29 | 24=>27 | _=>0,fun _=>0⟩
def info_70:TypeInfo:=(Go.Proofs.Tryd.prog.info? 29).get (by kernel_rfl)
def zyg:Value:=info_70.zero.getD (.bool false)
theorem zxM:zuA Go.Proofs.Tryd.prog zzt 8 120 zyg where
 mixed:=by kernel_rfl
 f22:=⟨"slices.Insert[[]erratum/api.Tree,erratum/api.Tree]",by decide,by kernel_rfl⟩
 t0:=by kernel_rfl
 t3:=by kernel_rfl
 t4:=by kernel_rfl
 t24:=by kernel_rfl
 a0:=fun w=>by kernel_rfl
 z0:=fun w=>by kernel_rfl
 v0:=fun w=>by kernel_rfl
 a3:=fun w=>by kernel_rfl
 z3:=fun w=>by kernel_rfl
 v3:=fun w=>by kernel_rfl
 a4:=fun w=>by kernel_rfl
 z4:=fun w=>by kernel_rfl
 v4:=fun w=>by kernel_rfl
 a24:=fun w=>by kernel_rfl
 z24:=fun w=>by kernel_rfl
 v24:=fun w=>by kernel_rfl
 i9:=⟨info_70,by kernel_rfl,by kernel_rfl,by kernel_rfl,by kernel_rfl⟩
 zk:=by kernel_rfl
 k0:=by decide
def zzc:Ren:=⟨fun i=>match i with | 4=>71 | _=>0,fun i=>match i with | 0=>0 | 3=>3 | 4=>4 | 9=>9 | 20=>20 | 22=>27 | 25=>29 | _=>0,fun _=>0⟩
def info_71:TypeInfo:=(Go.Proofs.Tryd.prog.info? 29).get (by kernel_rfl)
def zxU:Value:=info_71.zero.getD (.bool false)
theorem zym:Lays8.n4 Go.Proofs.Tryd.prog zzc where
 mixed:=by kernel_rfl
 f4:=⟨"slices.Grow[[]erratum/api.Tree,erratum/api.Tree]",by decide,by kernel_rfl⟩
 t0:=by kernel_rfl
 t3:=by kernel_rfl
 t4:=by kernel_rfl
 t9:=by kernel_rfl
 t20:=by kernel_rfl
 t22:=by kernel_rfl
 a0:=fun w=>by kernel_rfl
 z0:=fun w=>by kernel_rfl
 v0:=fun w=>by kernel_rfl
 a3:=fun w=>by kernel_rfl
 z3:=fun w=>by kernel_rfl
 v3:=fun w=>by kernel_rfl
 a4:=fun w=>by kernel_rfl
 z4:=fun w=>by kernel_rfl
 v4:=fun w=>by kernel_rfl
 a9:=fun w=>by kernel_rfl
 z9:=fun w=>by kernel_rfl
 v9:=fun w=>by kernel_rfl
 a20:=fun w=>by kernel_rfl
 z20:=fun w=>by kernel_rfl
 v20:=fun w=>by kernel_rfl
 a22:=fun w=>by kernel_rfl
 z22:=fun w=>by kernel_rfl
 v22:=fun w=>by kernel_rfl
def zzz:Ren:=⟨fun i=>match i with | 4=>88 | _=>0,fun i=>match i with | 0=>0 | 3=>3 | 4=>4 | 9=>9 | 20=>20 | 22=>26 | 25=>9 | _=>0,fun _=>0⟩
def info_88:TypeInfo:=(Go.Proofs.Tryd.prog.info? 9).get (by kernel_rfl)
def zxV:Value:=info_88.zero.getD (.bool false)
theorem zxz:Lays8.n4 Go.Proofs.Tryd.prog zzz where
 mixed:=by kernel_rfl
 f4:=⟨"slices.Grow[[]string,string]",by decide,by kernel_rfl⟩
 t0:=by kernel_rfl
 t3:=by kernel_rfl
 t4:=by kernel_rfl
 t9:=by kernel_rfl
 t20:=by kernel_rfl
 t22:=by kernel_rfl
 a0:=fun w=>by kernel_rfl
 z0:=fun w=>by kernel_rfl
 v0:=fun w=>by kernel_rfl
 a3:=fun w=>by kernel_rfl
 z3:=fun w=>by kernel_rfl
 v3:=fun w=>by kernel_rfl
 a4:=fun w=>by kernel_rfl
 z4:=fun w=>by kernel_rfl
 v4:=fun w=>by kernel_rfl
 a9:=fun w=>by kernel_rfl
 z9:=fun w=>by kernel_rfl
 v9:=fun w=>by kernel_rfl
 a20:=fun w=>by kernel_rfl
 z20:=fun w=>by kernel_rfl
 v20:=fun w=>by kernel_rfl
 a22:=fun w=>by kernel_rfl
 z22:=fun w=>by kernel_rfl
 v22:=fun w=>by kernel_rfl
theorem zA1 : ∀ f e,E0.ext f=some (.eff e) -> ∀ ds st d st' (S:G) (vs:List Value),effD e ds st=some (d,st')->Inv S st->RepL S ds vs ->
  Does Go.Proofs.Tryd.prog f vs.toArray S.w fun e w' => ∃ S',S'.w=w'/\Ext S S'/\Inv S' st' /\ ∃ v,e = .returned v/\Rep S' d v:=by
 intro f e hx;have hx:ex0 f=some (.eff e):=hx;unfold ex0 at hx;split at hx<;>first | contradiction | (injection hx with hx;contradiction) | skip
theorem zAe : ∀ f h,E0.ext f=some (.fn h) -> ∀ ds0 ds d,h ds0 ds=some d -> ∀ (S:G) (st:St) (vs:List Value),Inv S st->RepL S ds0 vs->RepL S ds vs->GlOk S E0 ->
  Does Go.Proofs.Tryd.prog f vs.toArray S.w fun e w' => ∃ S',S'.w=w'/\Ext S S'/\Inv S' (told st d).2 /\ ∃ v,e = .returned v/\Rep S' (told st d).1 v:=by
 intro f h hx;have hx:ex0 f=some (.fn h):=hx;unfold ex0 at hx;split at hx<;>first | contradiction | (injection hx with hx;contradiction) | skip
 ·injection hx with hx;injection hx with hx;subst hx;exact zfv zxE
 ·injection hx with hx;injection hx with hx;subst hx;exact zfv zxM
 ·injection hx with hx;injection hx with hx;subst hx;exact zkl zym (i0:=info_71) (z:=zxU) (by kernel_rfl) (by kernel_rfl) (by kernel_rfl) (by kernel_rfl) (by decide) (by kernel_rfl)
 ·injection hx with hx;injection hx with hx;subst hx;exact zkl zxz (i0:=info_88) (z:=zxV) (by kernel_rfl) (by kernel_rfl) (by kernel_rfl) (by kernel_rfl) (by decide) (by kernel_rfl)
end Go.Ev
end
