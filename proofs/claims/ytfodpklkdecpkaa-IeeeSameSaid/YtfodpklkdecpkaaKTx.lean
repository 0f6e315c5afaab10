/- What is told of the library's functions is so. -/
import Derived.Test.YtfodpklkdecpkaaKEvF
import Derived.Test.YtfodpklkdecpkaaKCode
import Derived.Test.YtfodpklkdecpkaaProg
import Derived.KernelRfl
set_option linter.all false
namespace Go.Ev
set_option maxRecDepth 100000
theorem effOk : ∀ f e,E0.ext f=some (.eff e) -> ∀ ds st d st' (S:G) (vs:List Value),effD e ds st=some (d,st')->Inv S st->RepL S ds vs ->
  Does Go.Proofs.Try.prog f vs.toArray S.w fun e w' => ∃ S',S'.w=w'/\Ext S S'/\Inv S' st' /\ ∃ v,e = .returned v/\Rep S' d v:=by
 intro f e hx;have hx:ex0 f=some (.eff e):=hx;unfold ex0 at hx;split at hx<;>first | contradiction | (injection hx with hx;contradiction) | skip
theorem extOk : ∀ f h,E0.ext f=some (.fn h) -> ∀ ds0 ds d,h ds0 ds=some d -> ∀ (S:G) (st:St) (vs:List Value),Inv S st->RepL S ds0 vs->RepL S ds vs->GlOk S E0 ->
  Does Go.Proofs.Try.prog f vs.toArray S.w fun e w' => ∃ S',S'.w=w'/\Ext S S'/\Inv S' (told st d).2 /\ ∃ v,e = .returned v/\Rep S' (told st d).1 v:=by
 intro f h hx;have hx:ex0 f=some (.fn h):=hx;unfold ex0 at hx;split at hx<;>first | contradiction | (injection hx with hx;contradiction) | skip
 ·injection hx with hx;injection hx with hx;subst hx;exact does_f64b Go.Proofs.Try.func7 (by kernel_rfl) (by kernel_rfl) (by kernel_rfl) (by kernel_rfl)
 ·injection hx with hx;injection hx with hx;subst hx;exact does_f64f Go.Proofs.Try.func11 (by kernel_rfl) (by kernel_rfl) (by kernel_rfl) (by kernel_rfl)
end Go.Ev
