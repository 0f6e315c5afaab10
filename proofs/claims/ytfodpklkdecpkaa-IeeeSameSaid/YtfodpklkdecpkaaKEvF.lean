/- The machines Ev and Pv, part 6: an abstract machine over the translated code, proved sound once. -/
import Derived.Test.YtfodpklkdecpkaaKEvE
import Derived.Laws.Externs
set_option linter.all false
section
set_option linter.all false
set_option linter.unusedVariables false
namespace Go.Ev
def exF64b(_ ds:List D):Option D:=match ds with | [.float .f64 b]=>some (.int .u64 (b:Nat)) | _=>none
def exF64f(_ ds:List D):Option D:=match ds with | [.int .u64 n]=>some (.float .f64 n.toNat) | _=>none
def txF64b(xs:List V):Option V:=match xs with | [.float .f64 b]=>some (.int .u64 (b:Nat)) | _=>none
def txF64f(xs:List V):Option V:=match xs with | [.int .u64 n]=>some (.float .f64 n.toNat) | _=>none
theorem tells_f64b:Tells exF64b txF64b .pl:=by
 intro ds xs y h;unfold txF64b at h;split at h<;>try contradiction
 injection h with h;subst h;rfl
theorem tells_f64f:Tells exF64f txF64f .pl:=by
 intro ds xs y h;unfold txF64f at h;split at h<;>try contradiction
 injection h with h;subst h;rfl
theorem does_f64b{P:Program}{E:Env}{f:Nat}{fn:Func}(hf:P.funcs[f]?=some fn) (hname:(fn.name == "runtime.NumGoroutine")=false) (hb:fn.body.isNone=true) (hn:Extern.findNext fn=none) (he:Extern.find fn=some Extern.MathFloatBits.float64bits)
  (ds0 ds:List D) (d:D) (h:exF64b ds0 ds=some d) (S:G) (st:St) (vs:List Value) (hi:Inv S st) (hr0:RepL S ds0 vs) (hr:RepL S ds vs) (_:GlOk S E) :
  Does P f vs.toArray S.w fun e w' => ∃ S',S'.w=w'/\Ext S S'/\Inv S' (told st d).2 /\ ∃ v,e = .returned v/\Rep S' (told st d).1 v:=by
 unfold exF64b at h;split at h<;>try contradiction
 next b=>
  injection h with h;subst h;have hl:=hr.1
  match vs,hl,hr with
  | [v],_,hr=>
   have hv:=hr.2 0 _ v rfl rfl;cases hv with
   | float k b=>refine .inr ⟨.int .u64 b,S.w,?_,S,rfl,.refl S,hi,_,rfl,.int _ _⟩;rw[run_callFunc_extern hf hname hb hn he];rfl
theorem does_f64f{P:Program}{E:Env}{f:Nat}{fn:Func}(hf:P.funcs[f]?=some fn) (hname:(fn.name == "runtime.NumGoroutine")=false) (hb:fn.body.isNone=true) (hn:Extern.findNext fn=none) (he:Extern.find fn=some Extern.MathFloatBits.float64frombits)
  (ds0 ds:List D) (d:D) (h:exF64f ds0 ds=some d) (S:G) (st:St) (vs:List Value) (hi:Inv S st) (hr0:RepL S ds0 vs) (hr:RepL S ds vs) (_:GlOk S E) :
  Does P f vs.toArray S.w fun e w' => ∃ S',S'.w=w'/\Ext S S'/\Inv S' (told st d).2 /\ ∃ v,e = .returned v/\Rep S' (told st d).1 v:=by
 unfold exF64f at h;split at h<;>try contradiction
 next n=>
  injection h with h;subst h;have hl:=hr.1
  match vs,hl,hr with
  | [v],_,hr=>
   have hv:=hr.2 0 _ v rfl rfl;cases hv with
   | int k n=>refine .inr ⟨.float .f64 n.toNat,S.w,?_,S,rfl,.refl S,hi,_,rfl,.float _ _⟩;rw[run_callFunc_extern hf hname hb hn he];rfl
end Go.Ev
end
