/- Merging: the document's example; a law's lists of numbers. -/
import Derived.Test.YtineambfljmbgaaDoorKSt8
import Derived.Test.YtineambfljmbgaaDoorKSp
set_option linter.all false
namespace Go.Ev
attribute [local irreducible] P0
def bT : Tree := .mk 2 true .zero [] [] []
theorem bT_val : bT.val = .agg [(.int .i64 2), (.bool true), (.bool false), (.sl []), (.int .i64 0), (.str []), (.sl []), (.sl [])] := by rw [bT, mk_val]; rfl
end Go.Ev
