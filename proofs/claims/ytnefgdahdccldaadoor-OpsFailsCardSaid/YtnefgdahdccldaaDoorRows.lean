/-
  NARROWER THAN 'FOR EVERY INPUT', by the rows' own cells (each row's printed sentence says how): OpsArrays: laid · OpsFails: laid · OpsWeight: laid.
  DERIVED. THE GIVEN ROWS OF THIS SEAT. 3 by the template 'for every input the law returns true; each argument reads behind the call as it read before'; 0 by the template 'total and deterministic' (their statements: YtnefgdahdccldaaDoorTotals.lean).
  GIVEN WITH THE SEED: the statements are not yours to turn. If you find one false, say at which input.
  Laid BY PROGRAM, IN A SANDBOX (cutbox-rows.mjs): the forced cells as the released guide's own fill.sh prints them over the translation de3b2f915315c2e5… (all of the seat's roots in one cut). By AI agents, Wed Nov 11 2026. No macro, syntax, notation, axiom, sorry.
-/
import Derived.Test.YtnefgdahdccldaaDoorChecked
import GoSem.PinnedTables
import GoSem.Claim
import GoSem.ClaimJoined
import GoSem.ClaimMapViews
import Derived.JoinedTies
import Derived.KernelRfl
namespace Go.Proofs.YtnefgdahdccldaaDoor
/- THE CELL 'sum', in the pinned program and in every row, IS THE sha256 OF THE DUMP (.gsa) THAT YtnefgdahdccldaaDoorProg.lean LOADS. Nothing in Lean hashes anything: it is a label: what it is worth is what the hold of that sum in a sandbox is worth. -/
noncomputable def Tryd.pinned : Pinned := { name := "ytnefgdahdccldaadoor", sum := "de3b2f915315c2e5aeac2deacc8b1dda984db5ad58c39a648a127ccc1d3b707a", checked := Tryd.checked }
namespace Rows
def none {H : Type} : Left H := { results := [], args := [] }

/- WHAT THE LISTED PACKAGE-LEVEL VARIABLES READ AS WHEN THE CALL BEGINS. Each datum BY PROGRAM (the guide's laid-datum.mjs) off the statement by which the dump's own 'gosem.cut.vars' lays the variable. In a bare row this is a premise. The card (YtnefgdahdccldaaDoorCards.lean) ties it to the program's text. -/
def laid_unicode_utf8_acceptRanges {H : Type} : DataW H := .agg [.agg [.lit (.int .u8 128), .lit (.int .u8 191)], .agg [.lit (.int .u8 160), .lit (.int .u8 191)], .agg [.lit (.int .u8 128), .lit (.int .u8 159)], .agg [.lit (.int .u8 144), .lit (.int .u8 191)], .agg [.lit (.int .u8 128), .lit (.int .u8 143)], .agg [.lit (.int .u8 0), .lit (.int .u8 0)], .agg [.lit (.int .u8 0), .lit (.int .u8 0)], .agg [.lit (.int .u8 0), .lit (.int .u8 0)], .agg [.lit (.int .u8 0), .lit (.int .u8 0)], .agg [.lit (.int .u8 0), .lit (.int .u8 0)], .agg [.lit (.int .u8 0), .lit (.int .u8 0)], .agg [.lit (.int .u8 0), .lit (.int .u8 0)], .agg [.lit (.int .u8 0), .lit (.int .u8 0)], .agg [.lit (.int .u8 0), .lit (.int .u8 0)], .agg [.lit (.int .u8 0), .lit (.int .u8 0)], .agg [.lit (.int .u8 0), .lit (.int .u8 0)]]
/-- One of Go's own tables, pinned by name: the form's constant. -/
def laid_unicode_utf8_first : DataW Unit := Go.Pinned.utf8First

/-- 'erratumlaw15.OpsArrays': WHATEVER THE INPUT: true; the input reads as it did. -/
def opsArraysSpec : ChangeSpec := { name := "opsArrays", fn := fun _ => fun
  | [d1, d2, d3, d4] => { results := [.lit (.bool true)], args := [d1, d2, d3, d4] }
  | _ => none }
def opsArraysRow : OpenClaim := { program := "ytnefgdahdccldaadoor", sum := "de3b2f915315c2e5aeac2deacc8b1dda984db5ad58c39a648a127ccc1d3b707a", func := "erratum/erratumlaw15.OpsArrays", spec := "opsArrays", inPlace := ["slices.overlaps[string]", "slices.overlaps[erratum/api.Tree]"], unfollowed := true, recurses := true, named := ["unicode/utf8.first", "unicode/utf8.acceptRanges"], apart := false, laid := [("unicode/utf8.acceptRanges", laid_unicode_utf8_acceptRanges), ("unicode/utf8.first", laid_unicode_utf8_first)] }
def OpsArraysSaid : Prop := opsArraysRow.holds Tryd.pinned (OpenSpec.ofChange opsArraysSpec)

/-- ITS FALSE NEIGHBOUR: 'it returns false'. Refute it at one input. -/
def opsArraysWrong : ChangeSpec := { name := "opsArrays", fn := fun _ => fun
  | [d1, d2, d3, d4] => { results := [.lit (.bool false)], args := [d1, d2, d3, d4] }
  | _ => none }
def OpsArraysWrongFalsely : Prop := opsArraysRow.holds Tryd.pinned (OpenSpec.ofChange opsArraysWrong)

/-- 'erratumlaw15.OpsFails': WHATEVER THE INPUT: true; the input reads as it did. -/
def opsFailsSpec : ChangeSpec := { name := "opsFails", fn := fun _ => fun
  | [d1, d2, d3] => { results := [.lit (.bool true)], args := [d1, d2, d3] }
  | _ => none }
def opsFailsRow : OpenClaim := { program := "ytnefgdahdccldaadoor", sum := "de3b2f915315c2e5aeac2deacc8b1dda984db5ad58c39a648a127ccc1d3b707a", func := "erratum/erratumlaw15.OpsFails", spec := "opsFails", inPlace := ["slices.overlaps[string]", "slices.overlaps[erratum/api.Tree]"], unfollowed := true, recurses := true, named := ["unicode/utf8.first", "unicode/utf8.acceptRanges"], apart := false, laid := [("unicode/utf8.acceptRanges", laid_unicode_utf8_acceptRanges), ("unicode/utf8.first", laid_unicode_utf8_first)] }
def OpsFailsSaid : Prop := opsFailsRow.holds Tryd.pinned (OpenSpec.ofChange opsFailsSpec)

/-- ITS FALSE NEIGHBOUR: 'it returns false'. Refute it at one input. -/
def opsFailsWrong : ChangeSpec := { name := "opsFails", fn := fun _ => fun
  | [d1, d2, d3] => { results := [.lit (.bool false)], args := [d1, d2, d3] }
  | _ => none }
def OpsFailsWrongFalsely : Prop := opsFailsRow.holds Tryd.pinned (OpenSpec.ofChange opsFailsWrong)

/-- 'erratumlaw15.OpsWeight': WHATEVER THE INPUT: true; the input reads as it did. -/
def opsWeightSpec : ChangeSpec := { name := "opsWeight", fn := fun _ => fun
  | [d1, d2] => { results := [.lit (.bool true)], args := [d1, d2] }
  | _ => none }
def opsWeightRow : OpenClaim := { program := "ytnefgdahdccldaadoor", sum := "de3b2f915315c2e5aeac2deacc8b1dda984db5ad58c39a648a127ccc1d3b707a", func := "erratum/erratumlaw15.OpsWeight", spec := "opsWeight", inPlace := ["slices.overlaps[string]", "slices.overlaps[erratum/api.Tree]"], unfollowed := true, recurses := true, named := ["unicode/utf8.first", "unicode/utf8.acceptRanges"], apart := false, laid := [("unicode/utf8.acceptRanges", laid_unicode_utf8_acceptRanges), ("unicode/utf8.first", laid_unicode_utf8_first)] }
def OpsWeightSaid : Prop := opsWeightRow.holds Tryd.pinned (OpenSpec.ofChange opsWeightSpec)

/-- ITS FALSE NEIGHBOUR: 'it returns false'. Refute it at one input. -/
def opsWeightWrong : ChangeSpec := { name := "opsWeight", fn := fun _ => fun
  | [d1, d2] => { results := [.lit (.bool false)], args := [d1, d2] }
  | _ => none }
def OpsWeightWrongFalsely : Prop := opsWeightRow.holds Tryd.pinned (OpenSpec.ofChange opsWeightWrong)

/- THE SECOND FORM. 'bulk': how many values and letters a reading holds, each counted each time it is reached (what is shared counts as often as it is met; a slice's spare places count too). A statement '..UptoSaid' is the law's where the arguments, and the package variables that the reading takes, are together of bulk at most 1048576: NARROWER than '..Said'. Prove '..Said' where nothing that the law and all that it calls make is longer than what came in: it says more and counts as full. Else prove '..UptoSaid'. A law counts once. -/
mutual
def uptoBulk {H : Type} : DataW H → Nat
  | .lit (.string bytes) => bytes.length + 1
  | .lit _ => 1
  | .nil => 1
  | .ptr d => uptoBulk d + 1
  | .slice elems spare => uptoBulkAll elems + uptoBulkAll spare + 1
  | .agg parts => uptoBulkAll parts + 1
  | .iface _ d => uptoBulk d + 1
  | .map entries => uptoBulkEntries entries + 1
  | .held _ => 1
def uptoBulkAll {H : Type} : List (DataW H) → Nat
  | [] => 0
  | d :: r => uptoBulk d + uptoBulkAll r
def uptoBulkEntries {H : Type} : List (Lit × DataW H) → Nat
  | [] => 0
  | x :: r => uptoBulkEntry x + uptoBulkEntries r
def uptoBulkEntry {H : Type} : Lit × DataW H → Nat
  | (.string bytes, d) => bytes.length + uptoBulk d + 1
  | (_, d) => uptoBulk d + 1
 end
def uptoSmall : (H : Type) → List (DataW H) → Bool := fun _ ds => decide (uptoBulkAll ds ≤ 1048576)
def OpenSpec.upto (s : _root_.Go.ChangeSpec) : _root_.Go.OpenSpec := { _root_.Go.OpenSpec.ofChange s with cond := some uptoSmall }

/-- 'erratumlaw15.OpsArrays', WHERE WHAT IT READS IS OF BULK AT MOST 1048576: true; the input reads as it did. -/
def opsArraysUptoRow : OpenClaim := { program := "ytnefgdahdccldaadoor", sum := "de3b2f915315c2e5aeac2deacc8b1dda984db5ad58c39a648a127ccc1d3b707a", func := "erratum/erratumlaw15.OpsArrays", spec := "opsArrays", inPlace := ["slices.overlaps[string]", "slices.overlaps[erratum/api.Tree]"], unfollowed := true, recurses := true, named := ["unicode/utf8.first", "unicode/utf8.acceptRanges"], apart := false, laid := [("unicode/utf8.acceptRanges", laid_unicode_utf8_acceptRanges), ("unicode/utf8.first", laid_unicode_utf8_first)], narrowed := true }
def OpsArraysUptoSaid : Prop := opsArraysUptoRow.holds Tryd.pinned (OpenSpec.upto opsArraysSpec)

/-- 'erratumlaw15.OpsFails', WHERE WHAT IT READS IS OF BULK AT MOST 1048576: true; the input reads as it did. -/
def opsFailsUptoRow : OpenClaim := { program := "ytnefgdahdccldaadoor", sum := "de3b2f915315c2e5aeac2deacc8b1dda984db5ad58c39a648a127ccc1d3b707a", func := "erratum/erratumlaw15.OpsFails", spec := "opsFails", inPlace := ["slices.overlaps[string]", "slices.overlaps[erratum/api.Tree]"], unfollowed := true, recurses := true, named := ["unicode/utf8.first", "unicode/utf8.acceptRanges"], apart := false, laid := [("unicode/utf8.acceptRanges", laid_unicode_utf8_acceptRanges), ("unicode/utf8.first", laid_unicode_utf8_first)], narrowed := true }
def OpsFailsUptoSaid : Prop := opsFailsUptoRow.holds Tryd.pinned (OpenSpec.upto opsFailsSpec)

/-- 'erratumlaw15.OpsWeight', WHERE WHAT IT READS IS OF BULK AT MOST 1048576: true; the input reads as it did. -/
def opsWeightUptoRow : OpenClaim := { program := "ytnefgdahdccldaadoor", sum := "de3b2f915315c2e5aeac2deacc8b1dda984db5ad58c39a648a127ccc1d3b707a", func := "erratum/erratumlaw15.OpsWeight", spec := "opsWeight", inPlace := ["slices.overlaps[string]", "slices.overlaps[erratum/api.Tree]"], unfollowed := true, recurses := true, named := ["unicode/utf8.first", "unicode/utf8.acceptRanges"], apart := false, laid := [("unicode/utf8.acceptRanges", laid_unicode_utf8_acceptRanges), ("unicode/utf8.first", laid_unicode_utf8_first)], narrowed := true }
def OpsWeightUptoSaid : Prop := opsWeightUptoRow.holds Tryd.pinned (OpenSpec.upto opsWeightSpec)

end Rows
end Go.Proofs.YtnefgdahdccldaaDoor
