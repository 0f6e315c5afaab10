/-
  NARROWER THAN 'FOR EVERY INPUT', by the rows' own cells (each row's printed sentence says how): OpsAll: loops, laid · OpsEdits: laid · OpsParts: laid · OpsUndoes: laid.
  DERIVED. THE GIVEN ROWS OF THIS SEAT. 4 by the template 'for every input the law returns true; each argument reads behind the call as it read before'; 0 by the template 'total and deterministic' (their statements: YtnefgdahdccldaaGreatDoorTotals.lean).
  GIVEN WITH THE SEED: the statements are not yours to turn. If you find one false, say at which input.
  Laid BY PROGRAM, IN A SANDBOX (cutbox-rows.mjs): the forced cells as the released guide's own fill.sh prints them over the translation f3fed225b40f2d7a… (all of the seat's roots in one cut). By AI agents, Wed Nov 11 2026. No macro, syntax, notation, axiom, sorry.
-/
import Derived.Test.YtnefgdahdccldaaGreatDoorChecked
import GoSem.PinnedTables
import GoSem.Claim
import GoSem.ClaimJoined
import GoSem.ClaimMapViews
import Derived.JoinedTies
import Derived.KernelRfl
namespace Go.Proofs.YtnefgdahdccldaaGreatDoor
/- THE CELL 'sum', in the pinned program and in every row, IS THE sha256 OF THE DUMP (.gsa) THAT YtnefgdahdccldaaGreatDoorProg.lean LOADS. Nothing in Lean hashes anything: it is a label: what it is worth is what the hold of that sum in a sandbox is worth. -/
noncomputable def Tryz.pinned : Pinned := { name := "ytnefgdahdccldaagreatdoor", sum := "f3fed225b40f2d7aedbfd2a3e99213e97d7a9650097e4326cc76e9ff7298d697", checked := Tryz.checked }
namespace Rows
def none {H : Type} : Left H := { results := [], args := [] }

/- WHAT THE LISTED PACKAGE-LEVEL VARIABLES READ AS WHEN THE CALL BEGINS. Each datum BY PROGRAM (the guide's laid-datum.mjs) off the statement by which the dump's own 'gosem.cut.vars' lays the variable. In a bare row this is a premise. The card (YtnefgdahdccldaaGreatDoorCards.lean) ties it to the program's text. -/
def laid_unicode_utf8_acceptRanges {H : Type} : DataW H := .agg [.agg [.lit (.int .u8 128), .lit (.int .u8 191)], .agg [.lit (.int .u8 160), .lit (.int .u8 191)], .agg [.lit (.int .u8 128), .lit (.int .u8 159)], .agg [.lit (.int .u8 144), .lit (.int .u8 191)], .agg [.lit (.int .u8 128), .lit (.int .u8 143)], .agg [.lit (.int .u8 0), .lit (.int .u8 0)], .agg [.lit (.int .u8 0), .lit (.int .u8 0)], .agg [.lit (.int .u8 0), .lit (.int .u8 0)], .agg [.lit (.int .u8 0), .lit (.int .u8 0)], .agg [.lit (.int .u8 0), .lit (.int .u8 0)], .agg [.lit (.int .u8 0), .lit (.int .u8 0)], .agg [.lit (.int .u8 0), .lit (.int .u8 0)], .agg [.lit (.int .u8 0), .lit (.int .u8 0)], .agg [.lit (.int .u8 0), .lit (.int .u8 0)], .agg [.lit (.int .u8 0), .lit (.int .u8 0)], .agg [.lit (.int .u8 0), .lit (.int .u8 0)]]
/-- One of Go's own tables, pinned by name: the form's constant. -/
def laid_unicode_utf8_first : DataW Unit := Go.Pinned.utf8First

/-- 'erratumlaw15.OpsAll': WHATEVER THE INPUT: true; the input reads as it did. -/
def opsAllSpec : ChangeSpec := { name := "opsAll", fn := fun _ => fun
  | [d1, d2, d3] => { results := [.lit (.bool true)], args := [d1, d2, d3] }
  | _ => none }
def opsAllRow : OpenClaim := { program := "ytnefgdahdccldaagreatdoor", sum := "f3fed225b40f2d7aedbfd2a3e99213e97d7a9650097e4326cc76e9ff7298d697", func := "erratum/erratumlaw15.OpsAll", spec := "opsAll", inPlace := ["slices.overlaps[string]", "slices.overlaps[erratum/api.Tree]"], unfollowed := true, recurses := true, named := ["unicode/utf8.first", "unicode/utf8.acceptRanges"], loops := true, apart := false, laid := [("unicode/utf8.acceptRanges", laid_unicode_utf8_acceptRanges), ("unicode/utf8.first", laid_unicode_utf8_first)] }
def OpsAllSaid : Prop := opsAllRow.holds Tryz.pinned (OpenSpec.ofChange opsAllSpec)

/-- ITS FALSE NEIGHBOUR: 'it returns false'. Refute it at one input. -/
def opsAllWrong : ChangeSpec := { name := "opsAll", fn := fun _ => fun
  | [d1, d2, d3] => { results := [.lit (.bool false)], args := [d1, d2, d3] }
  | _ => none }
def OpsAllWrongFalsely : Prop := opsAllRow.holds Tryz.pinned (OpenSpec.ofChange opsAllWrong)

/-- 'erratumlaw15.OpsEdits': WHATEVER THE INPUT: true; the input reads as it did. -/
def opsEditsSpec : ChangeSpec := { name := "opsEdits", fn := fun _ => fun
  | [d1, d2, d3] => { results := [.lit (.bool true)], args := [d1, d2, d3] }
  | _ => none }
def opsEditsRow : OpenClaim := { program := "ytnefgdahdccldaagreatdoor", sum := "f3fed225b40f2d7aedbfd2a3e99213e97d7a9650097e4326cc76e9ff7298d697", func := "erratum/erratumlaw15.OpsEdits", spec := "opsEdits", inPlace := ["slices.overlaps[string]", "slices.overlaps[erratum/api.Tree]"], unfollowed := true, recurses := true, named := ["unicode/utf8.first", "unicode/utf8.acceptRanges"], apart := false, laid := [("unicode/utf8.acceptRanges", laid_unicode_utf8_acceptRanges), ("unicode/utf8.first", laid_unicode_utf8_first)] }
def OpsEditsSaid : Prop := opsEditsRow.holds Tryz.pinned (OpenSpec.ofChange opsEditsSpec)

/-- ITS FALSE NEIGHBOUR: 'it returns false'. Refute it at one input. -/
def opsEditsWrong : ChangeSpec := { name := "opsEdits", fn := fun _ => fun
  | [d1, d2, d3] => { results := [.lit (.bool false)], args := [d1, d2, d3] }
  | _ => none }
def OpsEditsWrongFalsely : Prop := opsEditsRow.holds Tryz.pinned (OpenSpec.ofChange opsEditsWrong)

/-- 'erratumlaw15.OpsParts': WHATEVER THE INPUT: true; the input reads as it did. -/
def opsPartsSpec : ChangeSpec := { name := "opsParts", fn := fun _ => fun
  | [d1, d2, d3, d4] => { results := [.lit (.bool true)], args := [d1, d2, d3, d4] }
  | _ => none }
def opsPartsRow : OpenClaim := { program := "ytnefgdahdccldaagreatdoor", sum := "f3fed225b40f2d7aedbfd2a3e99213e97d7a9650097e4326cc76e9ff7298d697", func := "erratum/erratumlaw15.OpsParts", spec := "opsParts", inPlace := ["slices.overlaps[string]", "slices.overlaps[erratum/api.Tree]"], unfollowed := true, recurses := true, named := ["unicode/utf8.first", "unicode/utf8.acceptRanges"], apart := false, laid := [("unicode/utf8.acceptRanges", laid_unicode_utf8_acceptRanges), ("unicode/utf8.first", laid_unicode_utf8_first)] }
def OpsPartsSaid : Prop := opsPartsRow.holds Tryz.pinned (OpenSpec.ofChange opsPartsSpec)

/-- ITS FALSE NEIGHBOUR: 'it returns false'. Refute it at one input. -/
def opsPartsWrong : ChangeSpec := { name := "opsParts", fn := fun _ => fun
  | [d1, d2, d3, d4] => { results := [.lit (.bool false)], args := [d1, d2, d3, d4] }
  | _ => none }
def OpsPartsWrongFalsely : Prop := opsPartsRow.holds Tryz.pinned (OpenSpec.ofChange opsPartsWrong)

/-- 'erratumlaw15.OpsUndoes': WHATEVER THE INPUT: true; the input reads as it did. -/
def opsUndoesSpec : ChangeSpec := { name := "opsUndoes", fn := fun _ => fun
  | [d1, d2, d3] => { results := [.lit (.bool true)], args := [d1, d2, d3] }
  | _ => none }
def opsUndoesRow : OpenClaim := { program := "ytnefgdahdccldaagreatdoor", sum := "f3fed225b40f2d7aedbfd2a3e99213e97d7a9650097e4326cc76e9ff7298d697", func := "erratum/erratumlaw15.OpsUndoes", spec := "opsUndoes", inPlace := ["slices.overlaps[string]", "slices.overlaps[erratum/api.Tree]"], unfollowed := true, recurses := true, named := ["unicode/utf8.first", "unicode/utf8.acceptRanges"], apart := false, laid := [("unicode/utf8.acceptRanges", laid_unicode_utf8_acceptRanges), ("unicode/utf8.first", laid_unicode_utf8_first)] }
def OpsUndoesSaid : Prop := opsUndoesRow.holds Tryz.pinned (OpenSpec.ofChange opsUndoesSpec)

/-- ITS FALSE NEIGHBOUR: 'it returns false'. Refute it at one input. -/
def opsUndoesWrong : ChangeSpec := { name := "opsUndoes", fn := fun _ => fun
  | [d1, d2, d3] => { results := [.lit (.bool false)], args := [d1, d2, d3] }
  | _ => none }
def OpsUndoesWrongFalsely : Prop := opsUndoesRow.holds Tryz.pinned (OpenSpec.ofChange opsUndoesWrong)

/- THE SECOND FORM. 'bulk': how many values and letters a reading holds, each counted each time it is reached (what is shared counts as often as it is met; a slice's spare places count too). A statement '..UptoSaid' is the law's where the arguments, and the package variables that the reading takes, are together of bulk at most 1048576: NARROWER than '..Said'. Prove '..Said' where nothing that the law and all that it calls make is longer than what came in: it says more and counts as full. Else prove '..UptoSaid'. A law counts once. -/
mutual
def uptoBulk {H : Type} : DataW H → Nat
  | .lit (.string bytes) => bytes.length + 1
  | .lit _ => 1
  | .nil => 1
  | .ptr d => uptoBulk d + 1
  | .slice elems spare => uptoBulkAll elems + uptoBulkAll spare + 1
  | .agg parts => uptoBulkAll parts + 1
  | .iface _ d => uptoBulk d + 1
  | .map entries => uptoBulkEntries entries + 1
  | .held _ => 1
def uptoBulkAll {H : Type} : List (DataW H) → Nat
  | [] => 0
  | d :: r => uptoBulk d + uptoBulkAll r
def uptoBulkEntries {H : Type} : List (Lit × DataW H) → Nat
  | [] => 0
  | x :: r => uptoBulkEntry x + uptoBulkEntries r
def uptoBulkEntry {H : Type} : Lit × DataW H → Nat
  | (.string bytes, d) => bytes.length + uptoBulk d + 1
  | (_, d) => uptoBulk d + 1
 end
def uptoSmall : (H : Type) → List (DataW H) → Bool := fun _ ds => decide (uptoBulkAll ds ≤ 1048576)
def OpenSpec.upto (s : _root_.Go.ChangeSpec) : _root_.Go.OpenSpec := { _root_.Go.OpenSpec.ofChange s with cond := some uptoSmall }

/-- 'erratumlaw15.OpsAll', WHERE WHAT IT READS IS OF BULK AT MOST 1048576: true; the input reads as it did. -/
def opsAllUptoRow : OpenClaim := { program := "ytnefgdahdccldaagreatdoor", sum := "f3fed225b40f2d7aedbfd2a3e99213e97d7a9650097e4326cc76e9ff7298d697", func := "erratum/erratumlaw15.OpsAll", spec := "opsAll", inPlace := ["slices.overlaps[string]", "slices.overlaps[erratum/api.Tree]"], unfollowed := true, recurses := true, named := ["unicode/utf8.first", "unicode/utf8.acceptRanges"], loops := true, apart := false, laid := [("unicode/utf8.acceptRanges", laid_unicode_utf8_acceptRanges), ("unicode/utf8.first", laid_unicode_utf8_first)], narrowed := true }
def OpsAllUptoSaid : Prop := opsAllUptoRow.holds Tryz.pinned (OpenSpec.upto opsAllSpec)

/-- 'erratumlaw15.OpsEdits', WHERE WHAT IT READS IS OF BULK AT MOST 1048576: true; the input reads as it did. -/
def opsEditsUptoRow : OpenClaim := { program := "ytnefgdahdccldaagreatdoor", sum := "f3fed225b40f2d7aedbfd2a3e99213e97d7a9650097e4326cc76e9ff7298d697", func := "erratum/erratumlaw15.OpsEdits", spec := "opsEdits", inPlace := ["slices.overlaps[string]", "slices.overlaps[erratum/api.Tree]"], unfollowed := true, recurses := true, named := ["unicode/utf8.first", "unicode/utf8.acceptRanges"], apart := false, laid := [("unicode/utf8.acceptRanges", laid_unicode_utf8_acceptRanges), ("unicode/utf8.first", laid_unicode_utf8_first)], narrowed := true }
def OpsEditsUptoSaid : Prop := opsEditsUptoRow.holds Tryz.pinned (OpenSpec.upto opsEditsSpec)

/-- 'erratumlaw15.OpsParts', WHERE WHAT IT READS IS OF BULK AT MOST 1048576: true; the input reads as it did. -/
def opsPartsUptoRow : OpenClaim := { program := "ytnefgdahdccldaagreatdoor", sum := "f3fed225b40f2d7aedbfd2a3e99213e97d7a9650097e4326cc76e9ff7298d697", func := "erratum/erratumlaw15.OpsParts", spec := "opsParts", inPlace := ["slices.overlaps[string]", "slices.overlaps[erratum/api.Tree]"], unfollowed := true, recurses := true, named := ["unicode/utf8.first", "unicode/utf8.acceptRanges"], apart := false, laid := [("unicode/utf8.acceptRanges", laid_unicode_utf8_acceptRanges), ("unicode/utf8.first", laid_unicode_utf8_first)], narrowed := true }
def OpsPartsUptoSaid : Prop := opsPartsUptoRow.holds Tryz.pinned (OpenSpec.upto opsPartsSpec)

/-- 'erratumlaw15.OpsUndoes', WHERE WHAT IT READS IS OF BULK AT MOST 1048576: true; the input reads as it did. -/
def opsUndoesUptoRow : OpenClaim := { program := "ytnefgdahdccldaagreatdoor", sum := "f3fed225b40f2d7aedbfd2a3e99213e97d7a9650097e4326cc76e9ff7298d697", func := "erratum/erratumlaw15.OpsUndoes", spec := "opsUndoes", inPlace := ["slices.overlaps[string]", "slices.overlaps[erratum/api.Tree]"], unfollowed := true, recurses := true, named := ["unicode/utf8.first", "unicode/utf8.acceptRanges"], apart := false, laid := [("unicode/utf8.acceptRanges", laid_unicode_utf8_acceptRanges), ("unicode/utf8.first", laid_unicode_utf8_first)], narrowed := true }
def OpsUndoesUptoSaid : Prop := opsUndoesUptoRow.holds Tryz.pinned (OpenSpec.upto opsUndoesSpec)

end Rows
end Go.Proofs.YtnefgdahdccldaaGreatDoor
