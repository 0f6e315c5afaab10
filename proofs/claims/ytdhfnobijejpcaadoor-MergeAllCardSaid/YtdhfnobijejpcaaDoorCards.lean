/-
  DERIVED. GIVEN WITH THE SEED: THE CARDS: each row of YtdhfnobijejpcaaDoorRows.lean that lists a variable, with what it lists TIED to the program's text (the seventh form; the later family's looks); each row that meets fmt, with fmt's text TOLD by the authors' own Lean function (tested against real Go, not proved from fmt's source: count such statements apart). THE CARD IS WHAT COUNTS. Prove the row's statement (the work); the ties are given (YtdhfnobijejpcaaDoorTie.lean); close each card by the builder's one call (the guide's Derived/Test/ToyasCard.lean, 'card_holds'). Laid BY PROGRAM, IN A SANDBOX (cutbox-door.mjs). By AI agents, Wed Nov 11 2026. No macro, syntax, notation, axiom, sorry.
-/
import Derived.Test.YtdhfnobijejpcaaDoorRows
import GoSem.ClaimSeven
namespace Go.Proofs.YtdhfnobijejpcaaDoor
namespace Rows

/-- THE TIED CARD OF 'erratumlaw05.TreeLimits'. -/
def treeLimitsCard : Claim7 := { stood := { row := treeLimitsRow, standIns := [], harness := (true, "4270e3d3fcf10fa52a3670d4695a319c5c9c393cf109585f4e716514abbaaf9d"), looks := false }, kinds := [], alts := [], laidByText := true, laidKinds := [.data, .pinned], laidTests := true, laidLooks := .later }
def TreeLimitsCardSaid : Prop := Claim7.holds Tryd.pinned (.plain (OpenSpec.ofChange treeLimitsSpec)) treeLimitsCard

/-- THE TIED CARD OF 'erratumlaw05.TreeFields'. -/
def treeFieldsCard : Claim7 := { stood := { row := treeFieldsRow, standIns := [], harness := (true, "4270e3d3fcf10fa52a3670d4695a319c5c9c393cf109585f4e716514abbaaf9d"), looks := false }, kinds := [], alts := [], laidByText := true, laidKinds := [.data, .pinned], laidTests := true, laidLooks := .later }
def TreeFieldsCardSaid : Prop := Claim7.holds Tryd.pinned (.plain (OpenSpec.ofChange treeFieldsSpec)) treeFieldsCard

/-- THE TIED CARD OF 'erratumlaw05.TreeSame'. -/
def treeSameCard : Claim7 := { stood := { row := treeSameRow, standIns := [], harness := (true, "4270e3d3fcf10fa52a3670d4695a319c5c9c393cf109585f4e716514abbaaf9d"), looks := false }, kinds := [], alts := [], laidByText := true, laidKinds := [.data, .pinned], laidTests := true, laidLooks := .later }
def TreeSameCardSaid : Prop := Claim7.holds Tryd.pinned (.plain (OpenSpec.ofChange treeSameSpec)) treeSameCard

/-- THE TIED CARD OF 'erratumlaw16.MergeAll'. -/
def mergeAllCard : Claim7 := { stood := { row := mergeAllRow, standIns := [], harness := (true, "4270e3d3fcf10fa52a3670d4695a319c5c9c393cf109585f4e716514abbaaf9d"), looks := false }, kinds := [], alts := [], laidByText := true, laidKinds := [.data, .pinned], laidTests := true, laidLooks := .later }
def MergeAllCardSaid : Prop := Claim7.holds Tryd.pinned (.plain (OpenSpec.ofChange mergeAllSpec)) mergeAllCard

/-- THE TIED CARD OF 'erratumlaw05.TreeSets'. -/
def treeSetsCard : Claim7 := { stood := { row := treeSetsRow, standIns := [], harness := (true, "4270e3d3fcf10fa52a3670d4695a319c5c9c393cf109585f4e716514abbaaf9d"), looks := false }, kinds := [], alts := [], laidByText := true, laidKinds := [.data, .pinned], laidTests := true, laidLooks := .later }
def TreeSetsCardSaid : Prop := Claim7.holds Tryd.pinned (.plain (OpenSpec.ofChange treeSetsSpec)) treeSetsCard

/-- THE SECOND FORM's CARD OF 'erratumlaw05.TreeLimits'. -/
def treeLimitsUptoCard : Claim7 := { stood := { row := treeLimitsUptoRow, standIns := [], harness := (true, "4270e3d3fcf10fa52a3670d4695a319c5c9c393cf109585f4e716514abbaaf9d"), looks := false }, kinds := [], alts := [], laidByText := true, laidKinds := [.data, .pinned], laidTests := true, laidLooks := .later }
def TreeLimitsUptoCardSaid : Prop := Claim7.holds Tryd.pinned (.plain (OpenSpec.upto treeLimitsSpec)) treeLimitsUptoCard

/-- THE SECOND FORM's CARD OF 'erratumlaw05.TreeFields'. -/
def treeFieldsUptoCard : Claim7 := { stood := { row := treeFieldsUptoRow, standIns := [], harness := (true, "4270e3d3fcf10fa52a3670d4695a319c5c9c393cf109585f4e716514abbaaf9d"), looks := false }, kinds := [], alts := [], laidByText := true, laidKinds := [.data, .pinned], laidTests := true, laidLooks := .later }
def TreeFieldsUptoCardSaid : Prop := Claim7.holds Tryd.pinned (.plain (OpenSpec.upto treeFieldsSpec)) treeFieldsUptoCard

/-- THE SECOND FORM's CARD OF 'erratumlaw05.TreeSame'. -/
def treeSameUptoCard : Claim7 := { stood := { row := treeSameUptoRow, standIns := [], harness := (true, "4270e3d3fcf10fa52a3670d4695a319c5c9c393cf109585f4e716514abbaaf9d"), looks := false }, kinds := [], alts := [], laidByText := true, laidKinds := [.data, .pinned], laidTests := true, laidLooks := .later }
def TreeSameUptoCardSaid : Prop := Claim7.holds Tryd.pinned (.plain (OpenSpec.upto treeSameSpec)) treeSameUptoCard

/-- THE SECOND FORM's CARD OF 'erratumlaw16.MergeAll'. -/
def mergeAllUptoCard : Claim7 := { stood := { row := mergeAllUptoRow, standIns := [], harness := (true, "4270e3d3fcf10fa52a3670d4695a319c5c9c393cf109585f4e716514abbaaf9d"), looks := false }, kinds := [], alts := [], laidByText := true, laidKinds := [.data, .pinned], laidTests := true, laidLooks := .later }
def MergeAllUptoCardSaid : Prop := Claim7.holds Tryd.pinned (.plain (OpenSpec.upto mergeAllSpec)) mergeAllUptoCard

/-- THE SECOND FORM's CARD OF 'erratumlaw05.TreeSets'. -/
def treeSetsUptoCard : Claim7 := { stood := { row := treeSetsUptoRow, standIns := [], harness := (true, "4270e3d3fcf10fa52a3670d4695a319c5c9c393cf109585f4e716514abbaaf9d"), looks := false }, kinds := [], alts := [], laidByText := true, laidKinds := [.data, .pinned], laidTests := true, laidLooks := .later }
def TreeSetsUptoCardSaid : Prop := Claim7.holds Tryd.pinned (.plain (OpenSpec.upto treeSetsSpec)) treeSetsUptoCard
end Rows
end Go.Proofs.YtdhfnobijejpcaaDoor
