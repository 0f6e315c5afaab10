/-
  DERIVED. GIVEN WITH THE SEED: THE CARDS: each row of YtnefgdahdccldaaGreatDoorRows.lean that lists a variable, with what it lists TIED to the program's text (the seventh form; the later family's looks); each row that meets fmt, with fmt's text TOLD by the authors' own Lean function (tested against real Go, not proved from fmt's source: count such statements apart). THE CARD IS WHAT COUNTS. Prove the row's statement (the work); the ties are given (YtnefgdahdccldaaGreatDoorTie.lean); close each card by the builder's one call (the guide's Derived/Test/ToyasCard.lean, 'card_holds'). Laid BY PROGRAM, IN A SANDBOX (cutbox-door.mjs). By AI agents, Wed Nov 11 2026. No macro, syntax, notation, axiom, sorry.
-/
import Derived.Test.YtnefgdahdccldaaGreatDoorRows
import GoSem.ClaimSeven
namespace Go.Proofs.YtnefgdahdccldaaGreatDoor
namespace Rows

/-- THE TIED CARD OF 'erratumlaw15.OpsAll'. -/
def opsAllCard : Claim7 := { stood := { row := opsAllRow, standIns := [], harness := (true, "a3e3ff5238dd389d118d201f566a4b5639cb711d670b2a56305dd1d688f757b4"), looks := true }, kinds := [], alts := [], laidByText := true, laidKinds := [.data, .pinned], laidTests := true, laidLooks := .later }
def OpsAllCardSaid : Prop := Claim7.holds Tryz.pinned (.plain (OpenSpec.ofChange opsAllSpec)) opsAllCard

/-- THE TIED CARD OF 'erratumlaw15.OpsEdits'. -/
def opsEditsCard : Claim7 := { stood := { row := opsEditsRow, standIns := [], harness := (true, "a3e3ff5238dd389d118d201f566a4b5639cb711d670b2a56305dd1d688f757b4"), looks := true }, kinds := [], alts := [], laidByText := true, laidKinds := [.data, .pinned], laidTests := true, laidLooks := .later }
def OpsEditsCardSaid : Prop := Claim7.holds Tryz.pinned (.plain (OpenSpec.ofChange opsEditsSpec)) opsEditsCard

/-- THE TIED CARD OF 'erratumlaw15.OpsParts'. -/
def opsPartsCard : Claim7 := { stood := { row := opsPartsRow, standIns := [], harness := (true, "a3e3ff5238dd389d118d201f566a4b5639cb711d670b2a56305dd1d688f757b4"), looks := true }, kinds := [], alts := [], laidByText := true, laidKinds := [.data, .pinned], laidTests := true, laidLooks := .later }
def OpsPartsCardSaid : Prop := Claim7.holds Tryz.pinned (.plain (OpenSpec.ofChange opsPartsSpec)) opsPartsCard

/-- THE TIED CARD OF 'erratumlaw15.OpsUndoes'. -/
def opsUndoesCard : Claim7 := { stood := { row := opsUndoesRow, standIns := [], harness := (true, "a3e3ff5238dd389d118d201f566a4b5639cb711d670b2a56305dd1d688f757b4"), looks := true }, kinds := [], alts := [], laidByText := true, laidKinds := [.data, .pinned], laidTests := true, laidLooks := .later }
def OpsUndoesCardSaid : Prop := Claim7.holds Tryz.pinned (.plain (OpenSpec.ofChange opsUndoesSpec)) opsUndoesCard

/-- THE SECOND FORM's CARD OF 'erratumlaw15.OpsAll'. -/
def opsAllUptoCard : Claim7 := { stood := { row := opsAllUptoRow, standIns := [], harness := (true, "a3e3ff5238dd389d118d201f566a4b5639cb711d670b2a56305dd1d688f757b4"), looks := true }, kinds := [], alts := [], laidByText := true, laidKinds := [.data, .pinned], laidTests := true, laidLooks := .later }
def OpsAllUptoCardSaid : Prop := Claim7.holds Tryz.pinned (.plain (OpenSpec.upto opsAllSpec)) opsAllUptoCard

/-- THE SECOND FORM's CARD OF 'erratumlaw15.OpsEdits'. -/
def opsEditsUptoCard : Claim7 := { stood := { row := opsEditsUptoRow, standIns := [], harness := (true, "a3e3ff5238dd389d118d201f566a4b5639cb711d670b2a56305dd1d688f757b4"), looks := true }, kinds := [], alts := [], laidByText := true, laidKinds := [.data, .pinned], laidTests := true, laidLooks := .later }
def OpsEditsUptoCardSaid : Prop := Claim7.holds Tryz.pinned (.plain (OpenSpec.upto opsEditsSpec)) opsEditsUptoCard

/-- THE SECOND FORM's CARD OF 'erratumlaw15.OpsParts'. -/
def opsPartsUptoCard : Claim7 := { stood := { row := opsPartsUptoRow, standIns := [], harness := (true, "a3e3ff5238dd389d118d201f566a4b5639cb711d670b2a56305dd1d688f757b4"), looks := true }, kinds := [], alts := [], laidByText := true, laidKinds := [.data, .pinned], laidTests := true, laidLooks := .later }
def OpsPartsUptoCardSaid : Prop := Claim7.holds Tryz.pinned (.plain (OpenSpec.upto opsPartsSpec)) opsPartsUptoCard

/-- THE SECOND FORM's CARD OF 'erratumlaw15.OpsUndoes'. -/
def opsUndoesUptoCard : Claim7 := { stood := { row := opsUndoesUptoRow, standIns := [], harness := (true, "a3e3ff5238dd389d118d201f566a4b5639cb711d670b2a56305dd1d688f757b4"), looks := true }, kinds := [], alts := [], laidByText := true, laidKinds := [.data, .pinned], laidTests := true, laidLooks := .later }
def OpsUndoesUptoCardSaid : Prop := Claim7.holds Tryz.pinned (.plain (OpenSpec.upto opsUndoesSpec)) opsUndoesUptoCard
end Rows
end Go.Proofs.YtnefgdahdccldaaGreatDoor
