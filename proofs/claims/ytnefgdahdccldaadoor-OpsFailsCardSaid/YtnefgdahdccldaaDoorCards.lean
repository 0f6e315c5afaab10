/-
  DERIVED. GIVEN WITH THE SEED: THE CARDS: each row of YtnefgdahdccldaaDoorRows.lean that lists a variable, with what it lists TIED to the program's text (the seventh form; the later family's looks); each row that meets fmt, with fmt's text TOLD by the authors' own Lean function (tested against real Go, not proved from fmt's source: count such statements apart). THE CARD IS WHAT COUNTS. Prove the row's statement (the work); the ties are given (YtnefgdahdccldaaDoorTie.lean); close each card by the builder's one call (the guide's Derived/Test/ToyasCard.lean, 'card_holds'). Laid BY PROGRAM, IN A SANDBOX (cutbox-door.mjs). By AI agents, Wed Nov 11 2026. No macro, syntax, notation, axiom, sorry.
-/
import Derived.Test.YtnefgdahdccldaaDoorRows
import GoSem.ClaimSeven
namespace Go.Proofs.YtnefgdahdccldaaDoor
namespace Rows

/-- THE TIED CARD OF 'erratumlaw15.OpsArrays'. -/
def opsArraysCard : Claim7 := { stood := { row := opsArraysRow, standIns := [], harness := (true, "ae61e9d08259ce8e8272d28ec2167146d84cffdf6a07e182aa434ced0938186b"), looks := true }, kinds := [], alts := [], laidByText := true, laidKinds := [.data, .pinned], laidTests := true, laidLooks := .later }
def OpsArraysCardSaid : Prop := Claim7.holds Tryd.pinned (.plain (OpenSpec.ofChange opsArraysSpec)) opsArraysCard

/-- THE TIED CARD OF 'erratumlaw15.OpsFails'. -/
def opsFailsCard : Claim7 := { stood := { row := opsFailsRow, standIns := [], harness := (true, "ae61e9d08259ce8e8272d28ec2167146d84cffdf6a07e182aa434ced0938186b"), looks := true }, kinds := [], alts := [], laidByText := true, laidKinds := [.data, .pinned], laidTests := true, laidLooks := .later }
def OpsFailsCardSaid : Prop := Claim7.holds Tryd.pinned (.plain (OpenSpec.ofChange opsFailsSpec)) opsFailsCard

/-- THE TIED CARD OF 'erratumlaw15.OpsWeight'. -/
def opsWeightCard : Claim7 := { stood := { row := opsWeightRow, standIns := [], harness := (true, "ae61e9d08259ce8e8272d28ec2167146d84cffdf6a07e182aa434ced0938186b"), looks := true }, kinds := [], alts := [], laidByText := true, laidKinds := [.data, .pinned], laidTests := true, laidLooks := .later }
def OpsWeightCardSaid : Prop := Claim7.holds Tryd.pinned (.plain (OpenSpec.ofChange opsWeightSpec)) opsWeightCard

/-- THE SECOND FORM's CARD OF 'erratumlaw15.OpsArrays'. -/
def opsArraysUptoCard : Claim7 := { stood := { row := opsArraysUptoRow, standIns := [], harness := (true, "ae61e9d08259ce8e8272d28ec2167146d84cffdf6a07e182aa434ced0938186b"), looks := true }, kinds := [], alts := [], laidByText := true, laidKinds := [.data, .pinned], laidTests := true, laidLooks := .later }
def OpsArraysUptoCardSaid : Prop := Claim7.holds Tryd.pinned (.plain (OpenSpec.upto opsArraysSpec)) opsArraysUptoCard

/-- THE SECOND FORM's CARD OF 'erratumlaw15.OpsFails'. -/
def opsFailsUptoCard : Claim7 := { stood := { row := opsFailsUptoRow, standIns := [], harness := (true, "ae61e9d08259ce8e8272d28ec2167146d84cffdf6a07e182aa434ced0938186b"), looks := true }, kinds := [], alts := [], laidByText := true, laidKinds := [.data, .pinned], laidTests := true, laidLooks := .later }
def OpsFailsUptoCardSaid : Prop := Claim7.holds Tryd.pinned (.plain (OpenSpec.upto opsFailsSpec)) opsFailsUptoCard

/-- THE SECOND FORM's CARD OF 'erratumlaw15.OpsWeight'. -/
def opsWeightUptoCard : Claim7 := { stood := { row := opsWeightUptoRow, standIns := [], harness := (true, "ae61e9d08259ce8e8272d28ec2167146d84cffdf6a07e182aa434ced0938186b"), looks := true }, kinds := [], alts := [], laidByText := true, laidKinds := [.data, .pinned], laidTests := true, laidLooks := .later }
def OpsWeightUptoCardSaid : Prop := Claim7.holds Tryd.pinned (.plain (OpenSpec.upto opsWeightSpec)) opsWeightUptoCard
end Rows
end Go.Proofs.YtnefgdahdccldaaDoor
