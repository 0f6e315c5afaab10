/-
  DERIVED. GIVEN WITH THE SEED: THE CARDS: each row of YtoikjfpefikmpaaDoorRows.lean that lists a variable, with what it lists TIED to the program's text (the seventh form; the later family's looks); each row that meets fmt, with fmt's text TOLD by the authors' own Lean function (tested against real Go, not proved from fmt's source: count such statements apart). THE CARD IS WHAT COUNTS. Prove the row's statement (the work); the ties are given (YtoikjfpefikmpaaDoorTie.lean); close each card by the builder's one call (the guide's Derived/Test/ToyasCard.lean, 'card_holds'). Laid BY PROGRAM, IN A SANDBOX (cutbox-door.mjs). By AI agents, Wed Nov 11 2026. No macro, syntax, notation, axiom, sorry.
-/
import Derived.Test.YtoikjfpefikmpaaDoorRows
import GoSem.ClaimSeven
namespace Go.Proofs.YtoikjfpefikmpaaDoor
namespace Rows

/-- THE TIED CARD OF 'erratumlaw01.NatOrders'. -/
def natOrdersCard : Claim7 := { stood := { row := natOrdersRow, standIns := [], harness := (true, "ad3506b01a5c3e425663f61c0baa2a1d0cca8dab4b5ef73d1ae82a1d558b6604"), looks := false }, kinds := [], alts := [], laidByText := true, laidKinds := [.data, .pinned], laidTests := true, laidLooks := .later }
def NatOrdersCardSaid : Prop := Claim7.holds Tryd.pinned (.plain (OpenSpec.ofChange natOrdersSpec)) natOrdersCard

/-- THE TIED CARD OF 'erratumlaw01.NatSums'. -/
def natSumsCard : Claim7 := { stood := { row := natSumsRow, standIns := [], harness := (true, "ad3506b01a5c3e425663f61c0baa2a1d0cca8dab4b5ef73d1ae82a1d558b6604"), looks := false }, kinds := [], alts := [], laidByText := true, laidKinds := [.data, .pinned], laidTests := true, laidLooks := .later }
def NatSumsCardSaid : Prop := Claim7.holds Tryd.pinned (.plain (OpenSpec.ofChange natSumsSpec)) natSumsCard

/-- THE TIED CARD OF 'erratumlaw01.NatDigits'. -/
def natDigitsCard : Claim7 := { stood := { row := natDigitsRow, standIns := [], harness := (true, "ad3506b01a5c3e425663f61c0baa2a1d0cca8dab4b5ef73d1ae82a1d558b6604"), looks := false }, kinds := [], alts := [], laidByText := true, laidKinds := [.data, .pinned], laidTests := true, laidLooks := .later }
def NatDigitsCardSaid : Prop := Claim7.holds Tryd.pinned (.plain (OpenSpec.ofChange natDigitsSpec)) natDigitsCard

/-- THE TIED CARD OF 'erratumlaw01.NatDivides'. -/
def natDividesCard : Claim7 := { stood := { row := natDividesRow, standIns := [], harness := (true, "ad3506b01a5c3e425663f61c0baa2a1d0cca8dab4b5ef73d1ae82a1d558b6604"), looks := false }, kinds := [], alts := [], laidByText := true, laidKinds := [.data, .pinned], laidTests := true, laidLooks := .later }
def NatDividesCardSaid : Prop := Claim7.holds Tryd.pinned (.plain (OpenSpec.ofChange natDividesSpec)) natDividesCard

/-- THE TIED CARD OF 'erratumlaw01.NatPowers'. -/
def natPowersCard : Claim7 := { stood := { row := natPowersRow, standIns := [], harness := (true, "ad3506b01a5c3e425663f61c0baa2a1d0cca8dab4b5ef73d1ae82a1d558b6604"), looks := false }, kinds := [], alts := [], laidByText := true, laidKinds := [.data, .pinned], laidTests := true, laidLooks := .later }
def NatPowersCardSaid : Prop := Claim7.holds Tryd.pinned (.plain (OpenSpec.ofChange natPowersSpec)) natPowersCard

/-- THE TIED CARD OF 'erratumlaw01.NatAll'. -/
def natAllCard : Claim7 := { stood := { row := natAllRow, standIns := [], harness := (true, "ad3506b01a5c3e425663f61c0baa2a1d0cca8dab4b5ef73d1ae82a1d558b6604"), looks := false }, kinds := [], alts := [], laidByText := true, laidKinds := [.data, .pinned], laidTests := true, laidLooks := .later }
def NatAllCardSaid : Prop := Claim7.holds Tryd.pinned (.plain (OpenSpec.ofChange natAllSpec)) natAllCard

/-- THE SECOND FORM's CARD OF 'erratumlaw01.NatOrders'. -/
def natOrdersUptoCard : Claim7 := { stood := { row := natOrdersUptoRow, standIns := [], harness := (true, "ad3506b01a5c3e425663f61c0baa2a1d0cca8dab4b5ef73d1ae82a1d558b6604"), looks := false }, kinds := [], alts := [], laidByText := true, laidKinds := [.data, .pinned], laidTests := true, laidLooks := .later }
def NatOrdersUptoCardSaid : Prop := Claim7.holds Tryd.pinned (.plain (OpenSpec.upto natOrdersSpec)) natOrdersUptoCard

/-- THE SECOND FORM's CARD OF 'erratumlaw01.NatSums'. -/
def natSumsUptoCard : Claim7 := { stood := { row := natSumsUptoRow, standIns := [], harness := (true, "ad3506b01a5c3e425663f61c0baa2a1d0cca8dab4b5ef73d1ae82a1d558b6604"), looks := false }, kinds := [], alts := [], laidByText := true, laidKinds := [.data, .pinned], laidTests := true, laidLooks := .later }
def NatSumsUptoCardSaid : Prop := Claim7.holds Tryd.pinned (.plain (OpenSpec.upto natSumsSpec)) natSumsUptoCard

/-- THE SECOND FORM's CARD OF 'erratumlaw01.NatDigits'. -/
def natDigitsUptoCard : Claim7 := { stood := { row := natDigitsUptoRow, standIns := [], harness := (true, "ad3506b01a5c3e425663f61c0baa2a1d0cca8dab4b5ef73d1ae82a1d558b6604"), looks := false }, kinds := [], alts := [], laidByText := true, laidKinds := [.data, .pinned], laidTests := true, laidLooks := .later }
def NatDigitsUptoCardSaid : Prop := Claim7.holds Tryd.pinned (.plain (OpenSpec.upto natDigitsSpec)) natDigitsUptoCard

/-- THE SECOND FORM's CARD OF 'erratumlaw01.NatDivides'. -/
def natDividesUptoCard : Claim7 := { stood := { row := natDividesUptoRow, standIns := [], harness := (true, "ad3506b01a5c3e425663f61c0baa2a1d0cca8dab4b5ef73d1ae82a1d558b6604"), looks := false }, kinds := [], alts := [], laidByText := true, laidKinds := [.data, .pinned], laidTests := true, laidLooks := .later }
def NatDividesUptoCardSaid : Prop := Claim7.holds Tryd.pinned (.plain (OpenSpec.upto natDividesSpec)) natDividesUptoCard

/-- THE SECOND FORM's CARD OF 'erratumlaw01.NatPowers'. -/
def natPowersUptoCard : Claim7 := { stood := { row := natPowersUptoRow, standIns := [], harness := (true, "ad3506b01a5c3e425663f61c0baa2a1d0cca8dab4b5ef73d1ae82a1d558b6604"), looks := false }, kinds := [], alts := [], laidByText := true, laidKinds := [.data, .pinned], laidTests := true, laidLooks := .later }
def NatPowersUptoCardSaid : Prop := Claim7.holds Tryd.pinned (.plain (OpenSpec.upto natPowersSpec)) natPowersUptoCard

/-- THE SECOND FORM's CARD OF 'erratumlaw01.NatAll'. -/
def natAllUptoCard : Claim7 := { stood := { row := natAllUptoRow, standIns := [], harness := (true, "ad3506b01a5c3e425663f61c0baa2a1d0cca8dab4b5ef73d1ae82a1d558b6604"), looks := false }, kinds := [], alts := [], laidByText := true, laidKinds := [.data, .pinned], laidTests := true, laidLooks := .later }
def NatAllUptoCardSaid : Prop := Claim7.holds Tryd.pinned (.plain (OpenSpec.upto natAllSpec)) natAllUptoCard
end Rows
end Go.Proofs.YtoikjfpefikmpaaDoor
