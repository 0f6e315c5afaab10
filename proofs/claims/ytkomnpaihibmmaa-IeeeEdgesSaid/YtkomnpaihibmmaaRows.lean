/-
  No cell of these rows narrows 'for every input' (looked for: loops, veiled, ifaces, maps, wideKeys, modest, calm, conditions, laid).
  DERIVED. THE GIVEN ROWS OF THIS SEAT. 7 by the template 'for every input the law returns true; each argument reads behind the call as it read before'; 0 by the template 'total and deterministic' (their statements: YtkomnpaihibmmaaTotals.lean).
  GIVEN WITH THE SEED: the statements are not yours to turn. If you find one false, say at which input.
  Laid BY PROGRAM, IN A SANDBOX (cutbox-rows.mjs): the forced cells as the released guide's own fill.sh prints them over the translation a7db3fe81305b68c… (all of the seat's roots in one cut). By AI agents, Wed Nov 11 2026. No macro, syntax, notation, axiom, sorry.
-/
import Derived.Test.YtkomnpaihibmmaaChecked
import GoSem.Claim
import GoSem.ClaimJoined
import GoSem.ClaimMapViews
import Derived.JoinedTies
import Derived.KernelRfl
namespace Go.Proofs.Ytkomnpaihibmmaa
/- THE CELL 'sum', in the pinned program and in every row, IS THE sha256 OF THE DUMP (.gsa) THAT YtkomnpaihibmmaaProg.lean LOADS. Nothing in Lean hashes anything: it is a label: what it is worth is what the hold of that sum in a sandbox is worth. -/
noncomputable def Try.pinned : Pinned := { name := "ytkomnpaihibmmaa", sum := "a7db3fe81305b68c9b9f9b83962001c9756e298ac7bbd5e112e01a0ed07f3391", checked := Try.checked }
namespace Rows
def none {H : Type} : Left H := { results := [], args := [] }

/-- 'erratumlaw03.IeeeAll': WHATEVER THE INPUT: true; the input reads as it did. -/
def ieeeAllSpec : ChangeSpec := { name := "ieeeAll", fn := fun _ => fun
  | [d1, d2, d3] => { results := [.lit (.bool true)], args := [d1, d2, d3] }
  | _ => none }
def ieeeAllRow : OpenClaim := { program := "ytkomnpaihibmmaa", sum := "a7db3fe81305b68c9b9f9b83962001c9756e298ac7bbd5e112e01a0ed07f3391", func := "erratum/erratumlaw03.IeeeAll", spec := "ieeeAll", apart := false }
def IeeeAllSaid : Prop := ieeeAllRow.holds Try.pinned (OpenSpec.ofChange ieeeAllSpec)

/-- ITS FALSE NEIGHBOUR: 'it returns false'. Refute it at one input. -/
def ieeeAllWrong : ChangeSpec := { name := "ieeeAll", fn := fun _ => fun
  | [d1, d2, d3] => { results := [.lit (.bool false)], args := [d1, d2, d3] }
  | _ => none }
def IeeeAllWrongFalsely : Prop := ieeeAllRow.holds Try.pinned (OpenSpec.ofChange ieeeAllWrong)

/-- 'erratumlaw03.IeeeBack': WHATEVER THE INPUT: true; the input reads as it did. -/
def ieeeBackSpec : ChangeSpec := { name := "ieeeBack", fn := fun _ => fun
  | [d1, d2] => { results := [.lit (.bool true)], args := [d1, d2] }
  | _ => none }
def ieeeBackRow : OpenClaim := { program := "ytkomnpaihibmmaa", sum := "a7db3fe81305b68c9b9f9b83962001c9756e298ac7bbd5e112e01a0ed07f3391", func := "erratum/erratumlaw03.IeeeBack", spec := "ieeeBack", apart := false }
def IeeeBackSaid : Prop := ieeeBackRow.holds Try.pinned (OpenSpec.ofChange ieeeBackSpec)

/-- ITS FALSE NEIGHBOUR: 'it returns false'. Refute it at one input. -/
def ieeeBackWrong : ChangeSpec := { name := "ieeeBack", fn := fun _ => fun
  | [d1, d2] => { results := [.lit (.bool false)], args := [d1, d2] }
  | _ => none }
def IeeeBackWrongFalsely : Prop := ieeeBackRow.holds Try.pinned (OpenSpec.ofChange ieeeBackWrong)

/-- 'erratumlaw03.IeeeEdges': WHATEVER THE INPUT: true; the input reads as it did. -/
def ieeeEdgesSpec : ChangeSpec := { name := "ieeeEdges", fn := fun _ => fun
  | [] => { results := [.lit (.bool true)], args := [] }
  | _ => none }
def ieeeEdgesRow : OpenClaim := { program := "ytkomnpaihibmmaa", sum := "a7db3fe81305b68c9b9f9b83962001c9756e298ac7bbd5e112e01a0ed07f3391", func := "erratum/erratumlaw03.IeeeEdges", spec := "ieeeEdges", apart := false }
def IeeeEdgesSaid : Prop := ieeeEdgesRow.holds Try.pinned (OpenSpec.ofChange ieeeEdgesSpec)

/-- ITS FALSE NEIGHBOUR: 'it returns false'. Refute it at one input. -/
def ieeeEdgesWrong : ChangeSpec := { name := "ieeeEdges", fn := fun _ => fun
  | [] => { results := [.lit (.bool false)], args := [] }
  | _ => none }
def IeeeEdgesWrongFalsely : Prop := ieeeEdgesRow.holds Try.pinned (OpenSpec.ofChange ieeeEdgesWrong)

/-- 'erratumlaw03.IeeeHalves': WHATEVER THE INPUT: true; the input reads as it did. -/
def ieeeHalvesSpec : ChangeSpec := { name := "ieeeHalves", fn := fun _ => fun
  | [d1, d2, d3, d4] => { results := [.lit (.bool true)], args := [d1, d2, d3, d4] }
  | _ => none }
def ieeeHalvesRow : OpenClaim := { program := "ytkomnpaihibmmaa", sum := "a7db3fe81305b68c9b9f9b83962001c9756e298ac7bbd5e112e01a0ed07f3391", func := "erratum/erratumlaw03.IeeeHalves", spec := "ieeeHalves", apart := false }
def IeeeHalvesSaid : Prop := ieeeHalvesRow.holds Try.pinned (OpenSpec.ofChange ieeeHalvesSpec)

/-- ITS FALSE NEIGHBOUR: 'it returns false'. Refute it at one input. -/
def ieeeHalvesWrong : ChangeSpec := { name := "ieeeHalves", fn := fun _ => fun
  | [d1, d2, d3, d4] => { results := [.lit (.bool false)], args := [d1, d2, d3, d4] }
  | _ => none }
def IeeeHalvesWrongFalsely : Prop := ieeeHalvesRow.holds Try.pinned (OpenSpec.ofChange ieeeHalvesWrong)

/-- 'erratumlaw03.IeeeSigns': WHATEVER THE INPUT: true; the input reads as it did. -/
def ieeeSignsSpec : ChangeSpec := { name := "ieeeSigns", fn := fun _ => fun
  | [d1, d2] => { results := [.lit (.bool true)], args := [d1, d2] }
  | _ => none }
def ieeeSignsRow : OpenClaim := { program := "ytkomnpaihibmmaa", sum := "a7db3fe81305b68c9b9f9b83962001c9756e298ac7bbd5e112e01a0ed07f3391", func := "erratum/erratumlaw03.IeeeSigns", spec := "ieeeSigns", apart := false }
def IeeeSignsSaid : Prop := ieeeSignsRow.holds Try.pinned (OpenSpec.ofChange ieeeSignsSpec)

/-- ITS FALSE NEIGHBOUR: 'it returns false'. Refute it at one input. -/
def ieeeSignsWrong : ChangeSpec := { name := "ieeeSigns", fn := fun _ => fun
  | [d1, d2] => { results := [.lit (.bool false)], args := [d1, d2] }
  | _ => none }
def IeeeSignsWrongFalsely : Prop := ieeeSignsRow.holds Try.pinned (OpenSpec.ofChange ieeeSignsWrong)

/-- 'erratumlaw03.IeeeSame': WHATEVER THE INPUT: true; the input reads as it did. -/
def ieeeSameSpec : ChangeSpec := { name := "ieeeSame", fn := fun _ => fun
  | [d1, d2] => { results := [.lit (.bool true)], args := [d1, d2] }
  | _ => none }
def ieeeSameRow : OpenClaim := { program := "ytkomnpaihibmmaa", sum := "a7db3fe81305b68c9b9f9b83962001c9756e298ac7bbd5e112e01a0ed07f3391", func := "erratum/erratumlaw03.IeeeSame", spec := "ieeeSame", inPlace := ["math.Float64bits", "math.Float64frombits"], apart := false }
def IeeeSameSaid : Prop := ieeeSameRow.holds Try.pinned (OpenSpec.ofChange ieeeSameSpec)

/-- ITS FALSE NEIGHBOUR: 'it returns false'. Refute it at one input. -/
def ieeeSameWrong : ChangeSpec := { name := "ieeeSame", fn := fun _ => fun
  | [d1, d2] => { results := [.lit (.bool false)], args := [d1, d2] }
  | _ => none }
def IeeeSameWrongFalsely : Prop := ieeeSameRow.holds Try.pinned (OpenSpec.ofChange ieeeSameWrong)

/-- 'erratumlaw03.IeeeFloats': WHATEVER THE INPUT: true; the input reads as it did. -/
def ieeeFloatsSpec : ChangeSpec := { name := "ieeeFloats", fn := fun _ => fun
  | [d1, d2, d3] => { results := [.lit (.bool true)], args := [d1, d2, d3] }
  | _ => none }
def ieeeFloatsRow : OpenClaim := { program := "ytkomnpaihibmmaa", sum := "a7db3fe81305b68c9b9f9b83962001c9756e298ac7bbd5e112e01a0ed07f3391", func := "erratum/erratumlaw03.IeeeFloats", spec := "ieeeFloats", inPlace := ["math.Float64bits", "math.Float64frombits"], apart := false }
def IeeeFloatsSaid : Prop := ieeeFloatsRow.holds Try.pinned (OpenSpec.ofChange ieeeFloatsSpec)

/-- ITS FALSE NEIGHBOUR: 'it returns false'. Refute it at one input. -/
def ieeeFloatsWrong : ChangeSpec := { name := "ieeeFloats", fn := fun _ => fun
  | [d1, d2, d3] => { results := [.lit (.bool false)], args := [d1, d2, d3] }
  | _ => none }
def IeeeFloatsWrongFalsely : Prop := ieeeFloatsRow.holds Try.pinned (OpenSpec.ofChange ieeeFloatsWrong)

/- THE SECOND FORM. 'bulk': how many values and letters a reading holds, each counted each time it is reached (what is shared counts as often as it is met; a slice's spare places count too). A statement '..UptoSaid' is the law's where the arguments, and the package variables that the reading takes, are together of bulk at most 1048576: NARROWER than '..Said'. Prove '..Said' where nothing that the law and all that it calls make is longer than what came in: it says more and counts as full. Else prove '..UptoSaid'. A law counts once. -/
mutual
def uptoBulk {H : Type} : DataW H → Nat
  | .lit (.string bytes) => bytes.length + 1
  | .lit _ => 1
  | .nil => 1
  | .ptr d => uptoBulk d + 1
  | .slice elems spare => uptoBulkAll elems + uptoBulkAll spare + 1
  | .agg parts => uptoBulkAll parts + 1
  | .iface _ d => uptoBulk d + 1
  | .map entries => uptoBulkEntries entries + 1
  | .held _ => 1
def uptoBulkAll {H : Type} : List (DataW H) → Nat
  | [] => 0
  | d :: r => uptoBulk d + uptoBulkAll r
def uptoBulkEntries {H : Type} : List (Lit × DataW H) → Nat
  | [] => 0
  | x :: r => uptoBulkEntry x + uptoBulkEntries r
def uptoBulkEntry {H : Type} : Lit × DataW H → Nat
  | (.string bytes, d) => bytes.length + uptoBulk d + 1
  | (_, d) => uptoBulk d + 1
 end
def uptoSmall : (H : Type) → List (DataW H) → Bool := fun _ ds => decide (uptoBulkAll ds ≤ 1048576)
def OpenSpec.upto (s : _root_.Go.ChangeSpec) : _root_.Go.OpenSpec := { _root_.Go.OpenSpec.ofChange s with cond := some uptoSmall }

/-- 'erratumlaw03.IeeeAll', WHERE WHAT IT READS IS OF BULK AT MOST 1048576: true; the input reads as it did. -/
def ieeeAllUptoRow : OpenClaim := { program := "ytkomnpaihibmmaa", sum := "a7db3fe81305b68c9b9f9b83962001c9756e298ac7bbd5e112e01a0ed07f3391", func := "erratum/erratumlaw03.IeeeAll", spec := "ieeeAll", apart := false, narrowed := true }
def IeeeAllUptoSaid : Prop := ieeeAllUptoRow.holds Try.pinned (OpenSpec.upto ieeeAllSpec)

/-- 'erratumlaw03.IeeeBack', WHERE WHAT IT READS IS OF BULK AT MOST 1048576: true; the input reads as it did. -/
def ieeeBackUptoRow : OpenClaim := { program := "ytkomnpaihibmmaa", sum := "a7db3fe81305b68c9b9f9b83962001c9756e298ac7bbd5e112e01a0ed07f3391", func := "erratum/erratumlaw03.IeeeBack", spec := "ieeeBack", apart := false, narrowed := true }
def IeeeBackUptoSaid : Prop := ieeeBackUptoRow.holds Try.pinned (OpenSpec.upto ieeeBackSpec)

/-- 'erratumlaw03.IeeeEdges', WHERE WHAT IT READS IS OF BULK AT MOST 1048576: true; the input reads as it did. -/
def ieeeEdgesUptoRow : OpenClaim := { program := "ytkomnpaihibmmaa", sum := "a7db3fe81305b68c9b9f9b83962001c9756e298ac7bbd5e112e01a0ed07f3391", func := "erratum/erratumlaw03.IeeeEdges", spec := "ieeeEdges", apart := false, narrowed := true }
def IeeeEdgesUptoSaid : Prop := ieeeEdgesUptoRow.holds Try.pinned (OpenSpec.upto ieeeEdgesSpec)

/-- 'erratumlaw03.IeeeHalves', WHERE WHAT IT READS IS OF BULK AT MOST 1048576: true; the input reads as it did. -/
def ieeeHalvesUptoRow : OpenClaim := { program := "ytkomnpaihibmmaa", sum := "a7db3fe81305b68c9b9f9b83962001c9756e298ac7bbd5e112e01a0ed07f3391", func := "erratum/erratumlaw03.IeeeHalves", spec := "ieeeHalves", apart := false, narrowed := true }
def IeeeHalvesUptoSaid : Prop := ieeeHalvesUptoRow.holds Try.pinned (OpenSpec.upto ieeeHalvesSpec)

/-- 'erratumlaw03.IeeeSigns', WHERE WHAT IT READS IS OF BULK AT MOST 1048576: true; the input reads as it did. -/
def ieeeSignsUptoRow : OpenClaim := { program := "ytkomnpaihibmmaa", sum := "a7db3fe81305b68c9b9f9b83962001c9756e298ac7bbd5e112e01a0ed07f3391", func := "erratum/erratumlaw03.IeeeSigns", spec := "ieeeSigns", apart := false, narrowed := true }
def IeeeSignsUptoSaid : Prop := ieeeSignsUptoRow.holds Try.pinned (OpenSpec.upto ieeeSignsSpec)

/-- 'erratumlaw03.IeeeSame', WHERE WHAT IT READS IS OF BULK AT MOST 1048576: true; the input reads as it did. -/
def ieeeSameUptoRow : OpenClaim := { program := "ytkomnpaihibmmaa", sum := "a7db3fe81305b68c9b9f9b83962001c9756e298ac7bbd5e112e01a0ed07f3391", func := "erratum/erratumlaw03.IeeeSame", spec := "ieeeSame", inPlace := ["math.Float64bits", "math.Float64frombits"], apart := false, narrowed := true }
def IeeeSameUptoSaid : Prop := ieeeSameUptoRow.holds Try.pinned (OpenSpec.upto ieeeSameSpec)

/-- 'erratumlaw03.IeeeFloats', WHERE WHAT IT READS IS OF BULK AT MOST 1048576: true; the input reads as it did. -/
def ieeeFloatsUptoRow : OpenClaim := { program := "ytkomnpaihibmmaa", sum := "a7db3fe81305b68c9b9f9b83962001c9756e298ac7bbd5e112e01a0ed07f3391", func := "erratum/erratumlaw03.IeeeFloats", spec := "ieeeFloats", inPlace := ["math.Float64bits", "math.Float64frombits"], apart := false, narrowed := true }
def IeeeFloatsUptoSaid : Prop := ieeeFloatsUptoRow.holds Try.pinned (OpenSpec.upto ieeeFloatsSpec)

end Rows
end Go.Proofs.Ytkomnpaihibmmaa
