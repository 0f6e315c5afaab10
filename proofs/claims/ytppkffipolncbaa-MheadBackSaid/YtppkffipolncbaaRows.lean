/-
  No cell of these rows narrows 'for every input' (looked for: loops, veiled, ifaces, maps, wideKeys, modest, calm, conditions, laid).
  DERIVED. THE GIVEN ROWS OF THIS SEAT. 3 by the template 'for every input the law returns true; each argument reads behind the call as it read before'; 0 by the template 'total and deterministic' (their statements: YtppkffipolncbaaTotals.lean).
  GIVEN WITH THE SEED: the statements are not yours to turn. If you find one false, say at which input.
  Laid BY PROGRAM, IN A SANDBOX (cutbox-rows.mjs): the forced cells as the released guide's own fill.sh prints them over the translation e867ef299f6879c8… (all of the seat's roots in one cut). By AI agents, Wed Nov 11 2026. No macro, syntax, notation, axiom, sorry.
-/
import Derived.Test.YtppkffipolncbaaChecked
import GoSem.Claim
import GoSem.ClaimJoined
import GoSem.ClaimMapViews
import Derived.JoinedTies
import Derived.KernelRfl
namespace Go.Proofs.Ytppkffipolncbaa
/- THE CELL 'sum', in the pinned program and in every row, IS THE sha256 OF THE DUMP (.gsa) THAT YtppkffipolncbaaProg.lean LOADS. Nothing in Lean hashes anything: it is a label: what it is worth is what the hold of that sum in a sandbox is worth. -/
noncomputable def Try.pinned : Pinned := { name := "ytppkffipolncbaa", sum := "e867ef299f6879c8cfb59c0a51f2306822e9533fe2595a0f070dad1ade0c975e", checked := Try.checked }
namespace Rows
def none {H : Type} : Left H := { results := [], args := [] }

/-- 'erratumlaw11.MheadAll': WHATEVER THE INPUT: true; the input reads as it did. -/
def mheadAllSpec : ChangeSpec := { name := "mheadAll", fn := fun _ => fun
  | [d1, d2, d3, d4] => { results := [.lit (.bool true)], args := [d1, d2, d3, d4] }
  | _ => none }
def mheadAllRow : OpenClaim := { program := "ytppkffipolncbaa", sum := "e867ef299f6879c8cfb59c0a51f2306822e9533fe2595a0f070dad1ade0c975e", func := "erratum/erratumlaw11.MheadAll", spec := "mheadAll", apart := false }
def MheadAllSaid : Prop := mheadAllRow.holds Try.pinned (OpenSpec.ofChange mheadAllSpec)

/-- ITS FALSE NEIGHBOUR: 'it returns false'. Refute it at one input. -/
def mheadAllWrong : ChangeSpec := { name := "mheadAll", fn := fun _ => fun
  | [d1, d2, d3, d4] => { results := [.lit (.bool false)], args := [d1, d2, d3, d4] }
  | _ => none }
def MheadAllWrongFalsely : Prop := mheadAllRow.holds Try.pinned (OpenSpec.ofChange mheadAllWrong)

/-- 'erratumlaw11.MheadBack': WHATEVER THE INPUT: true; the input reads as it did. -/
def mheadBackSpec : ChangeSpec := { name := "mheadBack", fn := fun _ => fun
  | [d1, d2, d3] => { results := [.lit (.bool true)], args := [d1, d2, d3] }
  | _ => none }
def mheadBackRow : OpenClaim := { program := "ytppkffipolncbaa", sum := "e867ef299f6879c8cfb59c0a51f2306822e9533fe2595a0f070dad1ade0c975e", func := "erratum/erratumlaw11.MheadBack", spec := "mheadBack", apart := false }
def MheadBackSaid : Prop := mheadBackRow.holds Try.pinned (OpenSpec.ofChange mheadBackSpec)

/-- ITS FALSE NEIGHBOUR: 'it returns false'. Refute it at one input. -/
def mheadBackWrong : ChangeSpec := { name := "mheadBack", fn := fun _ => fun
  | [d1, d2, d3] => { results := [.lit (.bool false)], args := [d1, d2, d3] }
  | _ => none }
def MheadBackWrongFalsely : Prop := mheadBackRow.holds Try.pinned (OpenSpec.ofChange mheadBackWrong)

/-- 'erratumlaw11.MheadFirsts': WHATEVER THE INPUT: true; the input reads as it did. -/
def mheadFirstsSpec : ChangeSpec := { name := "mheadFirsts", fn := fun _ => fun
  | [d1, d2] => { results := [.lit (.bool true)], args := [d1, d2] }
  | _ => none }
def mheadFirstsRow : OpenClaim := { program := "ytppkffipolncbaa", sum := "e867ef299f6879c8cfb59c0a51f2306822e9533fe2595a0f070dad1ade0c975e", func := "erratum/erratumlaw11.MheadFirsts", spec := "mheadFirsts", apart := false }
def MheadFirstsSaid : Prop := mheadFirstsRow.holds Try.pinned (OpenSpec.ofChange mheadFirstsSpec)

/-- ITS FALSE NEIGHBOUR: 'it returns false'. Refute it at one input. -/
def mheadFirstsWrong : ChangeSpec := { name := "mheadFirsts", fn := fun _ => fun
  | [d1, d2] => { results := [.lit (.bool false)], args := [d1, d2] }
  | _ => none }
def MheadFirstsWrongFalsely : Prop := mheadFirstsRow.holds Try.pinned (OpenSpec.ofChange mheadFirstsWrong)

/- THE SECOND FORM. 'bulk': how many values and letters a reading holds, each counted each time it is reached (what is shared counts as often as it is met; a slice's spare places count too). A statement '..UptoSaid' is the law's where the arguments, and the package variables that the reading takes, are together of bulk at most 1048576: NARROWER than '..Said'. Prove '..Said' where nothing that the law and all that it calls make is longer than what came in: it says more and counts as full. Else prove '..UptoSaid'. A law counts once. -/
mutual
def uptoBulk {H : Type} : DataW H → Nat
  | .lit (.string bytes) => bytes.length + 1
  | .lit _ => 1
  | .nil => 1
  | .ptr d => uptoBulk d + 1
  | .slice elems spare => uptoBulkAll elems + uptoBulkAll spare + 1
  | .agg parts => uptoBulkAll parts + 1
  | .iface _ d => uptoBulk d + 1
  | .map entries => uptoBulkEntries entries + 1
  | .held _ => 1
def uptoBulkAll {H : Type} : List (DataW H) → Nat
  | [] => 0
  | d :: r => uptoBulk d + uptoBulkAll r
def uptoBulkEntries {H : Type} : List (Lit × DataW H) → Nat
  | [] => 0
  | x :: r => uptoBulkEntry x + uptoBulkEntries r
def uptoBulkEntry {H : Type} : Lit × DataW H → Nat
  | (.string bytes, d) => bytes.length + uptoBulk d + 1
  | (_, d) => uptoBulk d + 1
 end
def uptoSmall : (H : Type) → List (DataW H) → Bool := fun _ ds => decide (uptoBulkAll ds ≤ 1048576)
def OpenSpec.upto (s : _root_.Go.ChangeSpec) : _root_.Go.OpenSpec := { _root_.Go.OpenSpec.ofChange s with cond := some uptoSmall }

/-- 'erratumlaw11.MheadAll', WHERE WHAT IT READS IS OF BULK AT MOST 1048576: true; the input reads as it did. -/
def mheadAllUptoRow : OpenClaim := { program := "ytppkffipolncbaa", sum := "e867ef299f6879c8cfb59c0a51f2306822e9533fe2595a0f070dad1ade0c975e", func := "erratum/erratumlaw11.MheadAll", spec := "mheadAll", apart := false, narrowed := true }
def MheadAllUptoSaid : Prop := mheadAllUptoRow.holds Try.pinned (OpenSpec.upto mheadAllSpec)

/-- 'erratumlaw11.MheadBack', WHERE WHAT IT READS IS OF BULK AT MOST 1048576: true; the input reads as it did. -/
def mheadBackUptoRow : OpenClaim := { program := "ytppkffipolncbaa", sum := "e867ef299f6879c8cfb59c0a51f2306822e9533fe2595a0f070dad1ade0c975e", func := "erratum/erratumlaw11.MheadBack", spec := "mheadBack", apart := false, narrowed := true }
def MheadBackUptoSaid : Prop := mheadBackUptoRow.holds Try.pinned (OpenSpec.upto mheadBackSpec)

/-- 'erratumlaw11.MheadFirsts', WHERE WHAT IT READS IS OF BULK AT MOST 1048576: true; the input reads as it did. -/
def mheadFirstsUptoRow : OpenClaim := { program := "ytppkffipolncbaa", sum := "e867ef299f6879c8cfb59c0a51f2306822e9533fe2595a0f070dad1ade0c975e", func := "erratum/erratumlaw11.MheadFirsts", spec := "mheadFirsts", apart := false, narrowed := true }
def MheadFirstsUptoSaid : Prop := mheadFirstsUptoRow.holds Try.pinned (OpenSpec.upto mheadFirstsSpec)

end Rows
end Go.Proofs.Ytppkffipolncbaa
