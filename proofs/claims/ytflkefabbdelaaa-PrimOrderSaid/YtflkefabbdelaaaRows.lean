/-
  No cell of these rows narrows 'for every input' (looked for: loops, veiled, ifaces, maps, wideKeys, modest, calm, conditions, laid).
  DERIVED. THE GIVEN ROWS OF THIS SEAT. 3 by the template 'for every input the law returns true; each argument reads behind the call as it read before'; 0 by the template 'total and deterministic' (their statements: YtflkefabbdelaaaTotals.lean).
  GIVEN WITH THE SEED: the statements are not yours to turn. If you find one false, say at which input.
  Laid BY PROGRAM, IN A SANDBOX (cutbox-rows.mjs): the forced cells as the released guide's own fill.sh prints them over the translation 49abc44b3e4c5d05… (all of the seat's roots in one cut). By AI agents, Wed Nov 11 2026. No macro, syntax, notation, axiom, sorry.
-/
import Derived.Test.YtflkefabbdelaaaChecked
import GoSem.Claim
import GoSem.ClaimJoined
import GoSem.ClaimMapViews
import Derived.JoinedTies
import Derived.KernelRfl
namespace Go.Proofs.Ytflkefabbdelaaa
/- THE CELL 'sum', in the pinned program and in every row, IS THE sha256 OF THE DUMP (.gsa) THAT YtflkefabbdelaaaProg.lean LOADS. Nothing in Lean hashes anything: it is a label: what it is worth is what the hold of that sum in a sandbox is worth. -/
noncomputable def Try.pinned : Pinned := { name := "ytflkefabbdelaaa", sum := "49abc44b3e4c5d052f03115076800051e8f4ea5411df77ceb1eabe28bae2818c", checked := Try.checked }
namespace Rows
def none {H : Type} : Left H := { results := [], args := [] }

/-- 'broadsheetlaw05.PrimKinds': WHATEVER THE INPUT: true; the input reads as it did. -/
def primKindsSpec : ChangeSpec := { name := "primKinds", fn := fun _ => fun
  | [d1, d2] => { results := [.lit (.bool true)], args := [d1, d2] }
  | _ => none }
def primKindsRow : OpenClaim := { program := "ytflkefabbdelaaa", sum := "49abc44b3e4c5d052f03115076800051e8f4ea5411df77ceb1eabe28bae2818c", func := "broadsheet/broadsheetlaw05.PrimKinds", spec := "primKinds", apart := false }
def PrimKindsSaid : Prop := primKindsRow.holds Try.pinned (OpenSpec.ofChange primKindsSpec)

/-- ITS FALSE NEIGHBOUR: 'it returns false'. Refute it at one input. -/
def primKindsWrong : ChangeSpec := { name := "primKinds", fn := fun _ => fun
  | [d1, d2] => { results := [.lit (.bool false)], args := [d1, d2] }
  | _ => none }
def PrimKindsWrongFalsely : Prop := primKindsRow.holds Try.pinned (OpenSpec.ofChange primKindsWrong)

/-- 'broadsheetlaw05.PrimData': WHATEVER THE INPUT: true; the input reads as it did. -/
def primDataSpec : ChangeSpec := { name := "primData", fn := fun _ => fun
  | [d1, d2, d3] => { results := [.lit (.bool true)], args := [d1, d2, d3] }
  | _ => none }
def primDataRow : OpenClaim := { program := "ytflkefabbdelaaa", sum := "49abc44b3e4c5d052f03115076800051e8f4ea5411df77ceb1eabe28bae2818c", func := "broadsheet/broadsheetlaw05.PrimData", spec := "primData", inPlace := ["internal/bytealg.abigen_runtime_cmpstring"], apart := false }
def PrimDataSaid : Prop := primDataRow.holds Try.pinned (OpenSpec.ofChange primDataSpec)

/-- ITS FALSE NEIGHBOUR: 'it returns false'. Refute it at one input. -/
def primDataWrong : ChangeSpec := { name := "primData", fn := fun _ => fun
  | [d1, d2, d3] => { results := [.lit (.bool false)], args := [d1, d2, d3] }
  | _ => none }
def PrimDataWrongFalsely : Prop := primDataRow.holds Try.pinned (OpenSpec.ofChange primDataWrong)

/-- 'broadsheetlaw05.PrimOrder': WHATEVER THE INPUT: true; the input reads as it did. -/
def primOrderSpec : ChangeSpec := { name := "primOrder", fn := fun _ => fun
  | [d1, d2] => { results := [.lit (.bool true)], args := [d1, d2] }
  | _ => none }
def primOrderRow : OpenClaim := { program := "ytflkefabbdelaaa", sum := "49abc44b3e4c5d052f03115076800051e8f4ea5411df77ceb1eabe28bae2818c", func := "broadsheet/broadsheetlaw05.PrimOrder", spec := "primOrder", inPlace := ["internal/bytealg.abigen_runtime_cmpstring"], apart := false }
def PrimOrderSaid : Prop := primOrderRow.holds Try.pinned (OpenSpec.ofChange primOrderSpec)

/-- ITS FALSE NEIGHBOUR: 'it returns false'. Refute it at one input. -/
def primOrderWrong : ChangeSpec := { name := "primOrder", fn := fun _ => fun
  | [d1, d2] => { results := [.lit (.bool false)], args := [d1, d2] }
  | _ => none }
def PrimOrderWrongFalsely : Prop := primOrderRow.holds Try.pinned (OpenSpec.ofChange primOrderWrong)

/- THE SECOND FORM. 'bulk': how many values and letters a reading holds, each counted each time it is reached (what is shared counts as often as it is met; a slice's spare places count too). A statement '..UptoSaid' is the law's where the arguments, and the package variables that the reading takes, are together of bulk at most 1048576: NARROWER than '..Said'. Prove '..Said' where nothing that the law and all that it calls make is longer than what came in: it says more and counts as full. Else prove '..UptoSaid'. A law counts once. -/
mutual
def uptoBulk {H : Type} : DataW H → Nat
  | .lit (.string bytes) => bytes.length + 1
  | .lit _ => 1
  | .nil => 1
  | .ptr d => uptoBulk d + 1
  | .slice elems spare => uptoBulkAll elems + uptoBulkAll spare + 1
  | .agg parts => uptoBulkAll parts + 1
  | .iface _ d => uptoBulk d + 1
  | .map entries => uptoBulkEntries entries + 1
  | .held _ => 1
def uptoBulkAll {H : Type} : List (DataW H) → Nat
  | [] => 0
  | d :: r => uptoBulk d + uptoBulkAll r
def uptoBulkEntries {H : Type} : List (Lit × DataW H) → Nat
  | [] => 0
  | x :: r => uptoBulkEntry x + uptoBulkEntries r
def uptoBulkEntry {H : Type} : Lit × DataW H → Nat
  | (.string bytes, d) => bytes.length + uptoBulk d + 1
  | (_, d) => uptoBulk d + 1
 end
def uptoSmall : (H : Type) → List (DataW H) → Bool := fun _ ds => decide (uptoBulkAll ds ≤ 1048576)
def OpenSpec.upto (s : _root_.Go.ChangeSpec) : _root_.Go.OpenSpec := { _root_.Go.OpenSpec.ofChange s with cond := some uptoSmall }

/-- 'broadsheetlaw05.PrimKinds', WHERE WHAT IT READS IS OF BULK AT MOST 1048576: true; the input reads as it did. -/
def primKindsUptoRow : OpenClaim := { program := "ytflkefabbdelaaa", sum := "49abc44b3e4c5d052f03115076800051e8f4ea5411df77ceb1eabe28bae2818c", func := "broadsheet/broadsheetlaw05.PrimKinds", spec := "primKinds", apart := false, narrowed := true }
def PrimKindsUptoSaid : Prop := primKindsUptoRow.holds Try.pinned (OpenSpec.upto primKindsSpec)

/-- 'broadsheetlaw05.PrimData', WHERE WHAT IT READS IS OF BULK AT MOST 1048576: true; the input reads as it did. -/
def primDataUptoRow : OpenClaim := { program := "ytflkefabbdelaaa", sum := "49abc44b3e4c5d052f03115076800051e8f4ea5411df77ceb1eabe28bae2818c", func := "broadsheet/broadsheetlaw05.PrimData", spec := "primData", inPlace := ["internal/bytealg.abigen_runtime_cmpstring"], apart := false, narrowed := true }
def PrimDataUptoSaid : Prop := primDataUptoRow.holds Try.pinned (OpenSpec.upto primDataSpec)

/-- 'broadsheetlaw05.PrimOrder', WHERE WHAT IT READS IS OF BULK AT MOST 1048576: true; the input reads as it did. -/
def primOrderUptoRow : OpenClaim := { program := "ytflkefabbdelaaa", sum := "49abc44b3e4c5d052f03115076800051e8f4ea5411df77ceb1eabe28bae2818c", func := "broadsheet/broadsheetlaw05.PrimOrder", spec := "primOrder", inPlace := ["internal/bytealg.abigen_runtime_cmpstring"], apart := false, narrowed := true }
def PrimOrderUptoSaid : Prop := primOrderUptoRow.holds Try.pinned (OpenSpec.upto primOrderSpec)

end Rows
end Go.Proofs.Ytflkefabbdelaaa
