/-
  No cell of these rows narrows 'for every input' (looked for: loops, veiled, ifaces, maps, wideKeys, modest, calm, conditions, laid).
  DERIVED. THE GIVEN ROWS OF THIS SEAT. 12 by the template 'for every input the law returns true; each argument reads behind the call as it read before'; 0 by the template 'total and deterministic' (their statements: YtkijeknopnjamaaTotals.lean).
  GIVEN WITH THE SEED: the statements are not yours to turn. If you find one false, say at which input.
  Laid BY PROGRAM, IN A SANDBOX (cutbox-rows.mjs): the forced cells as the released guide's own fill.sh prints them over the translation 30f07a43898e6af6… (all of the seat's roots in one cut). By AI agents, Wed Nov 11 2026. No macro, syntax, notation, axiom, sorry.
-/
import Derived.Test.YtkijeknopnjamaaChecked
import GoSem.Claim
import GoSem.ClaimJoined
import GoSem.ClaimMapViews
import Derived.JoinedTies
import Derived.KernelRfl
namespace Go.Proofs.Ytkijeknopnjamaa
/- THE CELL 'sum', in the pinned program and in every row, IS THE sha256 OF THE DUMP (.gsa) THAT YtkijeknopnjamaaProg.lean LOADS. Nothing in Lean hashes anything: it is a label: what it is worth is what the hold of that sum in a sandbox is worth. -/
noncomputable def Try.pinned : Pinned := { name := "ytkijeknopnjamaa", sum := "30f07a43898e6af663c436f0296beaf38e55dd61760ac6437613b42bd78bb1fb", checked := Try.checked }
namespace Rows
def none {H : Type} : Left H := { results := [], args := [] }

/-- 'broadsheetlaw32.SamplingSteps': WHATEVER THE INPUT: true; the input reads as it did. -/
def samplingStepsSpec : ChangeSpec := { name := "samplingSteps", fn := fun _ => fun
  | [d1, d2] => { results := [.lit (.bool true)], args := [d1, d2] }
  | _ => none }
def samplingStepsRow : OpenClaim := { program := "ytkijeknopnjamaa", sum := "30f07a43898e6af663c436f0296beaf38e55dd61760ac6437613b42bd78bb1fb", func := "broadsheet/broadsheetlaw32.SamplingSteps", spec := "samplingSteps", apart := false }
def SamplingStepsSaid : Prop := samplingStepsRow.holds Try.pinned (OpenSpec.ofChange samplingStepsSpec)

/-- ITS FALSE NEIGHBOUR: 'it returns false'. Refute it at one input. -/
def samplingStepsWrong : ChangeSpec := { name := "samplingSteps", fn := fun _ => fun
  | [d1, d2] => { results := [.lit (.bool false)], args := [d1, d2] }
  | _ => none }
def SamplingStepsWrongFalsely : Prop := samplingStepsRow.holds Try.pinned (OpenSpec.ofChange samplingStepsWrong)

/-- 'broadsheetlaw32.SamplingBlind': WHATEVER THE INPUT: true; the input reads as it did. -/
def samplingBlindSpec : ChangeSpec := { name := "samplingBlind", fn := fun _ => fun
  | [d1, d2, d3] => { results := [.lit (.bool true)], args := [d1, d2, d3] }
  | _ => none }
def samplingBlindRow : OpenClaim := { program := "ytkijeknopnjamaa", sum := "30f07a43898e6af663c436f0296beaf38e55dd61760ac6437613b42bd78bb1fb", func := "broadsheet/broadsheetlaw32.SamplingBlind", spec := "samplingBlind", apart := false }
def SamplingBlindSaid : Prop := samplingBlindRow.holds Try.pinned (OpenSpec.ofChange samplingBlindSpec)

/-- ITS FALSE NEIGHBOUR: 'it returns false'. Refute it at one input. -/
def samplingBlindWrong : ChangeSpec := { name := "samplingBlind", fn := fun _ => fun
  | [d1, d2, d3] => { results := [.lit (.bool false)], args := [d1, d2, d3] }
  | _ => none }
def SamplingBlindWrongFalsely : Prop := samplingBlindRow.holds Try.pinned (OpenSpec.ofChange samplingBlindWrong)

/-- 'broadsheetlaw32.SamplingNone': WHATEVER THE INPUT: true; the input reads as it did. -/
def samplingNoneSpec : ChangeSpec := { name := "samplingNone", fn := fun _ => fun
  | [d1, d2] => { results := [.lit (.bool true)], args := [d1, d2] }
  | _ => none }
def samplingNoneRow : OpenClaim := { program := "ytkijeknopnjamaa", sum := "30f07a43898e6af663c436f0296beaf38e55dd61760ac6437613b42bd78bb1fb", func := "broadsheet/broadsheetlaw32.SamplingNone", spec := "samplingNone", apart := false }
def SamplingNoneSaid : Prop := samplingNoneRow.holds Try.pinned (OpenSpec.ofChange samplingNoneSpec)

/-- ITS FALSE NEIGHBOUR: 'it returns false'. Refute it at one input. -/
def samplingNoneWrong : ChangeSpec := { name := "samplingNone", fn := fun _ => fun
  | [d1, d2] => { results := [.lit (.bool false)], args := [d1, d2] }
  | _ => none }
def SamplingNoneWrongFalsely : Prop := samplingNoneRow.holds Try.pinned (OpenSpec.ofChange samplingNoneWrong)

/-- 'broadsheetlaw31.MemoryApart': WHATEVER THE INPUT: true; the input reads as it did. -/
def memoryApartSpec : ChangeSpec := { name := "memoryApart", fn := fun _ => fun
  | [d1, d2, d3] => { results := [.lit (.bool true)], args := [d1, d2, d3] }
  | _ => none }
def memoryApartRow : OpenClaim := { program := "ytkijeknopnjamaa", sum := "30f07a43898e6af663c436f0296beaf38e55dd61760ac6437613b42bd78bb1fb", func := "broadsheet/broadsheetlaw31.MemoryApart", spec := "memoryApart", apart := false }
def MemoryApartSaid : Prop := memoryApartRow.holds Try.pinned (OpenSpec.ofChange memoryApartSpec)

/-- ITS FALSE NEIGHBOUR: 'it returns false'. Refute it at one input. -/
def memoryApartWrong : ChangeSpec := { name := "memoryApart", fn := fun _ => fun
  | [d1, d2, d3] => { results := [.lit (.bool false)], args := [d1, d2, d3] }
  | _ => none }
def MemoryApartWrongFalsely : Prop := memoryApartRow.holds Try.pinned (OpenSpec.ofChange memoryApartWrong)

/-- 'broadsheetlaw33.QueuingBlind': WHATEVER THE INPUT: true; the input reads as it did. -/
def queuingBlindSpec : ChangeSpec := { name := "queuingBlind", fn := fun _ => fun
  | [d1, d2, d3] => { results := [.lit (.bool true)], args := [d1, d2, d3] }
  | _ => none }
def queuingBlindRow : OpenClaim := { program := "ytkijeknopnjamaa", sum := "30f07a43898e6af663c436f0296beaf38e55dd61760ac6437613b42bd78bb1fb", func := "broadsheet/broadsheetlaw33.QueuingBlind", spec := "queuingBlind", apart := false }
def QueuingBlindSaid : Prop := queuingBlindRow.holds Try.pinned (OpenSpec.ofChange queuingBlindSpec)

/-- ITS FALSE NEIGHBOUR: 'it returns false'. Refute it at one input. -/
def queuingBlindWrong : ChangeSpec := { name := "queuingBlind", fn := fun _ => fun
  | [d1, d2, d3] => { results := [.lit (.bool false)], args := [d1, d2, d3] }
  | _ => none }
def QueuingBlindWrongFalsely : Prop := queuingBlindRow.holds Try.pinned (OpenSpec.ofChange queuingBlindWrong)

/-- 'broadsheetlaw33.QueuingSteps': WHATEVER THE INPUT: true; the input reads as it did. -/
def queuingStepsSpec : ChangeSpec := { name := "queuingSteps", fn := fun _ => fun
  | [d1, d2] => { results := [.lit (.bool true)], args := [d1, d2] }
  | _ => none }
def queuingStepsRow : OpenClaim := { program := "ytkijeknopnjamaa", sum := "30f07a43898e6af663c436f0296beaf38e55dd61760ac6437613b42bd78bb1fb", func := "broadsheet/broadsheetlaw33.QueuingSteps", spec := "queuingSteps", apart := false }
def QueuingStepsSaid : Prop := queuingStepsRow.holds Try.pinned (OpenSpec.ofChange queuingStepsSpec)

/-- ITS FALSE NEIGHBOUR: 'it returns false'. Refute it at one input. -/
def queuingStepsWrong : ChangeSpec := { name := "queuingSteps", fn := fun _ => fun
  | [d1, d2] => { results := [.lit (.bool false)], args := [d1, d2] }
  | _ => none }
def QueuingStepsWrongFalsely : Prop := queuingStepsRow.holds Try.pinned (OpenSpec.ofChange queuingStepsWrong)

/-- 'broadsheetlaw33.QueuingOrder': WHATEVER THE INPUT: true; the input reads as it did. -/
def queuingOrderSpec : ChangeSpec := { name := "queuingOrder", fn := fun _ => fun
  | [d1, d2] => { results := [.lit (.bool true)], args := [d1, d2] }
  | _ => none }
def queuingOrderRow : OpenClaim := { program := "ytkijeknopnjamaa", sum := "30f07a43898e6af663c436f0296beaf38e55dd61760ac6437613b42bd78bb1fb", func := "broadsheet/broadsheetlaw33.QueuingOrder", spec := "queuingOrder", apart := false }
def QueuingOrderSaid : Prop := queuingOrderRow.holds Try.pinned (OpenSpec.ofChange queuingOrderSpec)

/-- ITS FALSE NEIGHBOUR: 'it returns false'. Refute it at one input. -/
def queuingOrderWrong : ChangeSpec := { name := "queuingOrder", fn := fun _ => fun
  | [d1, d2] => { results := [.lit (.bool false)], args := [d1, d2] }
  | _ => none }
def QueuingOrderWrongFalsely : Prop := queuingOrderRow.holds Try.pinned (OpenSpec.ofChange queuingOrderWrong)

/-- 'broadsheetlaw33.QueuingNone': WHATEVER THE INPUT: true; the input reads as it did. -/
def queuingNoneSpec : ChangeSpec := { name := "queuingNone", fn := fun _ => fun
  | [d] => { results := [.lit (.bool true)], args := [d] }
  | _ => none }
def queuingNoneRow : OpenClaim := { program := "ytkijeknopnjamaa", sum := "30f07a43898e6af663c436f0296beaf38e55dd61760ac6437613b42bd78bb1fb", func := "broadsheet/broadsheetlaw33.QueuingNone", spec := "queuingNone", apart := false }
def QueuingNoneSaid : Prop := queuingNoneRow.holds Try.pinned (OpenSpec.ofChange queuingNoneSpec)

/-- ITS FALSE NEIGHBOUR: 'it returns false'. Refute it at one input. -/
def queuingNoneWrong : ChangeSpec := { name := "queuingNone", fn := fun _ => fun
  | [d] => { results := [.lit (.bool false)], args := [d] }
  | _ => none }
def QueuingNoneWrongFalsely : Prop := queuingNoneRow.holds Try.pinned (OpenSpec.ofChange queuingNoneWrong)

/-- 'broadsheetlaw31.MemorySteps': WHATEVER THE INPUT: true; the input reads as it did. -/
def memoryStepsSpec : ChangeSpec := { name := "memorySteps", fn := fun _ => fun
  | [d1, d2] => { results := [.lit (.bool true)], args := [d1, d2] }
  | _ => none }
def memoryStepsRow : OpenClaim := { program := "ytkijeknopnjamaa", sum := "30f07a43898e6af663c436f0296beaf38e55dd61760ac6437613b42bd78bb1fb", func := "broadsheet/broadsheetlaw31.MemorySteps", spec := "memorySteps", apart := false }
def MemoryStepsSaid : Prop := memoryStepsRow.holds Try.pinned (OpenSpec.ofChange memoryStepsSpec)

/-- ITS FALSE NEIGHBOUR: 'it returns false'. Refute it at one input. -/
def memoryStepsWrong : ChangeSpec := { name := "memorySteps", fn := fun _ => fun
  | [d1, d2] => { results := [.lit (.bool false)], args := [d1, d2] }
  | _ => none }
def MemoryStepsWrongFalsely : Prop := memoryStepsRow.holds Try.pinned (OpenSpec.ofChange memoryStepsWrong)

/-- 'broadsheetlaw31.MemoryNone': WHATEVER THE INPUT: true; the input reads as it did. -/
def memoryNoneSpec : ChangeSpec := { name := "memoryNone", fn := fun _ => fun
  | [d1, d2, d3] => { results := [.lit (.bool true)], args := [d1, d2, d3] }
  | _ => none }
def memoryNoneRow : OpenClaim := { program := "ytkijeknopnjamaa", sum := "30f07a43898e6af663c436f0296beaf38e55dd61760ac6437613b42bd78bb1fb", func := "broadsheet/broadsheetlaw31.MemoryNone", spec := "memoryNone", apart := false }
def MemoryNoneSaid : Prop := memoryNoneRow.holds Try.pinned (OpenSpec.ofChange memoryNoneSpec)

/-- ITS FALSE NEIGHBOUR: 'it returns false'. Refute it at one input. -/
def memoryNoneWrong : ChangeSpec := { name := "memoryNone", fn := fun _ => fun
  | [d1, d2, d3] => { results := [.lit (.bool false)], args := [d1, d2, d3] }
  | _ => none }
def MemoryNoneWrongFalsely : Prop := memoryNoneRow.holds Try.pinned (OpenSpec.ofChange memoryNoneWrong)

/-- 'broadsheetlaw27.SchedChecks': WHATEVER THE INPUT: true; the input reads as it did. -/
def schedChecksSpec : ChangeSpec := { name := "schedChecks", fn := fun _ => fun
  | [d1, d2] => { results := [.lit (.bool true)], args := [d1, d2] }
  | _ => none }
def schedChecksRow : OpenClaim := { program := "ytkijeknopnjamaa", sum := "30f07a43898e6af663c436f0296beaf38e55dd61760ac6437613b42bd78bb1fb", func := "broadsheet/broadsheetlaw27.SchedChecks", spec := "schedChecks", apart := false }
def SchedChecksSaid : Prop := schedChecksRow.holds Try.pinned (OpenSpec.ofChange schedChecksSpec)

/-- ITS FALSE NEIGHBOUR: 'it returns false'. Refute it at one input. -/
def schedChecksWrong : ChangeSpec := { name := "schedChecks", fn := fun _ => fun
  | [d1, d2] => { results := [.lit (.bool false)], args := [d1, d2] }
  | _ => none }
def SchedChecksWrongFalsely : Prop := schedChecksRow.holds Try.pinned (OpenSpec.ofChange schedChecksWrong)

/-- 'broadsheetlaw27.SchedReaches': WHATEVER THE INPUT: true; the input reads as it did. -/
def schedReachesSpec : ChangeSpec := { name := "schedReaches", fn := fun _ => fun
  | [d1, d2, d3] => { results := [.lit (.bool true)], args := [d1, d2, d3] }
  | _ => none }
def schedReachesRow : OpenClaim := { program := "ytkijeknopnjamaa", sum := "30f07a43898e6af663c436f0296beaf38e55dd61760ac6437613b42bd78bb1fb", func := "broadsheet/broadsheetlaw27.SchedReaches", spec := "schedReaches", apart := false }
def SchedReachesSaid : Prop := schedReachesRow.holds Try.pinned (OpenSpec.ofChange schedReachesSpec)

/-- ITS FALSE NEIGHBOUR: 'it returns false'. Refute it at one input. -/
def schedReachesWrong : ChangeSpec := { name := "schedReaches", fn := fun _ => fun
  | [d1, d2, d3] => { results := [.lit (.bool false)], args := [d1, d2, d3] }
  | _ => none }
def SchedReachesWrongFalsely : Prop := schedReachesRow.holds Try.pinned (OpenSpec.ofChange schedReachesWrong)

/- THE SECOND FORM. 'bulk': how many values and letters a reading holds, each counted each time it is reached (what is shared counts as often as it is met; a slice's spare places count too). A statement '..UptoSaid' is the law's where the arguments, and the package variables that the reading takes, are together of bulk at most 1048576: NARROWER than '..Said'. Prove '..Said' where nothing that the law and all that it calls make is longer than what came in: it says more and counts as full. Else prove '..UptoSaid'. A law counts once. -/
mutual
def uptoBulk {H : Type} : DataW H → Nat
  | .lit (.string bytes) => bytes.length + 1
  | .lit _ => 1
  | .nil => 1
  | .ptr d => uptoBulk d + 1
  | .slice elems spare => uptoBulkAll elems + uptoBulkAll spare + 1
  | .agg parts => uptoBulkAll parts + 1
  | .iface _ d => uptoBulk d + 1
  | .map entries => uptoBulkEntries entries + 1
  | .held _ => 1
def uptoBulkAll {H : Type} : List (DataW H) → Nat
  | [] => 0
  | d :: r => uptoBulk d + uptoBulkAll r
def uptoBulkEntries {H : Type} : List (Lit × DataW H) → Nat
  | [] => 0
  | x :: r => uptoBulkEntry x + uptoBulkEntries r
def uptoBulkEntry {H : Type} : Lit × DataW H → Nat
  | (.string bytes, d) => bytes.length + uptoBulk d + 1
  | (_, d) => uptoBulk d + 1
 end
def uptoSmall : (H : Type) → List (DataW H) → Bool := fun _ ds => decide (uptoBulkAll ds ≤ 1048576)
def OpenSpec.upto (s : _root_.Go.ChangeSpec) : _root_.Go.OpenSpec := { _root_.Go.OpenSpec.ofChange s with cond := some uptoSmall }

/-- 'broadsheetlaw32.SamplingSteps', WHERE WHAT IT READS IS OF BULK AT MOST 1048576: true; the input reads as it did. -/
def samplingStepsUptoRow : OpenClaim := { program := "ytkijeknopnjamaa", sum := "30f07a43898e6af663c436f0296beaf38e55dd61760ac6437613b42bd78bb1fb", func := "broadsheet/broadsheetlaw32.SamplingSteps", spec := "samplingSteps", apart := false, narrowed := true }
def SamplingStepsUptoSaid : Prop := samplingStepsUptoRow.holds Try.pinned (OpenSpec.upto samplingStepsSpec)

/-- 'broadsheetlaw32.SamplingBlind', WHERE WHAT IT READS IS OF BULK AT MOST 1048576: true; the input reads as it did. -/
def samplingBlindUptoRow : OpenClaim := { program := "ytkijeknopnjamaa", sum := "30f07a43898e6af663c436f0296beaf38e55dd61760ac6437613b42bd78bb1fb", func := "broadsheet/broadsheetlaw32.SamplingBlind", spec := "samplingBlind", apart := false, narrowed := true }
def SamplingBlindUptoSaid : Prop := samplingBlindUptoRow.holds Try.pinned (OpenSpec.upto samplingBlindSpec)

/-- 'broadsheetlaw32.SamplingNone', WHERE WHAT IT READS IS OF BULK AT MOST 1048576: true; the input reads as it did. -/
def samplingNoneUptoRow : OpenClaim := { program := "ytkijeknopnjamaa", sum := "30f07a43898e6af663c436f0296beaf38e55dd61760ac6437613b42bd78bb1fb", func := "broadsheet/broadsheetlaw32.SamplingNone", spec := "samplingNone", apart := false, narrowed := true }
def SamplingNoneUptoSaid : Prop := samplingNoneUptoRow.holds Try.pinned (OpenSpec.upto samplingNoneSpec)

/-- 'broadsheetlaw31.MemoryApart', WHERE WHAT IT READS IS OF BULK AT MOST 1048576: true; the input reads as it did. -/
def memoryApartUptoRow : OpenClaim := { program := "ytkijeknopnjamaa", sum := "30f07a43898e6af663c436f0296beaf38e55dd61760ac6437613b42bd78bb1fb", func := "broadsheet/broadsheetlaw31.MemoryApart", spec := "memoryApart", apart := false, narrowed := true }
def MemoryApartUptoSaid : Prop := memoryApartUptoRow.holds Try.pinned (OpenSpec.upto memoryApartSpec)

/-- 'broadsheetlaw33.QueuingBlind', WHERE WHAT IT READS IS OF BULK AT MOST 1048576: true; the input reads as it did. -/
def queuingBlindUptoRow : OpenClaim := { program := "ytkijeknopnjamaa", sum := "30f07a43898e6af663c436f0296beaf38e55dd61760ac6437613b42bd78bb1fb", func := "broadsheet/broadsheetlaw33.QueuingBlind", spec := "queuingBlind", apart := false, narrowed := true }
def QueuingBlindUptoSaid : Prop := queuingBlindUptoRow.holds Try.pinned (OpenSpec.upto queuingBlindSpec)

/-- 'broadsheetlaw33.QueuingSteps', WHERE WHAT IT READS IS OF BULK AT MOST 1048576: true; the input reads as it did. -/
def queuingStepsUptoRow : OpenClaim := { program := "ytkijeknopnjamaa", sum := "30f07a43898e6af663c436f0296beaf38e55dd61760ac6437613b42bd78bb1fb", func := "broadsheet/broadsheetlaw33.QueuingSteps", spec := "queuingSteps", apart := false, narrowed := true }
def QueuingStepsUptoSaid : Prop := queuingStepsUptoRow.holds Try.pinned (OpenSpec.upto queuingStepsSpec)

/-- 'broadsheetlaw33.QueuingOrder', WHERE WHAT IT READS IS OF BULK AT MOST 1048576: true; the input reads as it did. -/
def queuingOrderUptoRow : OpenClaim := { program := "ytkijeknopnjamaa", sum := "30f07a43898e6af663c436f0296beaf38e55dd61760ac6437613b42bd78bb1fb", func := "broadsheet/broadsheetlaw33.QueuingOrder", spec := "queuingOrder", apart := false, narrowed := true }
def QueuingOrderUptoSaid : Prop := queuingOrderUptoRow.holds Try.pinned (OpenSpec.upto queuingOrderSpec)

/-- 'broadsheetlaw33.QueuingNone', WHERE WHAT IT READS IS OF BULK AT MOST 1048576: true; the input reads as it did. -/
def queuingNoneUptoRow : OpenClaim := { program := "ytkijeknopnjamaa", sum := "30f07a43898e6af663c436f0296beaf38e55dd61760ac6437613b42bd78bb1fb", func := "broadsheet/broadsheetlaw33.QueuingNone", spec := "queuingNone", apart := false, narrowed := true }
def QueuingNoneUptoSaid : Prop := queuingNoneUptoRow.holds Try.pinned (OpenSpec.upto queuingNoneSpec)

/-- 'broadsheetlaw31.MemorySteps', WHERE WHAT IT READS IS OF BULK AT MOST 1048576: true; the input reads as it did. -/
def memoryStepsUptoRow : OpenClaim := { program := "ytkijeknopnjamaa", sum := "30f07a43898e6af663c436f0296beaf38e55dd61760ac6437613b42bd78bb1fb", func := "broadsheet/broadsheetlaw31.MemorySteps", spec := "memorySteps", apart := false, narrowed := true }
def MemoryStepsUptoSaid : Prop := memoryStepsUptoRow.holds Try.pinned (OpenSpec.upto memoryStepsSpec)

/-- 'broadsheetlaw31.MemoryNone', WHERE WHAT IT READS IS OF BULK AT MOST 1048576: true; the input reads as it did. -/
def memoryNoneUptoRow : OpenClaim := { program := "ytkijeknopnjamaa", sum := "30f07a43898e6af663c436f0296beaf38e55dd61760ac6437613b42bd78bb1fb", func := "broadsheet/broadsheetlaw31.MemoryNone", spec := "memoryNone", apart := false, narrowed := true }
def MemoryNoneUptoSaid : Prop := memoryNoneUptoRow.holds Try.pinned (OpenSpec.upto memoryNoneSpec)

/-- 'broadsheetlaw27.SchedChecks', WHERE WHAT IT READS IS OF BULK AT MOST 1048576: true; the input reads as it did. -/
def schedChecksUptoRow : OpenClaim := { program := "ytkijeknopnjamaa", sum := "30f07a43898e6af663c436f0296beaf38e55dd61760ac6437613b42bd78bb1fb", func := "broadsheet/broadsheetlaw27.SchedChecks", spec := "schedChecks", apart := false, narrowed := true }
def SchedChecksUptoSaid : Prop := schedChecksUptoRow.holds Try.pinned (OpenSpec.upto schedChecksSpec)

/-- 'broadsheetlaw27.SchedReaches', WHERE WHAT IT READS IS OF BULK AT MOST 1048576: true; the input reads as it did. -/
def schedReachesUptoRow : OpenClaim := { program := "ytkijeknopnjamaa", sum := "30f07a43898e6af663c436f0296beaf38e55dd61760ac6437613b42bd78bb1fb", func := "broadsheet/broadsheetlaw27.SchedReaches", spec := "schedReaches", apart := false, narrowed := true }
def SchedReachesUptoSaid : Prop := schedReachesUptoRow.holds Try.pinned (OpenSpec.upto schedReachesSpec)

end Rows
end Go.Proofs.Ytkijeknopnjamaa
