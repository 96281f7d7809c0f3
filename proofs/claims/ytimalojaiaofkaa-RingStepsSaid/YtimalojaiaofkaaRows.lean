/-
  No cell of these rows narrows 'for every input' (looked for: loops, veiled, ifaces, maps, wideKeys, modest, calm, conditions, laid).
  DERIVED. THE GIVEN ROWS OF THIS SEAT. 12 by the template 'for every input the law returns true; each argument reads behind the call as it read before'; 0 by the template 'total and deterministic' (their statements: YtimalojaiaofkaaTotals.lean).
  GIVEN WITH THE SEED: the statements are not yours to turn. If you find one false, say at which input.
  Laid BY PROGRAM, IN A SANDBOX (cutbox-rows.mjs): the forced cells as the released guide's own fill.sh prints them over the translation 6aeb264ecca0e455… (all of the seat's roots in one cut). By AI agents, Wed Nov 11 2026. No macro, syntax, notation, axiom, sorry.
-/
import Derived.Test.YtimalojaiaofkaaChecked
import GoSem.Claim
import GoSem.ClaimJoined
import GoSem.ClaimMapViews
import Derived.JoinedTies
import Derived.KernelRfl
namespace Go.Proofs.Ytimalojaiaofkaa
/- THE CELL 'sum', in the pinned program and in every row, IS THE sha256 OF THE DUMP (.gsa) THAT YtimalojaiaofkaaProg.lean LOADS. Nothing in Lean hashes anything: it is a label: what it is worth is what the hold of that sum in a sandbox is worth. -/
noncomputable def Try.pinned : Pinned := { name := "ytimalojaiaofkaa", sum := "6aeb264ecca0e4551574c80f9d5206a139904de360700ade2b29ece09ac71930", checked := Try.checked }
namespace Rows
def none {H : Type} : Left H := { results := [], args := [] }

/-- 'broadsheetlaw27.SchedChecks': WHATEVER THE INPUT: true; the input reads as it did. -/
def schedChecksSpec : ChangeSpec := { name := "schedChecks", fn := fun _ => fun
  | [d1, d2] => { results := [.lit (.bool true)], args := [d1, d2] }
  | _ => none }
def schedChecksRow : OpenClaim := { program := "ytimalojaiaofkaa", sum := "6aeb264ecca0e4551574c80f9d5206a139904de360700ade2b29ece09ac71930", func := "broadsheet/broadsheetlaw27.SchedChecks", spec := "schedChecks", apart := false }
def SchedChecksSaid : Prop := schedChecksRow.holds Try.pinned (OpenSpec.ofChange schedChecksSpec)

/-- ITS FALSE NEIGHBOUR: 'it returns false'. Refute it at one input. -/
def schedChecksWrong : ChangeSpec := { name := "schedChecks", fn := fun _ => fun
  | [d1, d2] => { results := [.lit (.bool false)], args := [d1, d2] }
  | _ => none }
def SchedChecksWrongFalsely : Prop := schedChecksRow.holds Try.pinned (OpenSpec.ofChange schedChecksWrong)

/-- 'broadsheetlaw27.SchedReaches': WHATEVER THE INPUT: true; the input reads as it did. -/
def schedReachesSpec : ChangeSpec := { name := "schedReaches", fn := fun _ => fun
  | [d1, d2, d3] => { results := [.lit (.bool true)], args := [d1, d2, d3] }
  | _ => none }
def schedReachesRow : OpenClaim := { program := "ytimalojaiaofkaa", sum := "6aeb264ecca0e4551574c80f9d5206a139904de360700ade2b29ece09ac71930", func := "broadsheet/broadsheetlaw27.SchedReaches", spec := "schedReaches", apart := false }
def SchedReachesSaid : Prop := schedReachesRow.holds Try.pinned (OpenSpec.ofChange schedReachesSpec)

/-- ITS FALSE NEIGHBOUR: 'it returns false'. Refute it at one input. -/
def schedReachesWrong : ChangeSpec := { name := "schedReaches", fn := fun _ => fun
  | [d1, d2, d3] => { results := [.lit (.bool false)], args := [d1, d2, d3] }
  | _ => none }
def SchedReachesWrongFalsely : Prop := schedReachesRow.holds Try.pinned (OpenSpec.ofChange schedReachesWrong)

/-- 'broadsheetlaw45.ScriptPuts': WHATEVER THE INPUT: true; the input reads as it did. -/
def scriptPutsSpec : ChangeSpec := { name := "scriptPuts", fn := fun _ => fun
  | [d] => { results := [.lit (.bool true)], args := [d] }
  | _ => none }
def scriptPutsRow : OpenClaim := { program := "ytimalojaiaofkaa", sum := "6aeb264ecca0e4551574c80f9d5206a139904de360700ade2b29ece09ac71930", func := "broadsheet/broadsheetlaw45.ScriptPuts", spec := "scriptPuts", inPlace := ["internal/abi.NoEscape"], apart := false }
def ScriptPutsSaid : Prop := scriptPutsRow.holds Try.pinned (OpenSpec.ofChange scriptPutsSpec)

/-- ITS FALSE NEIGHBOUR: 'it returns false'. Refute it at one input. -/
def scriptPutsWrong : ChangeSpec := { name := "scriptPuts", fn := fun _ => fun
  | [d] => { results := [.lit (.bool false)], args := [d] }
  | _ => none }
def ScriptPutsWrongFalsely : Prop := scriptPutsRow.holds Try.pinned (OpenSpec.ofChange scriptPutsWrong)

/-- 'broadsheetlaw45.ScriptTakes': WHATEVER THE INPUT: true; the input reads as it did. -/
def scriptTakesSpec : ChangeSpec := { name := "scriptTakes", fn := fun _ => fun
  | [d] => { results := [.lit (.bool true)], args := [d] }
  | _ => none }
def scriptTakesRow : OpenClaim := { program := "ytimalojaiaofkaa", sum := "6aeb264ecca0e4551574c80f9d5206a139904de360700ade2b29ece09ac71930", func := "broadsheet/broadsheetlaw45.ScriptTakes", spec := "scriptTakes", inPlace := ["internal/abi.NoEscape"], apart := false }
def ScriptTakesSaid : Prop := scriptTakesRow.holds Try.pinned (OpenSpec.ofChange scriptTakesSpec)

/-- ITS FALSE NEIGHBOUR: 'it returns false'. Refute it at one input. -/
def scriptTakesWrong : ChangeSpec := { name := "scriptTakes", fn := fun _ => fun
  | [d] => { results := [.lit (.bool false)], args := [d] }
  | _ => none }
def ScriptTakesWrongFalsely : Prop := scriptTakesRow.holds Try.pinned (OpenSpec.ofChange scriptTakesWrong)

/-- 'broadsheetlaw45.ScriptBack': WHATEVER THE INPUT: true; the input reads as it did. -/
def scriptBackSpec : ChangeSpec := { name := "scriptBack", fn := fun _ => fun
  | [d1, d2] => { results := [.lit (.bool true)], args := [d1, d2] }
  | _ => none }
def scriptBackRow : OpenClaim := { program := "ytimalojaiaofkaa", sum := "6aeb264ecca0e4551574c80f9d5206a139904de360700ade2b29ece09ac71930", func := "broadsheet/broadsheetlaw45.ScriptBack", spec := "scriptBack", inPlace := ["internal/abi.NoEscape"], apart := false }
def ScriptBackSaid : Prop := scriptBackRow.holds Try.pinned (OpenSpec.ofChange scriptBackSpec)

/-- ITS FALSE NEIGHBOUR: 'it returns false'. Refute it at one input. -/
def scriptBackWrong : ChangeSpec := { name := "scriptBack", fn := fun _ => fun
  | [d1, d2] => { results := [.lit (.bool false)], args := [d1, d2] }
  | _ => none }
def ScriptBackWrongFalsely : Prop := scriptBackRow.holds Try.pinned (OpenSpec.ofChange scriptBackWrong)

/-- 'broadsheetlaw37.HistorySteps': WHATEVER THE INPUT: true; the input reads as it did. -/
def historyStepsSpec : ChangeSpec := { name := "historySteps", fn := fun _ => fun
  | [d1, d2, d3] => { results := [.lit (.bool true)], args := [d1, d2, d3] }
  | _ => none }
def historyStepsRow : OpenClaim := { program := "ytimalojaiaofkaa", sum := "6aeb264ecca0e4551574c80f9d5206a139904de360700ade2b29ece09ac71930", func := "broadsheet/broadsheetlaw37.HistorySteps", spec := "historySteps", unfollowed := true, recurses := true, apart := false }
def HistoryStepsSaid : Prop := historyStepsRow.holds Try.pinned (OpenSpec.ofChange historyStepsSpec)

/-- ITS FALSE NEIGHBOUR: 'it returns false'. Refute it at one input. -/
def historyStepsWrong : ChangeSpec := { name := "historySteps", fn := fun _ => fun
  | [d1, d2, d3] => { results := [.lit (.bool false)], args := [d1, d2, d3] }
  | _ => none }
def HistoryStepsWrongFalsely : Prop := historyStepsRow.holds Try.pinned (OpenSpec.ofChange historyStepsWrong)

/-- 'broadsheetlaw37.HistoryLast': WHATEVER THE INPUT: true; the input reads as it did. -/
def historyLastSpec : ChangeSpec := { name := "historyLast", fn := fun _ => fun
  | [d1, d2] => { results := [.lit (.bool true)], args := [d1, d2] }
  | _ => none }
def historyLastRow : OpenClaim := { program := "ytimalojaiaofkaa", sum := "6aeb264ecca0e4551574c80f9d5206a139904de360700ade2b29ece09ac71930", func := "broadsheet/broadsheetlaw37.HistoryLast", spec := "historyLast", unfollowed := true, recurses := true, apart := false }
def HistoryLastSaid : Prop := historyLastRow.holds Try.pinned (OpenSpec.ofChange historyLastSpec)

/-- ITS FALSE NEIGHBOUR: 'it returns false'. Refute it at one input. -/
def historyLastWrong : ChangeSpec := { name := "historyLast", fn := fun _ => fun
  | [d1, d2] => { results := [.lit (.bool false)], args := [d1, d2] }
  | _ => none }
def HistoryLastWrongFalsely : Prop := historyLastRow.holds Try.pinned (OpenSpec.ofChange historyLastWrong)

/-- 'broadsheetlaw37.HistoryNone': WHATEVER THE INPUT: true; the input reads as it did. -/
def historyNoneSpec : ChangeSpec := { name := "historyNone", fn := fun _ => fun
  | [d1, d2, d3] => { results := [.lit (.bool true)], args := [d1, d2, d3] }
  | _ => none }
def historyNoneRow : OpenClaim := { program := "ytimalojaiaofkaa", sum := "6aeb264ecca0e4551574c80f9d5206a139904de360700ade2b29ece09ac71930", func := "broadsheet/broadsheetlaw37.HistoryNone", spec := "historyNone", unfollowed := true, recurses := true, apart := false }
def HistoryNoneSaid : Prop := historyNoneRow.holds Try.pinned (OpenSpec.ofChange historyNoneSpec)

/-- ITS FALSE NEIGHBOUR: 'it returns false'. Refute it at one input. -/
def historyNoneWrong : ChangeSpec := { name := "historyNone", fn := fun _ => fun
  | [d1, d2, d3] => { results := [.lit (.bool false)], args := [d1, d2, d3] }
  | _ => none }
def HistoryNoneWrongFalsely : Prop := historyNoneRow.holds Try.pinned (OpenSpec.ofChange historyNoneWrong)

/-- 'broadsheetlaw38.RingOrder': WHATEVER THE INPUT: true; the input reads as it did. -/
def ringOrderSpec : ChangeSpec := { name := "ringOrder", fn := fun _ => fun
  | [d1, d2] => { results := [.lit (.bool true)], args := [d1, d2] }
  | _ => none }
def ringOrderRow : OpenClaim := { program := "ytimalojaiaofkaa", sum := "6aeb264ecca0e4551574c80f9d5206a139904de360700ade2b29ece09ac71930", func := "broadsheet/broadsheetlaw38.RingOrder", spec := "ringOrder", unfollowed := true, recurses := true, apart := false }
def RingOrderSaid : Prop := ringOrderRow.holds Try.pinned (OpenSpec.ofChange ringOrderSpec)

/-- ITS FALSE NEIGHBOUR: 'it returns false'. Refute it at one input. -/
def ringOrderWrong : ChangeSpec := { name := "ringOrder", fn := fun _ => fun
  | [d1, d2] => { results := [.lit (.bool false)], args := [d1, d2] }
  | _ => none }
def RingOrderWrongFalsely : Prop := ringOrderRow.holds Try.pinned (OpenSpec.ofChange ringOrderWrong)

/-- 'broadsheetlaw38.RingRoom': WHATEVER THE INPUT: true; the input reads as it did. -/
def ringRoomSpec : ChangeSpec := { name := "ringRoom", fn := fun _ => fun
  | [d1, d2] => { results := [.lit (.bool true)], args := [d1, d2] }
  | _ => none }
def ringRoomRow : OpenClaim := { program := "ytimalojaiaofkaa", sum := "6aeb264ecca0e4551574c80f9d5206a139904de360700ade2b29ece09ac71930", func := "broadsheet/broadsheetlaw38.RingRoom", spec := "ringRoom", unfollowed := true, recurses := true, apart := false }
def RingRoomSaid : Prop := ringRoomRow.holds Try.pinned (OpenSpec.ofChange ringRoomSpec)

/-- ITS FALSE NEIGHBOUR: 'it returns false'. Refute it at one input. -/
def ringRoomWrong : ChangeSpec := { name := "ringRoom", fn := fun _ => fun
  | [d1, d2] => { results := [.lit (.bool false)], args := [d1, d2] }
  | _ => none }
def RingRoomWrongFalsely : Prop := ringRoomRow.holds Try.pinned (OpenSpec.ofChange ringRoomWrong)

/-- 'broadsheetlaw38.RingSteps': WHATEVER THE INPUT: true; the input reads as it did. -/
def ringStepsSpec : ChangeSpec := { name := "ringSteps", fn := fun _ => fun
  | [d1, d2] => { results := [.lit (.bool true)], args := [d1, d2] }
  | _ => none }
def ringStepsRow : OpenClaim := { program := "ytimalojaiaofkaa", sum := "6aeb264ecca0e4551574c80f9d5206a139904de360700ade2b29ece09ac71930", func := "broadsheet/broadsheetlaw38.RingSteps", spec := "ringSteps", unfollowed := true, recurses := true, apart := false }
def RingStepsSaid : Prop := ringStepsRow.holds Try.pinned (OpenSpec.ofChange ringStepsSpec)

/-- ITS FALSE NEIGHBOUR: 'it returns false'. Refute it at one input. -/
def ringStepsWrong : ChangeSpec := { name := "ringSteps", fn := fun _ => fun
  | [d1, d2] => { results := [.lit (.bool false)], args := [d1, d2] }
  | _ => none }
def RingStepsWrongFalsely : Prop := ringStepsRow.holds Try.pinned (OpenSpec.ofChange ringStepsWrong)

/-- 'broadsheetlaw38.RingNone': WHATEVER THE INPUT: true; the input reads as it did. -/
def ringNoneSpec : ChangeSpec := { name := "ringNone", fn := fun _ => fun
  | [d1, d2, d3] => { results := [.lit (.bool true)], args := [d1, d2, d3] }
  | _ => none }
def ringNoneRow : OpenClaim := { program := "ytimalojaiaofkaa", sum := "6aeb264ecca0e4551574c80f9d5206a139904de360700ade2b29ece09ac71930", func := "broadsheet/broadsheetlaw38.RingNone", spec := "ringNone", unfollowed := true, recurses := true, apart := false }
def RingNoneSaid : Prop := ringNoneRow.holds Try.pinned (OpenSpec.ofChange ringNoneSpec)

/-- ITS FALSE NEIGHBOUR: 'it returns false'. Refute it at one input. -/
def ringNoneWrong : ChangeSpec := { name := "ringNone", fn := fun _ => fun
  | [d1, d2, d3] => { results := [.lit (.bool false)], args := [d1, d2, d3] }
  | _ => none }
def RingNoneWrongFalsely : Prop := ringNoneRow.holds Try.pinned (OpenSpec.ofChange ringNoneWrong)

/- THE SECOND FORM. 'bulk': how many values and letters a reading holds, each counted each time it is reached (what is shared counts as often as it is met; a slice's spare places count too). A statement '..UptoSaid' is the law's where the arguments, and the package variables that the reading takes, are together of bulk at most 1048576: NARROWER than '..Said'. Prove '..Said' where nothing that the law and all that it calls make is longer than what came in: it says more and counts as full. Else prove '..UptoSaid'. A law counts once. -/
mutual
def uptoBulk {H : Type} : DataW H → Nat
  | .lit (.string bytes) => bytes.length + 1
  | .lit _ => 1
  | .nil => 1
  | .ptr d => uptoBulk d + 1
  | .slice elems spare => uptoBulkAll elems + uptoBulkAll spare + 1
  | .agg parts => uptoBulkAll parts + 1
  | .iface _ d => uptoBulk d + 1
  | .map entries => uptoBulkEntries entries + 1
  | .held _ => 1
def uptoBulkAll {H : Type} : List (DataW H) → Nat
  | [] => 0
  | d :: r => uptoBulk d + uptoBulkAll r
def uptoBulkEntries {H : Type} : List (Lit × DataW H) → Nat
  | [] => 0
  | x :: r => uptoBulkEntry x + uptoBulkEntries r
def uptoBulkEntry {H : Type} : Lit × DataW H → Nat
  | (.string bytes, d) => bytes.length + uptoBulk d + 1
  | (_, d) => uptoBulk d + 1
 end
def uptoSmall : (H : Type) → List (DataW H) → Bool := fun _ ds => decide (uptoBulkAll ds ≤ 1048576)
def OpenSpec.upto (s : _root_.Go.ChangeSpec) : _root_.Go.OpenSpec := { _root_.Go.OpenSpec.ofChange s with cond := some uptoSmall }

/-- 'broadsheetlaw27.SchedChecks', WHERE WHAT IT READS IS OF BULK AT MOST 1048576: true; the input reads as it did. -/
def schedChecksUptoRow : OpenClaim := { program := "ytimalojaiaofkaa", sum := "6aeb264ecca0e4551574c80f9d5206a139904de360700ade2b29ece09ac71930", func := "broadsheet/broadsheetlaw27.SchedChecks", spec := "schedChecks", apart := false, narrowed := true }
def SchedChecksUptoSaid : Prop := schedChecksUptoRow.holds Try.pinned (OpenSpec.upto schedChecksSpec)

/-- 'broadsheetlaw27.SchedReaches', WHERE WHAT IT READS IS OF BULK AT MOST 1048576: true; the input reads as it did. -/
def schedReachesUptoRow : OpenClaim := { program := "ytimalojaiaofkaa", sum := "6aeb264ecca0e4551574c80f9d5206a139904de360700ade2b29ece09ac71930", func := "broadsheet/broadsheetlaw27.SchedReaches", spec := "schedReaches", apart := false, narrowed := true }
def SchedReachesUptoSaid : Prop := schedReachesUptoRow.holds Try.pinned (OpenSpec.upto schedReachesSpec)

/-- 'broadsheetlaw45.ScriptPuts', WHERE WHAT IT READS IS OF BULK AT MOST 1048576: true; the input reads as it did. -/
def scriptPutsUptoRow : OpenClaim := { program := "ytimalojaiaofkaa", sum := "6aeb264ecca0e4551574c80f9d5206a139904de360700ade2b29ece09ac71930", func := "broadsheet/broadsheetlaw45.ScriptPuts", spec := "scriptPuts", inPlace := ["internal/abi.NoEscape"], apart := false, narrowed := true }
def ScriptPutsUptoSaid : Prop := scriptPutsUptoRow.holds Try.pinned (OpenSpec.upto scriptPutsSpec)

/-- 'broadsheetlaw45.ScriptTakes', WHERE WHAT IT READS IS OF BULK AT MOST 1048576: true; the input reads as it did. -/
def scriptTakesUptoRow : OpenClaim := { program := "ytimalojaiaofkaa", sum := "6aeb264ecca0e4551574c80f9d5206a139904de360700ade2b29ece09ac71930", func := "broadsheet/broadsheetlaw45.ScriptTakes", spec := "scriptTakes", inPlace := ["internal/abi.NoEscape"], apart := false, narrowed := true }
def ScriptTakesUptoSaid : Prop := scriptTakesUptoRow.holds Try.pinned (OpenSpec.upto scriptTakesSpec)

/-- 'broadsheetlaw45.ScriptBack', WHERE WHAT IT READS IS OF BULK AT MOST 1048576: true; the input reads as it did. -/
def scriptBackUptoRow : OpenClaim := { program := "ytimalojaiaofkaa", sum := "6aeb264ecca0e4551574c80f9d5206a139904de360700ade2b29ece09ac71930", func := "broadsheet/broadsheetlaw45.ScriptBack", spec := "scriptBack", inPlace := ["internal/abi.NoEscape"], apart := false, narrowed := true }
def ScriptBackUptoSaid : Prop := scriptBackUptoRow.holds Try.pinned (OpenSpec.upto scriptBackSpec)

/-- 'broadsheetlaw37.HistorySteps', WHERE WHAT IT READS IS OF BULK AT MOST 1048576: true; the input reads as it did. -/
def historyStepsUptoRow : OpenClaim := { program := "ytimalojaiaofkaa", sum := "6aeb264ecca0e4551574c80f9d5206a139904de360700ade2b29ece09ac71930", func := "broadsheet/broadsheetlaw37.HistorySteps", spec := "historySteps", unfollowed := true, recurses := true, apart := false, narrowed := true }
def HistoryStepsUptoSaid : Prop := historyStepsUptoRow.holds Try.pinned (OpenSpec.upto historyStepsSpec)

/-- 'broadsheetlaw37.HistoryLast', WHERE WHAT IT READS IS OF BULK AT MOST 1048576: true; the input reads as it did. -/
def historyLastUptoRow : OpenClaim := { program := "ytimalojaiaofkaa", sum := "6aeb264ecca0e4551574c80f9d5206a139904de360700ade2b29ece09ac71930", func := "broadsheet/broadsheetlaw37.HistoryLast", spec := "historyLast", unfollowed := true, recurses := true, apart := false, narrowed := true }
def HistoryLastUptoSaid : Prop := historyLastUptoRow.holds Try.pinned (OpenSpec.upto historyLastSpec)

/-- 'broadsheetlaw37.HistoryNone', WHERE WHAT IT READS IS OF BULK AT MOST 1048576: true; the input reads as it did. -/
def historyNoneUptoRow : OpenClaim := { program := "ytimalojaiaofkaa", sum := "6aeb264ecca0e4551574c80f9d5206a139904de360700ade2b29ece09ac71930", func := "broadsheet/broadsheetlaw37.HistoryNone", spec := "historyNone", unfollowed := true, recurses := true, apart := false, narrowed := true }
def HistoryNoneUptoSaid : Prop := historyNoneUptoRow.holds Try.pinned (OpenSpec.upto historyNoneSpec)

/-- 'broadsheetlaw38.RingOrder', WHERE WHAT IT READS IS OF BULK AT MOST 1048576: true; the input reads as it did. -/
def ringOrderUptoRow : OpenClaim := { program := "ytimalojaiaofkaa", sum := "6aeb264ecca0e4551574c80f9d5206a139904de360700ade2b29ece09ac71930", func := "broadsheet/broadsheetlaw38.RingOrder", spec := "ringOrder", unfollowed := true, recurses := true, apart := false, narrowed := true }
def RingOrderUptoSaid : Prop := ringOrderUptoRow.holds Try.pinned (OpenSpec.upto ringOrderSpec)

/-- 'broadsheetlaw38.RingRoom', WHERE WHAT IT READS IS OF BULK AT MOST 1048576: true; the input reads as it did. -/
def ringRoomUptoRow : OpenClaim := { program := "ytimalojaiaofkaa", sum := "6aeb264ecca0e4551574c80f9d5206a139904de360700ade2b29ece09ac71930", func := "broadsheet/broadsheetlaw38.RingRoom", spec := "ringRoom", unfollowed := true, recurses := true, apart := false, narrowed := true }
def RingRoomUptoSaid : Prop := ringRoomUptoRow.holds Try.pinned (OpenSpec.upto ringRoomSpec)

/-- 'broadsheetlaw38.RingSteps', WHERE WHAT IT READS IS OF BULK AT MOST 1048576: true; the input reads as it did. -/
def ringStepsUptoRow : OpenClaim := { program := "ytimalojaiaofkaa", sum := "6aeb264ecca0e4551574c80f9d5206a139904de360700ade2b29ece09ac71930", func := "broadsheet/broadsheetlaw38.RingSteps", spec := "ringSteps", unfollowed := true, recurses := true, apart := false, narrowed := true }
def RingStepsUptoSaid : Prop := ringStepsUptoRow.holds Try.pinned (OpenSpec.upto ringStepsSpec)

/-- 'broadsheetlaw38.RingNone', WHERE WHAT IT READS IS OF BULK AT MOST 1048576: true; the input reads as it did. -/
def ringNoneUptoRow : OpenClaim := { program := "ytimalojaiaofkaa", sum := "6aeb264ecca0e4551574c80f9d5206a139904de360700ade2b29ece09ac71930", func := "broadsheet/broadsheetlaw38.RingNone", spec := "ringNone", unfollowed := true, recurses := true, apart := false, narrowed := true }
def RingNoneUptoSaid : Prop := ringNoneUptoRow.holds Try.pinned (OpenSpec.upto ringNoneSpec)

end Rows
end Go.Proofs.Ytimalojaiaofkaa
