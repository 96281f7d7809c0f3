/-
  No cell of these rows narrows 'for every input' (looked for: loops, veiled, ifaces, maps, wideKeys, modest, calm, conditions, laid).
  DERIVED. THE GIVEN ROWS OF THIS SEAT. 12 by the template 'for every input the law returns true; each argument reads behind the call as it read before'; 0 by the template 'total and deterministic' (their statements: YtibcdpnmhkhebaaTotals.lean).
  GIVEN WITH THE SEED: the statements are not yours to turn. If you find one false, say at which input.
  Laid BY PROGRAM, IN A SANDBOX (cutbox-rows.mjs): the forced cells as the released guide's own fill.sh prints them over the translation 17e24f844052b128… (all of the seat's roots in one cut). By AI agents, Wed Nov 11 2026. No macro, syntax, notation, axiom, sorry.
-/
import Derived.Test.YtibcdpnmhkhebaaChecked
import GoSem.Claim
import GoSem.ClaimJoined
import GoSem.ClaimMapViews
import Derived.JoinedTies
import Derived.KernelRfl
namespace Go.Proofs.Ytibcdpnmhkhebaa
/- THE CELL 'sum', in the pinned program and in every row, IS THE sha256 OF THE DUMP (.gsa) THAT YtibcdpnmhkhebaaProg.lean LOADS. Nothing in Lean hashes anything: it is a label: what it is worth is what the hold of that sum in a sandbox is worth. -/
noncomputable def Try.pinned : Pinned := { name := "ytibcdpnmhkhebaa", sum := "17e24f844052b128eba13a014a7e2bda2d30b56648d204d1f1a303169ad8cf38", checked := Try.checked }
namespace Rows
def none {H : Type} : Left H := { results := [], args := [] }

/-- 'broadsheetlaw05.PrimKinds': WHATEVER THE INPUT: true; the input reads as it did. -/
def primKindsSpec : ChangeSpec := { name := "primKinds", fn := fun _ => fun
  | [d1, d2] => { results := [.lit (.bool true)], args := [d1, d2] }
  | _ => none }
def primKindsRow : OpenClaim := { program := "ytibcdpnmhkhebaa", sum := "17e24f844052b128eba13a014a7e2bda2d30b56648d204d1f1a303169ad8cf38", func := "broadsheet/broadsheetlaw05.PrimKinds", spec := "primKinds", apart := false }
def PrimKindsSaid : Prop := primKindsRow.holds Try.pinned (OpenSpec.ofChange primKindsSpec)

/-- ITS FALSE NEIGHBOUR: 'it returns false'. Refute it at one input. -/
def primKindsWrong : ChangeSpec := { name := "primKinds", fn := fun _ => fun
  | [d1, d2] => { results := [.lit (.bool false)], args := [d1, d2] }
  | _ => none }
def PrimKindsWrongFalsely : Prop := primKindsRow.holds Try.pinned (OpenSpec.ofChange primKindsWrong)

/-- 'broadsheetlaw05.PrimBack': WHATEVER THE INPUT: true; the input reads as it did. -/
def primBackSpec : ChangeSpec := { name := "primBack", fn := fun _ => fun
  | [d1, d2] => { results := [.lit (.bool true)], args := [d1, d2] }
  | _ => none }
def primBackRow : OpenClaim := { program := "ytibcdpnmhkhebaa", sum := "17e24f844052b128eba13a014a7e2bda2d30b56648d204d1f1a303169ad8cf38", func := "broadsheet/broadsheetlaw05.PrimBack", spec := "primBack", apart := false }
def PrimBackSaid : Prop := primBackRow.holds Try.pinned (OpenSpec.ofChange primBackSpec)

/-- ITS FALSE NEIGHBOUR: 'it returns false'. Refute it at one input. -/
def primBackWrong : ChangeSpec := { name := "primBack", fn := fun _ => fun
  | [d1, d2] => { results := [.lit (.bool false)], args := [d1, d2] }
  | _ => none }
def PrimBackWrongFalsely : Prop := primBackRow.holds Try.pinned (OpenSpec.ofChange primBackWrong)

/-- 'broadsheetlaw38.RingOrder': WHATEVER THE INPUT: true; the input reads as it did. -/
def ringOrderSpec : ChangeSpec := { name := "ringOrder", fn := fun _ => fun
  | [d1, d2] => { results := [.lit (.bool true)], args := [d1, d2] }
  | _ => none }
def ringOrderRow : OpenClaim := { program := "ytibcdpnmhkhebaa", sum := "17e24f844052b128eba13a014a7e2bda2d30b56648d204d1f1a303169ad8cf38", func := "broadsheet/broadsheetlaw38.RingOrder", spec := "ringOrder", unfollowed := true, recurses := true, apart := false }
def RingOrderSaid : Prop := ringOrderRow.holds Try.pinned (OpenSpec.ofChange ringOrderSpec)

/-- ITS FALSE NEIGHBOUR: 'it returns false'. Refute it at one input. -/
def ringOrderWrong : ChangeSpec := { name := "ringOrder", fn := fun _ => fun
  | [d1, d2] => { results := [.lit (.bool false)], args := [d1, d2] }
  | _ => none }
def RingOrderWrongFalsely : Prop := ringOrderRow.holds Try.pinned (OpenSpec.ofChange ringOrderWrong)

/-- 'broadsheetlaw38.RingRoom': WHATEVER THE INPUT: true; the input reads as it did. -/
def ringRoomSpec : ChangeSpec := { name := "ringRoom", fn := fun _ => fun
  | [d1, d2] => { results := [.lit (.bool true)], args := [d1, d2] }
  | _ => none }
def ringRoomRow : OpenClaim := { program := "ytibcdpnmhkhebaa", sum := "17e24f844052b128eba13a014a7e2bda2d30b56648d204d1f1a303169ad8cf38", func := "broadsheet/broadsheetlaw38.RingRoom", spec := "ringRoom", unfollowed := true, recurses := true, apart := false }
def RingRoomSaid : Prop := ringRoomRow.holds Try.pinned (OpenSpec.ofChange ringRoomSpec)

/-- ITS FALSE NEIGHBOUR: 'it returns false'. Refute it at one input. -/
def ringRoomWrong : ChangeSpec := { name := "ringRoom", fn := fun _ => fun
  | [d1, d2] => { results := [.lit (.bool false)], args := [d1, d2] }
  | _ => none }
def RingRoomWrongFalsely : Prop := ringRoomRow.holds Try.pinned (OpenSpec.ofChange ringRoomWrong)

/-- 'broadsheetlaw05.PrimData': WHATEVER THE INPUT: true; the input reads as it did. -/
def primDataSpec : ChangeSpec := { name := "primData", fn := fun _ => fun
  | [d1, d2, d3] => { results := [.lit (.bool true)], args := [d1, d2, d3] }
  | _ => none }
def primDataRow : OpenClaim := { program := "ytibcdpnmhkhebaa", sum := "17e24f844052b128eba13a014a7e2bda2d30b56648d204d1f1a303169ad8cf38", func := "broadsheet/broadsheetlaw05.PrimData", spec := "primData", inPlace := ["internal/bytealg.abigen_runtime_cmpstring"], apart := false }
def PrimDataSaid : Prop := primDataRow.holds Try.pinned (OpenSpec.ofChange primDataSpec)

/-- ITS FALSE NEIGHBOUR: 'it returns false'. Refute it at one input. -/
def primDataWrong : ChangeSpec := { name := "primData", fn := fun _ => fun
  | [d1, d2, d3] => { results := [.lit (.bool false)], args := [d1, d2, d3] }
  | _ => none }
def PrimDataWrongFalsely : Prop := primDataRow.holds Try.pinned (OpenSpec.ofChange primDataWrong)

/-- 'broadsheetlaw05.PrimOrder': WHATEVER THE INPUT: true; the input reads as it did. -/
def primOrderSpec : ChangeSpec := { name := "primOrder", fn := fun _ => fun
  | [d1, d2] => { results := [.lit (.bool true)], args := [d1, d2] }
  | _ => none }
def primOrderRow : OpenClaim := { program := "ytibcdpnmhkhebaa", sum := "17e24f844052b128eba13a014a7e2bda2d30b56648d204d1f1a303169ad8cf38", func := "broadsheet/broadsheetlaw05.PrimOrder", spec := "primOrder", inPlace := ["internal/bytealg.abigen_runtime_cmpstring"], apart := false }
def PrimOrderSaid : Prop := primOrderRow.holds Try.pinned (OpenSpec.ofChange primOrderSpec)

/-- ITS FALSE NEIGHBOUR: 'it returns false'. Refute it at one input. -/
def primOrderWrong : ChangeSpec := { name := "primOrder", fn := fun _ => fun
  | [d1, d2] => { results := [.lit (.bool false)], args := [d1, d2] }
  | _ => none }
def PrimOrderWrongFalsely : Prop := primOrderRow.holds Try.pinned (OpenSpec.ofChange primOrderWrong)

/-- 'broadsheetlaw38.RingSteps': WHATEVER THE INPUT: true; the input reads as it did. -/
def ringStepsSpec : ChangeSpec := { name := "ringSteps", fn := fun _ => fun
  | [d1, d2] => { results := [.lit (.bool true)], args := [d1, d2] }
  | _ => none }
def ringStepsRow : OpenClaim := { program := "ytibcdpnmhkhebaa", sum := "17e24f844052b128eba13a014a7e2bda2d30b56648d204d1f1a303169ad8cf38", func := "broadsheet/broadsheetlaw38.RingSteps", spec := "ringSteps", unfollowed := true, recurses := true, apart := false }
def RingStepsSaid : Prop := ringStepsRow.holds Try.pinned (OpenSpec.ofChange ringStepsSpec)

/-- ITS FALSE NEIGHBOUR: 'it returns false'. Refute it at one input. -/
def ringStepsWrong : ChangeSpec := { name := "ringSteps", fn := fun _ => fun
  | [d1, d2] => { results := [.lit (.bool false)], args := [d1, d2] }
  | _ => none }
def RingStepsWrongFalsely : Prop := ringStepsRow.holds Try.pinned (OpenSpec.ofChange ringStepsWrong)

/-- 'broadsheetlaw38.RingNone': WHATEVER THE INPUT: true; the input reads as it did. -/
def ringNoneSpec : ChangeSpec := { name := "ringNone", fn := fun _ => fun
  | [d1, d2, d3] => { results := [.lit (.bool true)], args := [d1, d2, d3] }
  | _ => none }
def ringNoneRow : OpenClaim := { program := "ytibcdpnmhkhebaa", sum := "17e24f844052b128eba13a014a7e2bda2d30b56648d204d1f1a303169ad8cf38", func := "broadsheet/broadsheetlaw38.RingNone", spec := "ringNone", unfollowed := true, recurses := true, apart := false }
def RingNoneSaid : Prop := ringNoneRow.holds Try.pinned (OpenSpec.ofChange ringNoneSpec)

/-- ITS FALSE NEIGHBOUR: 'it returns false'. Refute it at one input. -/
def ringNoneWrong : ChangeSpec := { name := "ringNone", fn := fun _ => fun
  | [d1, d2, d3] => { results := [.lit (.bool false)], args := [d1, d2, d3] }
  | _ => none }
def RingNoneWrongFalsely : Prop := ringNoneRow.holds Try.pinned (OpenSpec.ofChange ringNoneWrong)

/-- 'broadsheetlaw02.AlignPuts': WHATEVER THE INPUT: true; the input reads as it did. -/
def alignPutsSpec : ChangeSpec := { name := "alignPuts", fn := fun _ => fun
  | [d1, d2, d3] => { results := [.lit (.bool true)], args := [d1, d2, d3] }
  | _ => none }
def alignPutsRow : OpenClaim := { program := "ytibcdpnmhkhebaa", sum := "17e24f844052b128eba13a014a7e2bda2d30b56648d204d1f1a303169ad8cf38", func := "broadsheet/broadsheetlaw02.AlignPuts", spec := "alignPuts", inPlace := ["internal/abi.NoEscape", "internal/bytealg.MakeNoZero"], apart := false }
def AlignPutsSaid : Prop := alignPutsRow.holds Try.pinned (OpenSpec.ofChange alignPutsSpec)

/-- ITS FALSE NEIGHBOUR: 'it returns false'. Refute it at one input. -/
def alignPutsWrong : ChangeSpec := { name := "alignPuts", fn := fun _ => fun
  | [d1, d2, d3] => { results := [.lit (.bool false)], args := [d1, d2, d3] }
  | _ => none }
def AlignPutsWrongFalsely : Prop := alignPutsRow.holds Try.pinned (OpenSpec.ofChange alignPutsWrong)

/-- 'broadsheetlaw02.AlignNone': WHATEVER THE INPUT: true; the input reads as it did. -/
def alignNoneSpec : ChangeSpec := { name := "alignNone", fn := fun _ => fun
  | [d1, d2, d3] => { results := [.lit (.bool true)], args := [d1, d2, d3] }
  | _ => none }
def alignNoneRow : OpenClaim := { program := "ytibcdpnmhkhebaa", sum := "17e24f844052b128eba13a014a7e2bda2d30b56648d204d1f1a303169ad8cf38", func := "broadsheet/broadsheetlaw02.AlignNone", spec := "alignNone", inPlace := ["internal/abi.NoEscape", "internal/bytealg.MakeNoZero"], apart := false }
def AlignNoneSaid : Prop := alignNoneRow.holds Try.pinned (OpenSpec.ofChange alignNoneSpec)

/-- ITS FALSE NEIGHBOUR: 'it returns false'. Refute it at one input. -/
def alignNoneWrong : ChangeSpec := { name := "alignNone", fn := fun _ => fun
  | [d1, d2, d3] => { results := [.lit (.bool false)], args := [d1, d2, d3] }
  | _ => none }
def AlignNoneWrongFalsely : Prop := alignNoneRow.holds Try.pinned (OpenSpec.ofChange alignNoneWrong)

/-- 'broadsheetlaw02.AlignTakes': WHATEVER THE INPUT: true; the input reads as it did. -/
def alignTakesSpec : ChangeSpec := { name := "alignTakes", fn := fun _ => fun
  | [d1, d2] => { results := [.lit (.bool true)], args := [d1, d2] }
  | _ => none }
def alignTakesRow : OpenClaim := { program := "ytibcdpnmhkhebaa", sum := "17e24f844052b128eba13a014a7e2bda2d30b56648d204d1f1a303169ad8cf38", func := "broadsheet/broadsheetlaw02.AlignTakes", spec := "alignTakes", inPlace := ["internal/abi.NoEscape", "internal/bytealg.MakeNoZero"], apart := false }
def AlignTakesSaid : Prop := alignTakesRow.holds Try.pinned (OpenSpec.ofChange alignTakesSpec)

/-- ITS FALSE NEIGHBOUR: 'it returns false'. Refute it at one input. -/
def alignTakesWrong : ChangeSpec := { name := "alignTakes", fn := fun _ => fun
  | [d1, d2] => { results := [.lit (.bool false)], args := [d1, d2] }
  | _ => none }
def AlignTakesWrongFalsely : Prop := alignTakesRow.holds Try.pinned (OpenSpec.ofChange alignTakesWrong)

/-- 'broadsheetlaw02.AlignBack': WHATEVER THE INPUT: true; the input reads as it did. -/
def alignBackSpec : ChangeSpec := { name := "alignBack", fn := fun _ => fun
  | [d] => { results := [.lit (.bool true)], args := [d] }
  | _ => none }
def alignBackRow : OpenClaim := { program := "ytibcdpnmhkhebaa", sum := "17e24f844052b128eba13a014a7e2bda2d30b56648d204d1f1a303169ad8cf38", func := "broadsheet/broadsheetlaw02.AlignBack", spec := "alignBack", inPlace := ["internal/abi.NoEscape", "internal/bytealg.MakeNoZero"], apart := false }
def AlignBackSaid : Prop := alignBackRow.holds Try.pinned (OpenSpec.ofChange alignBackSpec)

/-- ITS FALSE NEIGHBOUR: 'it returns false'. Refute it at one input. -/
def alignBackWrong : ChangeSpec := { name := "alignBack", fn := fun _ => fun
  | [d] => { results := [.lit (.bool false)], args := [d] }
  | _ => none }
def AlignBackWrongFalsely : Prop := alignBackRow.holds Try.pinned (OpenSpec.ofChange alignBackWrong)

/- THE SECOND FORM. 'bulk': how many values and letters a reading holds, each counted each time it is reached (what is shared counts as often as it is met; a slice's spare places count too). A statement '..UptoSaid' is the law's where the arguments, and the package variables that the reading takes, are together of bulk at most 1048576: NARROWER than '..Said'. Prove '..Said' where nothing that the law and all that it calls make is longer than what came in: it says more and counts as full. Else prove '..UptoSaid'. A law counts once. -/
mutual
def uptoBulk {H : Type} : DataW H → Nat
  | .lit (.string bytes) => bytes.length + 1
  | .lit _ => 1
  | .nil => 1
  | .ptr d => uptoBulk d + 1
  | .slice elems spare => uptoBulkAll elems + uptoBulkAll spare + 1
  | .agg parts => uptoBulkAll parts + 1
  | .iface _ d => uptoBulk d + 1
  | .map entries => uptoBulkEntries entries + 1
  | .held _ => 1
def uptoBulkAll {H : Type} : List (DataW H) → Nat
  | [] => 0
  | d :: r => uptoBulk d + uptoBulkAll r
def uptoBulkEntries {H : Type} : List (Lit × DataW H) → Nat
  | [] => 0
  | x :: r => uptoBulkEntry x + uptoBulkEntries r
def uptoBulkEntry {H : Type} : Lit × DataW H → Nat
  | (.string bytes, d) => bytes.length + uptoBulk d + 1
  | (_, d) => uptoBulk d + 1
 end
def uptoSmall : (H : Type) → List (DataW H) → Bool := fun _ ds => decide (uptoBulkAll ds ≤ 1048576)
def OpenSpec.upto (s : _root_.Go.ChangeSpec) : _root_.Go.OpenSpec := { _root_.Go.OpenSpec.ofChange s with cond := some uptoSmall }

/-- 'broadsheetlaw05.PrimKinds', WHERE WHAT IT READS IS OF BULK AT MOST 1048576: true; the input reads as it did. -/
def primKindsUptoRow : OpenClaim := { program := "ytibcdpnmhkhebaa", sum := "17e24f844052b128eba13a014a7e2bda2d30b56648d204d1f1a303169ad8cf38", func := "broadsheet/broadsheetlaw05.PrimKinds", spec := "primKinds", apart := false, narrowed := true }
def PrimKindsUptoSaid : Prop := primKindsUptoRow.holds Try.pinned (OpenSpec.upto primKindsSpec)

/-- 'broadsheetlaw05.PrimBack', WHERE WHAT IT READS IS OF BULK AT MOST 1048576: true; the input reads as it did. -/
def primBackUptoRow : OpenClaim := { program := "ytibcdpnmhkhebaa", sum := "17e24f844052b128eba13a014a7e2bda2d30b56648d204d1f1a303169ad8cf38", func := "broadsheet/broadsheetlaw05.PrimBack", spec := "primBack", apart := false, narrowed := true }
def PrimBackUptoSaid : Prop := primBackUptoRow.holds Try.pinned (OpenSpec.upto primBackSpec)

/-- 'broadsheetlaw38.RingOrder', WHERE WHAT IT READS IS OF BULK AT MOST 1048576: true; the input reads as it did. -/
def ringOrderUptoRow : OpenClaim := { program := "ytibcdpnmhkhebaa", sum := "17e24f844052b128eba13a014a7e2bda2d30b56648d204d1f1a303169ad8cf38", func := "broadsheet/broadsheetlaw38.RingOrder", spec := "ringOrder", unfollowed := true, recurses := true, apart := false, narrowed := true }
def RingOrderUptoSaid : Prop := ringOrderUptoRow.holds Try.pinned (OpenSpec.upto ringOrderSpec)

/-- 'broadsheetlaw38.RingRoom', WHERE WHAT IT READS IS OF BULK AT MOST 1048576: true; the input reads as it did. -/
def ringRoomUptoRow : OpenClaim := { program := "ytibcdpnmhkhebaa", sum := "17e24f844052b128eba13a014a7e2bda2d30b56648d204d1f1a303169ad8cf38", func := "broadsheet/broadsheetlaw38.RingRoom", spec := "ringRoom", unfollowed := true, recurses := true, apart := false, narrowed := true }
def RingRoomUptoSaid : Prop := ringRoomUptoRow.holds Try.pinned (OpenSpec.upto ringRoomSpec)

/-- 'broadsheetlaw05.PrimData', WHERE WHAT IT READS IS OF BULK AT MOST 1048576: true; the input reads as it did. -/
def primDataUptoRow : OpenClaim := { program := "ytibcdpnmhkhebaa", sum := "17e24f844052b128eba13a014a7e2bda2d30b56648d204d1f1a303169ad8cf38", func := "broadsheet/broadsheetlaw05.PrimData", spec := "primData", inPlace := ["internal/bytealg.abigen_runtime_cmpstring"], apart := false, narrowed := true }
def PrimDataUptoSaid : Prop := primDataUptoRow.holds Try.pinned (OpenSpec.upto primDataSpec)

/-- 'broadsheetlaw05.PrimOrder', WHERE WHAT IT READS IS OF BULK AT MOST 1048576: true; the input reads as it did. -/
def primOrderUptoRow : OpenClaim := { program := "ytibcdpnmhkhebaa", sum := "17e24f844052b128eba13a014a7e2bda2d30b56648d204d1f1a303169ad8cf38", func := "broadsheet/broadsheetlaw05.PrimOrder", spec := "primOrder", inPlace := ["internal/bytealg.abigen_runtime_cmpstring"], apart := false, narrowed := true }
def PrimOrderUptoSaid : Prop := primOrderUptoRow.holds Try.pinned (OpenSpec.upto primOrderSpec)

/-- 'broadsheetlaw38.RingSteps', WHERE WHAT IT READS IS OF BULK AT MOST 1048576: true; the input reads as it did. -/
def ringStepsUptoRow : OpenClaim := { program := "ytibcdpnmhkhebaa", sum := "17e24f844052b128eba13a014a7e2bda2d30b56648d204d1f1a303169ad8cf38", func := "broadsheet/broadsheetlaw38.RingSteps", spec := "ringSteps", unfollowed := true, recurses := true, apart := false, narrowed := true }
def RingStepsUptoSaid : Prop := ringStepsUptoRow.holds Try.pinned (OpenSpec.upto ringStepsSpec)

/-- 'broadsheetlaw38.RingNone', WHERE WHAT IT READS IS OF BULK AT MOST 1048576: true; the input reads as it did. -/
def ringNoneUptoRow : OpenClaim := { program := "ytibcdpnmhkhebaa", sum := "17e24f844052b128eba13a014a7e2bda2d30b56648d204d1f1a303169ad8cf38", func := "broadsheet/broadsheetlaw38.RingNone", spec := "ringNone", unfollowed := true, recurses := true, apart := false, narrowed := true }
def RingNoneUptoSaid : Prop := ringNoneUptoRow.holds Try.pinned (OpenSpec.upto ringNoneSpec)

/-- 'broadsheetlaw02.AlignPuts', WHERE WHAT IT READS IS OF BULK AT MOST 1048576: true; the input reads as it did. -/
def alignPutsUptoRow : OpenClaim := { program := "ytibcdpnmhkhebaa", sum := "17e24f844052b128eba13a014a7e2bda2d30b56648d204d1f1a303169ad8cf38", func := "broadsheet/broadsheetlaw02.AlignPuts", spec := "alignPuts", inPlace := ["internal/abi.NoEscape", "internal/bytealg.MakeNoZero"], apart := false, narrowed := true }
def AlignPutsUptoSaid : Prop := alignPutsUptoRow.holds Try.pinned (OpenSpec.upto alignPutsSpec)

/-- 'broadsheetlaw02.AlignNone', WHERE WHAT IT READS IS OF BULK AT MOST 1048576: true; the input reads as it did. -/
def alignNoneUptoRow : OpenClaim := { program := "ytibcdpnmhkhebaa", sum := "17e24f844052b128eba13a014a7e2bda2d30b56648d204d1f1a303169ad8cf38", func := "broadsheet/broadsheetlaw02.AlignNone", spec := "alignNone", inPlace := ["internal/abi.NoEscape", "internal/bytealg.MakeNoZero"], apart := false, narrowed := true }
def AlignNoneUptoSaid : Prop := alignNoneUptoRow.holds Try.pinned (OpenSpec.upto alignNoneSpec)

/-- 'broadsheetlaw02.AlignTakes', WHERE WHAT IT READS IS OF BULK AT MOST 1048576: true; the input reads as it did. -/
def alignTakesUptoRow : OpenClaim := { program := "ytibcdpnmhkhebaa", sum := "17e24f844052b128eba13a014a7e2bda2d30b56648d204d1f1a303169ad8cf38", func := "broadsheet/broadsheetlaw02.AlignTakes", spec := "alignTakes", inPlace := ["internal/abi.NoEscape", "internal/bytealg.MakeNoZero"], apart := false, narrowed := true }
def AlignTakesUptoSaid : Prop := alignTakesUptoRow.holds Try.pinned (OpenSpec.upto alignTakesSpec)

/-- 'broadsheetlaw02.AlignBack', WHERE WHAT IT READS IS OF BULK AT MOST 1048576: true; the input reads as it did. -/
def alignBackUptoRow : OpenClaim := { program := "ytibcdpnmhkhebaa", sum := "17e24f844052b128eba13a014a7e2bda2d30b56648d204d1f1a303169ad8cf38", func := "broadsheet/broadsheetlaw02.AlignBack", spec := "alignBack", inPlace := ["internal/abi.NoEscape", "internal/bytealg.MakeNoZero"], apart := false, narrowed := true }
def AlignBackUptoSaid : Prop := alignBackUptoRow.holds Try.pinned (OpenSpec.upto alignBackSpec)

end Rows
end Go.Proofs.Ytibcdpnmhkhebaa
