/-
  No cell of these rows narrows 'for every input' (looked for: loops, veiled, ifaces, maps, wideKeys, modest, calm, conditions, laid).
  DERIVED. THE GIVEN ROWS OF THIS SEAT. 12 by the template 'for every input the law returns true; each argument reads behind the call as it read before'; 0 by the template 'total and deterministic' (their statements: YtfjcgbkoohjmnaaTotals.lean).
  GIVEN WITH THE SEED: the statements are not yours to turn. If you find one false, say at which input.
  Laid BY PROGRAM, IN A SANDBOX (cutbox-rows.mjs): the forced cells as the released guide's own fill.sh prints them over the translation d6f080a1f435b034… (all of the seat's roots in one cut). By AI agents, Wed Nov 11 2026. No macro, syntax, notation, axiom, sorry.
-/
import Derived.Test.YtfjcgbkoohjmnaaChecked
import GoSem.Claim
import GoSem.ClaimJoined
import GoSem.ClaimMapViews
import Derived.JoinedTies
import Derived.KernelRfl
namespace Go.Proofs.Ytfjcgbkoohjmnaa
/- THE CELL 'sum', in the pinned program and in every row, IS THE sha256 OF THE DUMP (.gsa) THAT YtfjcgbkoohjmnaaProg.lean LOADS. Nothing in Lean hashes anything: it is a label: what it is worth is what the hold of that sum in a sandbox is worth. -/
noncomputable def Try.pinned : Pinned := { name := "ytfjcgbkoohjmnaa", sum := "d6f080a1f435b034bf34403090d1206b679f37a97ad03e1c6991db8f1016d38f", checked := Try.checked }
namespace Rows
def none {H : Type} : Left H := { results := [], args := [] }

/-- 'broadsheetlaw30.ClockCounts': WHATEVER THE INPUT: true; the input reads as it did. -/
def clockCountsSpec : ChangeSpec := { name := "clockCounts", fn := fun _ => fun
  | [d1, d2] => { results := [.lit (.bool true)], args := [d1, d2] }
  | _ => none }
def clockCountsRow : OpenClaim := { program := "ytfjcgbkoohjmnaa", sum := "d6f080a1f435b034bf34403090d1206b679f37a97ad03e1c6991db8f1016d38f", func := "broadsheet/broadsheetlaw30.ClockCounts", spec := "clockCounts", apart := false }
def ClockCountsSaid : Prop := clockCountsRow.holds Try.pinned (OpenSpec.ofChange clockCountsSpec)

/-- ITS FALSE NEIGHBOUR: 'it returns false'. Refute it at one input. -/
def clockCountsWrong : ChangeSpec := { name := "clockCounts", fn := fun _ => fun
  | [d1, d2] => { results := [.lit (.bool false)], args := [d1, d2] }
  | _ => none }
def ClockCountsWrongFalsely : Prop := clockCountsRow.holds Try.pinned (OpenSpec.ofChange clockCountsWrong)

/-- 'broadsheetlaw30.ClockNone': WHATEVER THE INPUT: true; the input reads as it did. -/
def clockNoneSpec : ChangeSpec := { name := "clockNone", fn := fun _ => fun
  | [d] => { results := [.lit (.bool true)], args := [d] }
  | _ => none }
def clockNoneRow : OpenClaim := { program := "ytfjcgbkoohjmnaa", sum := "d6f080a1f435b034bf34403090d1206b679f37a97ad03e1c6991db8f1016d38f", func := "broadsheet/broadsheetlaw30.ClockNone", spec := "clockNone", apart := false }
def ClockNoneSaid : Prop := clockNoneRow.holds Try.pinned (OpenSpec.ofChange clockNoneSpec)

/-- ITS FALSE NEIGHBOUR: 'it returns false'. Refute it at one input. -/
def clockNoneWrong : ChangeSpec := { name := "clockNone", fn := fun _ => fun
  | [d] => { results := [.lit (.bool false)], args := [d] }
  | _ => none }
def ClockNoneWrongFalsely : Prop := clockNoneRow.holds Try.pinned (OpenSpec.ofChange clockNoneWrong)

/-- 'broadsheetlaw03.CrcSums': WHATEVER THE INPUT: true; the input reads as it did. -/
def crcSumsSpec : ChangeSpec := { name := "crcSums", fn := fun _ => fun
  | [d] => { results := [.lit (.bool true)], args := [d] }
  | _ => none }
def crcSumsRow : OpenClaim := { program := "ytfjcgbkoohjmnaa", sum := "d6f080a1f435b034bf34403090d1206b679f37a97ad03e1c6991db8f1016d38f", func := "broadsheet/broadsheetlaw03.CrcSums", spec := "crcSums", apart := false }
def CrcSumsSaid : Prop := crcSumsRow.holds Try.pinned (OpenSpec.ofChange crcSumsSpec)

/-- ITS FALSE NEIGHBOUR: 'it returns false'. Refute it at one input. -/
def crcSumsWrong : ChangeSpec := { name := "crcSums", fn := fun _ => fun
  | [d] => { results := [.lit (.bool false)], args := [d] }
  | _ => none }
def CrcSumsWrongFalsely : Prop := crcSumsRow.holds Try.pinned (OpenSpec.ofChange crcSumsWrong)

/-- 'broadsheetlaw03.CrcJoins': WHATEVER THE INPUT: true; the input reads as it did. -/
def crcJoinsSpec : ChangeSpec := { name := "crcJoins", fn := fun _ => fun
  | [d1, d2, d3] => { results := [.lit (.bool true)], args := [d1, d2, d3] }
  | _ => none }
def crcJoinsRow : OpenClaim := { program := "ytfjcgbkoohjmnaa", sum := "d6f080a1f435b034bf34403090d1206b679f37a97ad03e1c6991db8f1016d38f", func := "broadsheet/broadsheetlaw03.CrcJoins", spec := "crcJoins", apart := false }
def CrcJoinsSaid : Prop := crcJoinsRow.holds Try.pinned (OpenSpec.ofChange crcJoinsSpec)

/-- ITS FALSE NEIGHBOUR: 'it returns false'. Refute it at one input. -/
def crcJoinsWrong : ChangeSpec := { name := "crcJoins", fn := fun _ => fun
  | [d1, d2, d3] => { results := [.lit (.bool false)], args := [d1, d2, d3] }
  | _ => none }
def CrcJoinsWrongFalsely : Prop := crcJoinsRow.holds Try.pinned (OpenSpec.ofChange crcJoinsWrong)

/-- 'broadsheetlaw03.CrcBurst': WHATEVER THE INPUT: true; the input reads as it did. -/
def crcBurstSpec : ChangeSpec := { name := "crcBurst", fn := fun _ => fun
  | [d1, d2, d3] => { results := [.lit (.bool true)], args := [d1, d2, d3] }
  | _ => none }
def crcBurstRow : OpenClaim := { program := "ytfjcgbkoohjmnaa", sum := "d6f080a1f435b034bf34403090d1206b679f37a97ad03e1c6991db8f1016d38f", func := "broadsheet/broadsheetlaw03.CrcBurst", spec := "crcBurst", apart := false }
def CrcBurstSaid : Prop := crcBurstRow.holds Try.pinned (OpenSpec.ofChange crcBurstSpec)

/-- ITS FALSE NEIGHBOUR: 'it returns false'. Refute it at one input. -/
def crcBurstWrong : ChangeSpec := { name := "crcBurst", fn := fun _ => fun
  | [d1, d2, d3] => { results := [.lit (.bool false)], args := [d1, d2, d3] }
  | _ => none }
def CrcBurstWrongFalsely : Prop := crcBurstRow.holds Try.pinned (OpenSpec.ofChange crcBurstWrong)

/-- 'broadsheetlaw30.ClockAges': WHATEVER THE INPUT: true; the input reads as it did. -/
def clockAgesSpec : ChangeSpec := { name := "clockAges", fn := fun _ => fun
  | [d1, d2, d3] => { results := [.lit (.bool true)], args := [d1, d2, d3] }
  | _ => none }
def clockAgesRow : OpenClaim := { program := "ytfjcgbkoohjmnaa", sum := "d6f080a1f435b034bf34403090d1206b679f37a97ad03e1c6991db8f1016d38f", func := "broadsheet/broadsheetlaw30.ClockAges", spec := "clockAges", apart := false }
def ClockAgesSaid : Prop := clockAgesRow.holds Try.pinned (OpenSpec.ofChange clockAgesSpec)

/-- ITS FALSE NEIGHBOUR: 'it returns false'. Refute it at one input. -/
def clockAgesWrong : ChangeSpec := { name := "clockAges", fn := fun _ => fun
  | [d1, d2, d3] => { results := [.lit (.bool false)], args := [d1, d2, d3] }
  | _ => none }
def ClockAgesWrongFalsely : Prop := clockAgesRow.holds Try.pinned (OpenSpec.ofChange clockAgesWrong)

/-- 'broadsheetlaw30.ClockRises': WHATEVER THE INPUT: true; the input reads as it did. -/
def clockRisesSpec : ChangeSpec := { name := "clockRises", fn := fun _ => fun
  | [d1, d2, d3] => { results := [.lit (.bool true)], args := [d1, d2, d3] }
  | _ => none }
def clockRisesRow : OpenClaim := { program := "ytfjcgbkoohjmnaa", sum := "d6f080a1f435b034bf34403090d1206b679f37a97ad03e1c6991db8f1016d38f", func := "broadsheet/broadsheetlaw30.ClockRises", spec := "clockRises", apart := false }
def ClockRisesSaid : Prop := clockRisesRow.holds Try.pinned (OpenSpec.ofChange clockRisesSpec)

/-- ITS FALSE NEIGHBOUR: 'it returns false'. Refute it at one input. -/
def clockRisesWrong : ChangeSpec := { name := "clockRises", fn := fun _ => fun
  | [d1, d2, d3] => { results := [.lit (.bool false)], args := [d1, d2, d3] }
  | _ => none }
def ClockRisesWrongFalsely : Prop := clockRisesRow.holds Try.pinned (OpenSpec.ofChange clockRisesWrong)

/-- 'broadsheetlaw04.NameTells': WHATEVER THE INPUT: true; the input reads as it did. -/
def nameTellsSpec : ChangeSpec := { name := "nameTells", fn := fun _ => fun
  | [d] => { results := [.lit (.bool true)], args := [d] }
  | _ => none }
def nameTellsRow : OpenClaim := { program := "ytfjcgbkoohjmnaa", sum := "d6f080a1f435b034bf34403090d1206b679f37a97ad03e1c6991db8f1016d38f", func := "broadsheet/broadsheetlaw04.NameTells", spec := "nameTells", apart := false }
def NameTellsSaid : Prop := nameTellsRow.holds Try.pinned (OpenSpec.ofChange nameTellsSpec)

/-- ITS FALSE NEIGHBOUR: 'it returns false'. Refute it at one input. -/
def nameTellsWrong : ChangeSpec := { name := "nameTells", fn := fun _ => fun
  | [d] => { results := [.lit (.bool false)], args := [d] }
  | _ => none }
def NameTellsWrongFalsely : Prop := nameTellsRow.holds Try.pinned (OpenSpec.ofChange nameTellsWrong)

/-- 'broadsheetlaw24.QosTells': WHATEVER THE INPUT: true; the input reads as it did. -/
def qosTellsSpec : ChangeSpec := { name := "qosTells", fn := fun _ => fun
  | [d1, d2] => { results := [.lit (.bool true)], args := [d1, d2] }
  | _ => none }
def qosTellsRow : OpenClaim := { program := "ytfjcgbkoohjmnaa", sum := "d6f080a1f435b034bf34403090d1206b679f37a97ad03e1c6991db8f1016d38f", func := "broadsheet/broadsheetlaw24.QosTells", spec := "qosTells", apart := false }
def QosTellsSaid : Prop := qosTellsRow.holds Try.pinned (OpenSpec.ofChange qosTellsSpec)

/-- ITS FALSE NEIGHBOUR: 'it returns false'. Refute it at one input. -/
def qosTellsWrong : ChangeSpec := { name := "qosTells", fn := fun _ => fun
  | [d1, d2] => { results := [.lit (.bool false)], args := [d1, d2] }
  | _ => none }
def QosTellsWrongFalsely : Prop := qosTellsRow.holds Try.pinned (OpenSpec.ofChange qosTellsWrong)

/-- 'broadsheetlaw24.QosLess': WHATEVER THE INPUT: true; the input reads as it did. -/
def qosLessSpec : ChangeSpec := { name := "qosLess", fn := fun _ => fun
  | [d1, d2, d3] => { results := [.lit (.bool true)], args := [d1, d2, d3] }
  | _ => none }
def qosLessRow : OpenClaim := { program := "ytfjcgbkoohjmnaa", sum := "d6f080a1f435b034bf34403090d1206b679f37a97ad03e1c6991db8f1016d38f", func := "broadsheet/broadsheetlaw24.QosLess", spec := "qosLess", apart := false }
def QosLessSaid : Prop := qosLessRow.holds Try.pinned (OpenSpec.ofChange qosLessSpec)

/-- ITS FALSE NEIGHBOUR: 'it returns false'. Refute it at one input. -/
def qosLessWrong : ChangeSpec := { name := "qosLess", fn := fun _ => fun
  | [d1, d2, d3] => { results := [.lit (.bool false)], args := [d1, d2, d3] }
  | _ => none }
def QosLessWrongFalsely : Prop := qosLessRow.holds Try.pinned (OpenSpec.ofChange qosLessWrong)

/-- 'broadsheetlaw04.NameFinds': WHATEVER THE INPUT: true; the input reads as it did. -/
def nameFindsSpec : ChangeSpec := { name := "nameFinds", fn := fun _ => fun
  | [d1, d2] => { results := [.lit (.bool true)], args := [d1, d2] }
  | _ => none }
def nameFindsRow : OpenClaim := { program := "ytfjcgbkoohjmnaa", sum := "d6f080a1f435b034bf34403090d1206b679f37a97ad03e1c6991db8f1016d38f", func := "broadsheet/broadsheetlaw04.NameFinds", spec := "nameFinds", apart := false }
def NameFindsSaid : Prop := nameFindsRow.holds Try.pinned (OpenSpec.ofChange nameFindsSpec)

/-- ITS FALSE NEIGHBOUR: 'it returns false'. Refute it at one input. -/
def nameFindsWrong : ChangeSpec := { name := "nameFinds", fn := fun _ => fun
  | [d1, d2] => { results := [.lit (.bool false)], args := [d1, d2] }
  | _ => none }
def NameFindsWrongFalsely : Prop := nameFindsRow.holds Try.pinned (OpenSpec.ofChange nameFindsWrong)

/-- 'broadsheetlaw04.NameLeads': WHATEVER THE INPUT: true; the input reads as it did. -/
def nameLeadsSpec : ChangeSpec := { name := "nameLeads", fn := fun _ => fun
  | [d1, d2] => { results := [.lit (.bool true)], args := [d1, d2] }
  | _ => none }
def nameLeadsRow : OpenClaim := { program := "ytfjcgbkoohjmnaa", sum := "d6f080a1f435b034bf34403090d1206b679f37a97ad03e1c6991db8f1016d38f", func := "broadsheet/broadsheetlaw04.NameLeads", spec := "nameLeads", apart := false }
def NameLeadsSaid : Prop := nameLeadsRow.holds Try.pinned (OpenSpec.ofChange nameLeadsSpec)

/-- ITS FALSE NEIGHBOUR: 'it returns false'. Refute it at one input. -/
def nameLeadsWrong : ChangeSpec := { name := "nameLeads", fn := fun _ => fun
  | [d1, d2] => { results := [.lit (.bool false)], args := [d1, d2] }
  | _ => none }
def NameLeadsWrongFalsely : Prop := nameLeadsRow.holds Try.pinned (OpenSpec.ofChange nameLeadsWrong)

/- THE SECOND FORM. 'bulk': how many values and letters a reading holds, each counted each time it is reached (what is shared counts as often as it is met; a slice's spare places count too). A statement '..UptoSaid' is the law's where the arguments, and the package variables that the reading takes, are together of bulk at most 1048576: NARROWER than '..Said'. Prove '..Said' where nothing that the law and all that it calls make is longer than what came in: it says more and counts as full. Else prove '..UptoSaid'. A law counts once. -/
mutual
def uptoBulk {H : Type} : DataW H → Nat
  | .lit (.string bytes) => bytes.length + 1
  | .lit _ => 1
  | .nil => 1
  | .ptr d => uptoBulk d + 1
  | .slice elems spare => uptoBulkAll elems + uptoBulkAll spare + 1
  | .agg parts => uptoBulkAll parts + 1
  | .iface _ d => uptoBulk d + 1
  | .map entries => uptoBulkEntries entries + 1
  | .held _ => 1
def uptoBulkAll {H : Type} : List (DataW H) → Nat
  | [] => 0
  | d :: r => uptoBulk d + uptoBulkAll r
def uptoBulkEntries {H : Type} : List (Lit × DataW H) → Nat
  | [] => 0
  | x :: r => uptoBulkEntry x + uptoBulkEntries r
def uptoBulkEntry {H : Type} : Lit × DataW H → Nat
  | (.string bytes, d) => bytes.length + uptoBulk d + 1
  | (_, d) => uptoBulk d + 1
 end
def uptoSmall : (H : Type) → List (DataW H) → Bool := fun _ ds => decide (uptoBulkAll ds ≤ 1048576)
def OpenSpec.upto (s : _root_.Go.ChangeSpec) : _root_.Go.OpenSpec := { _root_.Go.OpenSpec.ofChange s with cond := some uptoSmall }

/-- 'broadsheetlaw30.ClockCounts', WHERE WHAT IT READS IS OF BULK AT MOST 1048576: true; the input reads as it did. -/
def clockCountsUptoRow : OpenClaim := { program := "ytfjcgbkoohjmnaa", sum := "d6f080a1f435b034bf34403090d1206b679f37a97ad03e1c6991db8f1016d38f", func := "broadsheet/broadsheetlaw30.ClockCounts", spec := "clockCounts", apart := false, narrowed := true }
def ClockCountsUptoSaid : Prop := clockCountsUptoRow.holds Try.pinned (OpenSpec.upto clockCountsSpec)

/-- 'broadsheetlaw30.ClockNone', WHERE WHAT IT READS IS OF BULK AT MOST 1048576: true; the input reads as it did. -/
def clockNoneUptoRow : OpenClaim := { program := "ytfjcgbkoohjmnaa", sum := "d6f080a1f435b034bf34403090d1206b679f37a97ad03e1c6991db8f1016d38f", func := "broadsheet/broadsheetlaw30.ClockNone", spec := "clockNone", apart := false, narrowed := true }
def ClockNoneUptoSaid : Prop := clockNoneUptoRow.holds Try.pinned (OpenSpec.upto clockNoneSpec)

/-- 'broadsheetlaw03.CrcSums', WHERE WHAT IT READS IS OF BULK AT MOST 1048576: true; the input reads as it did. -/
def crcSumsUptoRow : OpenClaim := { program := "ytfjcgbkoohjmnaa", sum := "d6f080a1f435b034bf34403090d1206b679f37a97ad03e1c6991db8f1016d38f", func := "broadsheet/broadsheetlaw03.CrcSums", spec := "crcSums", apart := false, narrowed := true }
def CrcSumsUptoSaid : Prop := crcSumsUptoRow.holds Try.pinned (OpenSpec.upto crcSumsSpec)

/-- 'broadsheetlaw03.CrcJoins', WHERE WHAT IT READS IS OF BULK AT MOST 1048576: true; the input reads as it did. -/
def crcJoinsUptoRow : OpenClaim := { program := "ytfjcgbkoohjmnaa", sum := "d6f080a1f435b034bf34403090d1206b679f37a97ad03e1c6991db8f1016d38f", func := "broadsheet/broadsheetlaw03.CrcJoins", spec := "crcJoins", apart := false, narrowed := true }
def CrcJoinsUptoSaid : Prop := crcJoinsUptoRow.holds Try.pinned (OpenSpec.upto crcJoinsSpec)

/-- 'broadsheetlaw03.CrcBurst', WHERE WHAT IT READS IS OF BULK AT MOST 1048576: true; the input reads as it did. -/
def crcBurstUptoRow : OpenClaim := { program := "ytfjcgbkoohjmnaa", sum := "d6f080a1f435b034bf34403090d1206b679f37a97ad03e1c6991db8f1016d38f", func := "broadsheet/broadsheetlaw03.CrcBurst", spec := "crcBurst", apart := false, narrowed := true }
def CrcBurstUptoSaid : Prop := crcBurstUptoRow.holds Try.pinned (OpenSpec.upto crcBurstSpec)

/-- 'broadsheetlaw30.ClockAges', WHERE WHAT IT READS IS OF BULK AT MOST 1048576: true; the input reads as it did. -/
def clockAgesUptoRow : OpenClaim := { program := "ytfjcgbkoohjmnaa", sum := "d6f080a1f435b034bf34403090d1206b679f37a97ad03e1c6991db8f1016d38f", func := "broadsheet/broadsheetlaw30.ClockAges", spec := "clockAges", apart := false, narrowed := true }
def ClockAgesUptoSaid : Prop := clockAgesUptoRow.holds Try.pinned (OpenSpec.upto clockAgesSpec)

/-- 'broadsheetlaw30.ClockRises', WHERE WHAT IT READS IS OF BULK AT MOST 1048576: true; the input reads as it did. -/
def clockRisesUptoRow : OpenClaim := { program := "ytfjcgbkoohjmnaa", sum := "d6f080a1f435b034bf34403090d1206b679f37a97ad03e1c6991db8f1016d38f", func := "broadsheet/broadsheetlaw30.ClockRises", spec := "clockRises", apart := false, narrowed := true }
def ClockRisesUptoSaid : Prop := clockRisesUptoRow.holds Try.pinned (OpenSpec.upto clockRisesSpec)

/-- 'broadsheetlaw04.NameTells', WHERE WHAT IT READS IS OF BULK AT MOST 1048576: true; the input reads as it did. -/
def nameTellsUptoRow : OpenClaim := { program := "ytfjcgbkoohjmnaa", sum := "d6f080a1f435b034bf34403090d1206b679f37a97ad03e1c6991db8f1016d38f", func := "broadsheet/broadsheetlaw04.NameTells", spec := "nameTells", apart := false, narrowed := true }
def NameTellsUptoSaid : Prop := nameTellsUptoRow.holds Try.pinned (OpenSpec.upto nameTellsSpec)

/-- 'broadsheetlaw24.QosTells', WHERE WHAT IT READS IS OF BULK AT MOST 1048576: true; the input reads as it did. -/
def qosTellsUptoRow : OpenClaim := { program := "ytfjcgbkoohjmnaa", sum := "d6f080a1f435b034bf34403090d1206b679f37a97ad03e1c6991db8f1016d38f", func := "broadsheet/broadsheetlaw24.QosTells", spec := "qosTells", apart := false, narrowed := true }
def QosTellsUptoSaid : Prop := qosTellsUptoRow.holds Try.pinned (OpenSpec.upto qosTellsSpec)

/-- 'broadsheetlaw24.QosLess', WHERE WHAT IT READS IS OF BULK AT MOST 1048576: true; the input reads as it did. -/
def qosLessUptoRow : OpenClaim := { program := "ytfjcgbkoohjmnaa", sum := "d6f080a1f435b034bf34403090d1206b679f37a97ad03e1c6991db8f1016d38f", func := "broadsheet/broadsheetlaw24.QosLess", spec := "qosLess", apart := false, narrowed := true }
def QosLessUptoSaid : Prop := qosLessUptoRow.holds Try.pinned (OpenSpec.upto qosLessSpec)

/-- 'broadsheetlaw04.NameFinds', WHERE WHAT IT READS IS OF BULK AT MOST 1048576: true; the input reads as it did. -/
def nameFindsUptoRow : OpenClaim := { program := "ytfjcgbkoohjmnaa", sum := "d6f080a1f435b034bf34403090d1206b679f37a97ad03e1c6991db8f1016d38f", func := "broadsheet/broadsheetlaw04.NameFinds", spec := "nameFinds", apart := false, narrowed := true }
def NameFindsUptoSaid : Prop := nameFindsUptoRow.holds Try.pinned (OpenSpec.upto nameFindsSpec)

/-- 'broadsheetlaw04.NameLeads', WHERE WHAT IT READS IS OF BULK AT MOST 1048576: true; the input reads as it did. -/
def nameLeadsUptoRow : OpenClaim := { program := "ytfjcgbkoohjmnaa", sum := "d6f080a1f435b034bf34403090d1206b679f37a97ad03e1c6991db8f1016d38f", func := "broadsheet/broadsheetlaw04.NameLeads", spec := "nameLeads", apart := false, narrowed := true }
def NameLeadsUptoSaid : Prop := nameLeadsUptoRow.holds Try.pinned (OpenSpec.upto nameLeadsSpec)

end Rows
end Go.Proofs.Ytfjcgbkoohjmnaa
