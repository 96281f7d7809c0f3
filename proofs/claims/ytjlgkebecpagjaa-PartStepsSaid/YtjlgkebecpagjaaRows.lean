/-
  No cell of these rows narrows 'for every input' (looked for: loops, veiled, ifaces, maps, wideKeys, modest, calm, conditions, laid).
  DERIVED. THE GIVEN ROWS OF THIS SEAT. 12 by the template 'for every input the law returns true; each argument reads behind the call as it read before'; 0 by the template 'total and deterministic' (their statements: YtjlgkebecpagjaaTotals.lean).
  GIVEN WITH THE SEED: the statements are not yours to turn. If you find one false, say at which input.
  Laid BY PROGRAM, IN A SANDBOX (cutbox-rows.mjs): the forced cells as the released guide's own fill.sh prints them over the translation c519f49f3204794f… (all of the seat's roots in one cut). By AI agents, Wed Nov 11 2026. No macro, syntax, notation, axiom, sorry.
-/
import Derived.Test.YtjlgkebecpagjaaChecked
import GoSem.Claim
import GoSem.ClaimJoined
import GoSem.ClaimMapViews
import Derived.JoinedTies
import Derived.KernelRfl
namespace Go.Proofs.Ytjlgkebecpagjaa
/- THE CELL 'sum', in the pinned program and in every row, IS THE sha256 OF THE DUMP (.gsa) THAT YtjlgkebecpagjaaProg.lean LOADS. Nothing in Lean hashes anything: it is a label: what it is worth is what the hold of that sum in a sandbox is worth. -/
noncomputable def Try.pinned : Pinned := { name := "ytjlgkebecpagjaa", sum := "c519f49f3204794fb9a45b4e4686a51bd484aa3454d8905e784bbd5043939acd", checked := Try.checked }
namespace Rows
def none {H : Type} : Left H := { results := [], args := [] }

/-- 'broadsheetlaw01.WordSigns': WHATEVER THE INPUT: true; the input reads as it did. -/
def wordSignsSpec : ChangeSpec := { name := "wordSigns", fn := fun _ => fun
  | [d1, d2, d3] => { results := [.lit (.bool true)], args := [d1, d2, d3] }
  | _ => none }
def wordSignsRow : OpenClaim := { program := "ytjlgkebecpagjaa", sum := "c519f49f3204794fb9a45b4e4686a51bd484aa3454d8905e784bbd5043939acd", func := "broadsheet/broadsheetlaw01.WordSigns", spec := "wordSigns", apart := false }
def WordSignsSaid : Prop := wordSignsRow.holds Try.pinned (OpenSpec.ofChange wordSignsSpec)

/-- ITS FALSE NEIGHBOUR: 'it returns false'. Refute it at one input. -/
def wordSignsWrong : ChangeSpec := { name := "wordSigns", fn := fun _ => fun
  | [d1, d2, d3] => { results := [.lit (.bool false)], args := [d1, d2, d3] }
  | _ => none }
def WordSignsWrongFalsely : Prop := wordSignsRow.holds Try.pinned (OpenSpec.ofChange wordSignsWrong)

/-- 'broadsheetlaw35.PartEnds': WHATEVER THE INPUT: true; the input reads as it did. -/
def partEndsSpec : ChangeSpec := { name := "partEnds", fn := fun _ => fun
  | [d1, d2] => { results := [.lit (.bool true)], args := [d1, d2] }
  | _ => none }
def partEndsRow : OpenClaim := { program := "ytjlgkebecpagjaa", sum := "c519f49f3204794fb9a45b4e4686a51bd484aa3454d8905e784bbd5043939acd", func := "broadsheet/broadsheetlaw35.PartEnds", spec := "partEnds", apart := false }
def PartEndsSaid : Prop := partEndsRow.holds Try.pinned (OpenSpec.ofChange partEndsSpec)

/-- ITS FALSE NEIGHBOUR: 'it returns false'. Refute it at one input. -/
def partEndsWrong : ChangeSpec := { name := "partEnds", fn := fun _ => fun
  | [d1, d2] => { results := [.lit (.bool false)], args := [d1, d2] }
  | _ => none }
def PartEndsWrongFalsely : Prop := partEndsRow.holds Try.pinned (OpenSpec.ofChange partEndsWrong)

/-- 'broadsheetlaw01.WordPuts': WHATEVER THE INPUT: true; the input reads as it did. -/
def wordPutsSpec : ChangeSpec := { name := "wordPuts", fn := fun _ => fun
  | [d1, d2, d3] => { results := [.lit (.bool true)], args := [d1, d2, d3] }
  | _ => none }
def wordPutsRow : OpenClaim := { program := "ytjlgkebecpagjaa", sum := "c519f49f3204794fb9a45b4e4686a51bd484aa3454d8905e784bbd5043939acd", func := "broadsheet/broadsheetlaw01.WordPuts", spec := "wordPuts", apart := false }
def WordPutsSaid : Prop := wordPutsRow.holds Try.pinned (OpenSpec.ofChange wordPutsSpec)

/-- ITS FALSE NEIGHBOUR: 'it returns false'. Refute it at one input. -/
def wordPutsWrong : ChangeSpec := { name := "wordPuts", fn := fun _ => fun
  | [d1, d2, d3] => { results := [.lit (.bool false)], args := [d1, d2, d3] }
  | _ => none }
def WordPutsWrongFalsely : Prop := wordPutsRow.holds Try.pinned (OpenSpec.ofChange wordPutsWrong)

/-- 'broadsheetlaw01.WordBack': WHATEVER THE INPUT: true; the input reads as it did. -/
def wordBackSpec : ChangeSpec := { name := "wordBack", fn := fun _ => fun
  | [d1, d2, d3] => { results := [.lit (.bool true)], args := [d1, d2, d3] }
  | _ => none }
def wordBackRow : OpenClaim := { program := "ytjlgkebecpagjaa", sum := "c519f49f3204794fb9a45b4e4686a51bd484aa3454d8905e784bbd5043939acd", func := "broadsheet/broadsheetlaw01.WordBack", spec := "wordBack", apart := false }
def WordBackSaid : Prop := wordBackRow.holds Try.pinned (OpenSpec.ofChange wordBackSpec)

/-- ITS FALSE NEIGHBOUR: 'it returns false'. Refute it at one input. -/
def wordBackWrong : ChangeSpec := { name := "wordBack", fn := fun _ => fun
  | [d1, d2, d3] => { results := [.lit (.bool false)], args := [d1, d2, d3] }
  | _ => none }
def WordBackWrongFalsely : Prop := wordBackRow.holds Try.pinned (OpenSpec.ofChange wordBackWrong)

/-- 'broadsheetlaw35.PartNone': WHATEVER THE INPUT: true; the input reads as it did. -/
def partNoneSpec : ChangeSpec := { name := "partNone", fn := fun _ => fun
  | [d] => { results := [.lit (.bool true)], args := [d] }
  | _ => none }
def partNoneRow : OpenClaim := { program := "ytjlgkebecpagjaa", sum := "c519f49f3204794fb9a45b4e4686a51bd484aa3454d8905e784bbd5043939acd", func := "broadsheet/broadsheetlaw35.PartNone", spec := "partNone", apart := false }
def PartNoneSaid : Prop := partNoneRow.holds Try.pinned (OpenSpec.ofChange partNoneSpec)

/-- ITS FALSE NEIGHBOUR: 'it returns false'. Refute it at one input. -/
def partNoneWrong : ChangeSpec := { name := "partNone", fn := fun _ => fun
  | [d] => { results := [.lit (.bool false)], args := [d] }
  | _ => none }
def PartNoneWrongFalsely : Prop := partNoneRow.holds Try.pinned (OpenSpec.ofChange partNoneWrong)

/-- 'broadsheetlaw35.PartSteps': WHATEVER THE INPUT: true; the input reads as it did. -/
def partStepsSpec : ChangeSpec := { name := "partSteps", fn := fun _ => fun
  | [d1, d2] => { results := [.lit (.bool true)], args := [d1, d2] }
  | _ => none }
def partStepsRow : OpenClaim := { program := "ytjlgkebecpagjaa", sum := "c519f49f3204794fb9a45b4e4686a51bd484aa3454d8905e784bbd5043939acd", func := "broadsheet/broadsheetlaw35.PartSteps", spec := "partSteps", apart := false }
def PartStepsSaid : Prop := partStepsRow.holds Try.pinned (OpenSpec.ofChange partStepsSpec)

/-- ITS FALSE NEIGHBOUR: 'it returns false'. Refute it at one input. -/
def partStepsWrong : ChangeSpec := { name := "partSteps", fn := fun _ => fun
  | [d1, d2] => { results := [.lit (.bool false)], args := [d1, d2] }
  | _ => none }
def PartStepsWrongFalsely : Prop := partStepsRow.holds Try.pinned (OpenSpec.ofChange partStepsWrong)

/-- 'broadsheetlaw45.ScriptPuts': WHATEVER THE INPUT: true; the input reads as it did. -/
def scriptPutsSpec : ChangeSpec := { name := "scriptPuts", fn := fun _ => fun
  | [d] => { results := [.lit (.bool true)], args := [d] }
  | _ => none }
def scriptPutsRow : OpenClaim := { program := "ytjlgkebecpagjaa", sum := "c519f49f3204794fb9a45b4e4686a51bd484aa3454d8905e784bbd5043939acd", func := "broadsheet/broadsheetlaw45.ScriptPuts", spec := "scriptPuts", inPlace := ["internal/abi.NoEscape"], apart := false }
def ScriptPutsSaid : Prop := scriptPutsRow.holds Try.pinned (OpenSpec.ofChange scriptPutsSpec)

/-- ITS FALSE NEIGHBOUR: 'it returns false'. Refute it at one input. -/
def scriptPutsWrong : ChangeSpec := { name := "scriptPuts", fn := fun _ => fun
  | [d] => { results := [.lit (.bool false)], args := [d] }
  | _ => none }
def ScriptPutsWrongFalsely : Prop := scriptPutsRow.holds Try.pinned (OpenSpec.ofChange scriptPutsWrong)

/-- 'broadsheetlaw37.HistorySteps': WHATEVER THE INPUT: true; the input reads as it did. -/
def historyStepsSpec : ChangeSpec := { name := "historySteps", fn := fun _ => fun
  | [d1, d2, d3] => { results := [.lit (.bool true)], args := [d1, d2, d3] }
  | _ => none }
def historyStepsRow : OpenClaim := { program := "ytjlgkebecpagjaa", sum := "c519f49f3204794fb9a45b4e4686a51bd484aa3454d8905e784bbd5043939acd", func := "broadsheet/broadsheetlaw37.HistorySteps", spec := "historySteps", unfollowed := true, recurses := true, apart := false }
def HistoryStepsSaid : Prop := historyStepsRow.holds Try.pinned (OpenSpec.ofChange historyStepsSpec)

/-- ITS FALSE NEIGHBOUR: 'it returns false'. Refute it at one input. -/
def historyStepsWrong : ChangeSpec := { name := "historySteps", fn := fun _ => fun
  | [d1, d2, d3] => { results := [.lit (.bool false)], args := [d1, d2, d3] }
  | _ => none }
def HistoryStepsWrongFalsely : Prop := historyStepsRow.holds Try.pinned (OpenSpec.ofChange historyStepsWrong)

/-- 'broadsheetlaw37.HistoryLast': WHATEVER THE INPUT: true; the input reads as it did. -/
def historyLastSpec : ChangeSpec := { name := "historyLast", fn := fun _ => fun
  | [d1, d2] => { results := [.lit (.bool true)], args := [d1, d2] }
  | _ => none }
def historyLastRow : OpenClaim := { program := "ytjlgkebecpagjaa", sum := "c519f49f3204794fb9a45b4e4686a51bd484aa3454d8905e784bbd5043939acd", func := "broadsheet/broadsheetlaw37.HistoryLast", spec := "historyLast", unfollowed := true, recurses := true, apart := false }
def HistoryLastSaid : Prop := historyLastRow.holds Try.pinned (OpenSpec.ofChange historyLastSpec)

/-- ITS FALSE NEIGHBOUR: 'it returns false'. Refute it at one input. -/
def historyLastWrong : ChangeSpec := { name := "historyLast", fn := fun _ => fun
  | [d1, d2] => { results := [.lit (.bool false)], args := [d1, d2] }
  | _ => none }
def HistoryLastWrongFalsely : Prop := historyLastRow.holds Try.pinned (OpenSpec.ofChange historyLastWrong)

/-- 'broadsheetlaw37.HistoryNone': WHATEVER THE INPUT: true; the input reads as it did. -/
def historyNoneSpec : ChangeSpec := { name := "historyNone", fn := fun _ => fun
  | [d1, d2, d3] => { results := [.lit (.bool true)], args := [d1, d2, d3] }
  | _ => none }
def historyNoneRow : OpenClaim := { program := "ytjlgkebecpagjaa", sum := "c519f49f3204794fb9a45b4e4686a51bd484aa3454d8905e784bbd5043939acd", func := "broadsheet/broadsheetlaw37.HistoryNone", spec := "historyNone", unfollowed := true, recurses := true, apart := false }
def HistoryNoneSaid : Prop := historyNoneRow.holds Try.pinned (OpenSpec.ofChange historyNoneSpec)

/-- ITS FALSE NEIGHBOUR: 'it returns false'. Refute it at one input. -/
def historyNoneWrong : ChangeSpec := { name := "historyNone", fn := fun _ => fun
  | [d1, d2, d3] => { results := [.lit (.bool false)], args := [d1, d2, d3] }
  | _ => none }
def HistoryNoneWrongFalsely : Prop := historyNoneRow.holds Try.pinned (OpenSpec.ofChange historyNoneWrong)

/-- 'broadsheetlaw45.ScriptTakes': WHATEVER THE INPUT: true; the input reads as it did. -/
def scriptTakesSpec : ChangeSpec := { name := "scriptTakes", fn := fun _ => fun
  | [d] => { results := [.lit (.bool true)], args := [d] }
  | _ => none }
def scriptTakesRow : OpenClaim := { program := "ytjlgkebecpagjaa", sum := "c519f49f3204794fb9a45b4e4686a51bd484aa3454d8905e784bbd5043939acd", func := "broadsheet/broadsheetlaw45.ScriptTakes", spec := "scriptTakes", inPlace := ["internal/abi.NoEscape"], apart := false }
def ScriptTakesSaid : Prop := scriptTakesRow.holds Try.pinned (OpenSpec.ofChange scriptTakesSpec)

/-- ITS FALSE NEIGHBOUR: 'it returns false'. Refute it at one input. -/
def scriptTakesWrong : ChangeSpec := { name := "scriptTakes", fn := fun _ => fun
  | [d] => { results := [.lit (.bool false)], args := [d] }
  | _ => none }
def ScriptTakesWrongFalsely : Prop := scriptTakesRow.holds Try.pinned (OpenSpec.ofChange scriptTakesWrong)

/-- 'broadsheetlaw45.ScriptBack': WHATEVER THE INPUT: true; the input reads as it did. -/
def scriptBackSpec : ChangeSpec := { name := "scriptBack", fn := fun _ => fun
  | [d1, d2] => { results := [.lit (.bool true)], args := [d1, d2] }
  | _ => none }
def scriptBackRow : OpenClaim := { program := "ytjlgkebecpagjaa", sum := "c519f49f3204794fb9a45b4e4686a51bd484aa3454d8905e784bbd5043939acd", func := "broadsheet/broadsheetlaw45.ScriptBack", spec := "scriptBack", inPlace := ["internal/abi.NoEscape"], apart := false }
def ScriptBackSaid : Prop := scriptBackRow.holds Try.pinned (OpenSpec.ofChange scriptBackSpec)

/-- ITS FALSE NEIGHBOUR: 'it returns false'. Refute it at one input. -/
def scriptBackWrong : ChangeSpec := { name := "scriptBack", fn := fun _ => fun
  | [d1, d2] => { results := [.lit (.bool false)], args := [d1, d2] }
  | _ => none }
def ScriptBackWrongFalsely : Prop := scriptBackRow.holds Try.pinned (OpenSpec.ofChange scriptBackWrong)

/- THE SECOND FORM. 'bulk': how many values and letters a reading holds, each counted each time it is reached (what is shared counts as often as it is met; a slice's spare places count too). A statement '..UptoSaid' is the law's where the arguments, and the package variables that the reading takes, are together of bulk at most 1048576: NARROWER than '..Said'. Prove '..Said' where nothing that the law and all that it calls make is longer than what came in: it says more and counts as full. Else prove '..UptoSaid'. A law counts once. -/
mutual
def uptoBulk {H : Type} : DataW H → Nat
  | .lit (.string bytes) => bytes.length + 1
  | .lit _ => 1
  | .nil => 1
  | .ptr d => uptoBulk d + 1
  | .slice elems spare => uptoBulkAll elems + uptoBulkAll spare + 1
  | .agg parts => uptoBulkAll parts + 1
  | .iface _ d => uptoBulk d + 1
  | .map entries => uptoBulkEntries entries + 1
  | .held _ => 1
def uptoBulkAll {H : Type} : List (DataW H) → Nat
  | [] => 0
  | d :: r => uptoBulk d + uptoBulkAll r
def uptoBulkEntries {H : Type} : List (Lit × DataW H) → Nat
  | [] => 0
  | x :: r => uptoBulkEntry x + uptoBulkEntries r
def uptoBulkEntry {H : Type} : Lit × DataW H → Nat
  | (.string bytes, d) => bytes.length + uptoBulk d + 1
  | (_, d) => uptoBulk d + 1
 end
def uptoSmall : (H : Type) → List (DataW H) → Bool := fun _ ds => decide (uptoBulkAll ds ≤ 1048576)
def OpenSpec.upto (s : _root_.Go.ChangeSpec) : _root_.Go.OpenSpec := { _root_.Go.OpenSpec.ofChange s with cond := some uptoSmall }

/-- 'broadsheetlaw01.WordSigns', WHERE WHAT IT READS IS OF BULK AT MOST 1048576: true; the input reads as it did. -/
def wordSignsUptoRow : OpenClaim := { program := "ytjlgkebecpagjaa", sum := "c519f49f3204794fb9a45b4e4686a51bd484aa3454d8905e784bbd5043939acd", func := "broadsheet/broadsheetlaw01.WordSigns", spec := "wordSigns", apart := false, narrowed := true }
def WordSignsUptoSaid : Prop := wordSignsUptoRow.holds Try.pinned (OpenSpec.upto wordSignsSpec)

/-- 'broadsheetlaw35.PartEnds', WHERE WHAT IT READS IS OF BULK AT MOST 1048576: true; the input reads as it did. -/
def partEndsUptoRow : OpenClaim := { program := "ytjlgkebecpagjaa", sum := "c519f49f3204794fb9a45b4e4686a51bd484aa3454d8905e784bbd5043939acd", func := "broadsheet/broadsheetlaw35.PartEnds", spec := "partEnds", apart := false, narrowed := true }
def PartEndsUptoSaid : Prop := partEndsUptoRow.holds Try.pinned (OpenSpec.upto partEndsSpec)

/-- 'broadsheetlaw01.WordPuts', WHERE WHAT IT READS IS OF BULK AT MOST 1048576: true; the input reads as it did. -/
def wordPutsUptoRow : OpenClaim := { program := "ytjlgkebecpagjaa", sum := "c519f49f3204794fb9a45b4e4686a51bd484aa3454d8905e784bbd5043939acd", func := "broadsheet/broadsheetlaw01.WordPuts", spec := "wordPuts", apart := false, narrowed := true }
def WordPutsUptoSaid : Prop := wordPutsUptoRow.holds Try.pinned (OpenSpec.upto wordPutsSpec)

/-- 'broadsheetlaw01.WordBack', WHERE WHAT IT READS IS OF BULK AT MOST 1048576: true; the input reads as it did. -/
def wordBackUptoRow : OpenClaim := { program := "ytjlgkebecpagjaa", sum := "c519f49f3204794fb9a45b4e4686a51bd484aa3454d8905e784bbd5043939acd", func := "broadsheet/broadsheetlaw01.WordBack", spec := "wordBack", apart := false, narrowed := true }
def WordBackUptoSaid : Prop := wordBackUptoRow.holds Try.pinned (OpenSpec.upto wordBackSpec)

/-- 'broadsheetlaw35.PartNone', WHERE WHAT IT READS IS OF BULK AT MOST 1048576: true; the input reads as it did. -/
def partNoneUptoRow : OpenClaim := { program := "ytjlgkebecpagjaa", sum := "c519f49f3204794fb9a45b4e4686a51bd484aa3454d8905e784bbd5043939acd", func := "broadsheet/broadsheetlaw35.PartNone", spec := "partNone", apart := false, narrowed := true }
def PartNoneUptoSaid : Prop := partNoneUptoRow.holds Try.pinned (OpenSpec.upto partNoneSpec)

/-- 'broadsheetlaw35.PartSteps', WHERE WHAT IT READS IS OF BULK AT MOST 1048576: true; the input reads as it did. -/
def partStepsUptoRow : OpenClaim := { program := "ytjlgkebecpagjaa", sum := "c519f49f3204794fb9a45b4e4686a51bd484aa3454d8905e784bbd5043939acd", func := "broadsheet/broadsheetlaw35.PartSteps", spec := "partSteps", apart := false, narrowed := true }
def PartStepsUptoSaid : Prop := partStepsUptoRow.holds Try.pinned (OpenSpec.upto partStepsSpec)

/-- 'broadsheetlaw45.ScriptPuts', WHERE WHAT IT READS IS OF BULK AT MOST 1048576: true; the input reads as it did. -/
def scriptPutsUptoRow : OpenClaim := { program := "ytjlgkebecpagjaa", sum := "c519f49f3204794fb9a45b4e4686a51bd484aa3454d8905e784bbd5043939acd", func := "broadsheet/broadsheetlaw45.ScriptPuts", spec := "scriptPuts", inPlace := ["internal/abi.NoEscape"], apart := false, narrowed := true }
def ScriptPutsUptoSaid : Prop := scriptPutsUptoRow.holds Try.pinned (OpenSpec.upto scriptPutsSpec)

/-- 'broadsheetlaw37.HistorySteps', WHERE WHAT IT READS IS OF BULK AT MOST 1048576: true; the input reads as it did. -/
def historyStepsUptoRow : OpenClaim := { program := "ytjlgkebecpagjaa", sum := "c519f49f3204794fb9a45b4e4686a51bd484aa3454d8905e784bbd5043939acd", func := "broadsheet/broadsheetlaw37.HistorySteps", spec := "historySteps", unfollowed := true, recurses := true, apart := false, narrowed := true }
def HistoryStepsUptoSaid : Prop := historyStepsUptoRow.holds Try.pinned (OpenSpec.upto historyStepsSpec)

/-- 'broadsheetlaw37.HistoryLast', WHERE WHAT IT READS IS OF BULK AT MOST 1048576: true; the input reads as it did. -/
def historyLastUptoRow : OpenClaim := { program := "ytjlgkebecpagjaa", sum := "c519f49f3204794fb9a45b4e4686a51bd484aa3454d8905e784bbd5043939acd", func := "broadsheet/broadsheetlaw37.HistoryLast", spec := "historyLast", unfollowed := true, recurses := true, apart := false, narrowed := true }
def HistoryLastUptoSaid : Prop := historyLastUptoRow.holds Try.pinned (OpenSpec.upto historyLastSpec)

/-- 'broadsheetlaw37.HistoryNone', WHERE WHAT IT READS IS OF BULK AT MOST 1048576: true; the input reads as it did. -/
def historyNoneUptoRow : OpenClaim := { program := "ytjlgkebecpagjaa", sum := "c519f49f3204794fb9a45b4e4686a51bd484aa3454d8905e784bbd5043939acd", func := "broadsheet/broadsheetlaw37.HistoryNone", spec := "historyNone", unfollowed := true, recurses := true, apart := false, narrowed := true }
def HistoryNoneUptoSaid : Prop := historyNoneUptoRow.holds Try.pinned (OpenSpec.upto historyNoneSpec)

/-- 'broadsheetlaw45.ScriptTakes', WHERE WHAT IT READS IS OF BULK AT MOST 1048576: true; the input reads as it did. -/
def scriptTakesUptoRow : OpenClaim := { program := "ytjlgkebecpagjaa", sum := "c519f49f3204794fb9a45b4e4686a51bd484aa3454d8905e784bbd5043939acd", func := "broadsheet/broadsheetlaw45.ScriptTakes", spec := "scriptTakes", inPlace := ["internal/abi.NoEscape"], apart := false, narrowed := true }
def ScriptTakesUptoSaid : Prop := scriptTakesUptoRow.holds Try.pinned (OpenSpec.upto scriptTakesSpec)

/-- 'broadsheetlaw45.ScriptBack', WHERE WHAT IT READS IS OF BULK AT MOST 1048576: true; the input reads as it did. -/
def scriptBackUptoRow : OpenClaim := { program := "ytjlgkebecpagjaa", sum := "c519f49f3204794fb9a45b4e4686a51bd484aa3454d8905e784bbd5043939acd", func := "broadsheet/broadsheetlaw45.ScriptBack", spec := "scriptBack", inPlace := ["internal/abi.NoEscape"], apart := false, narrowed := true }
def ScriptBackUptoSaid : Prop := scriptBackUptoRow.holds Try.pinned (OpenSpec.upto scriptBackSpec)

end Rows
end Go.Proofs.Ytjlgkebecpagjaa
