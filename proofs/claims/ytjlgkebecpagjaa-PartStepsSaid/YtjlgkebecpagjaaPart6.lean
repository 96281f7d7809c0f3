import Derived.Test.YtjlgkebecpagjaaPart5
import Derived.Test.YtjlgkebecpagjaaBytes
import Derived.Test.YtjlgkebecpagjaaPPartStepsx1
set_option linter.unusedVariables false
set_option linter.unusedSimpArgs false
namespace Go.Proofs.Ytjlgkebecpagjaa.Part
open Go.RowKit Base Sp Flat Go.Proofs.Ytjlgkebecpagjaa.PPartSteps Go.Proofs.YtjlgkebecpagjaaW.PrintWords Go.Proofs.YtjlgkebecpagjaaW.PrintLast Go.Lib
/-- A memory's bytes as a text. -/
def tx (l : List UInt8) : ByteArray := ⟨l.toArray⟩
theorem tx_size (l : List UInt8) : (tx l).size = l.length := rfl
theorem nums_zeros (k : Nat) : strOfNums (List.replicate k 0) = tx (Memory.zeros k) := by
  have h := Row8.str_of (Memory.zeros k)
  rw [← show (Memory.zeros k).map (fun c => (c.toNat : Int)) = List.replicate k 0 from by simp [Memory.zeros]]
  exact h
theorem f_zeros (k : Nat) (hk : k ≤ 4096) : broadsheetref02_Zeros.f (k : Int) = some (tx (Memory.zeros k)) := by
  unfold broadsheetref02_Zeros.f
  rw [if_pos (by omega), if_pos (by rw [Int.toNat_natCast]; omega), Int.toNat_natCast, nums_zeros]
theorem f_new (n : Int) : broadsheetref31_New.f n = some (tx (Memory.zeros (Memory.msz n))) := by
  unfold broadsheetref31_New.f Memory.msz
  by_cases h : n < 0
  · rw [if_pos h, if_pos h]; rfl
  · rw [if_neg h, if_neg h]
    by_cases h2 : n ≤ 4096
    · rw [if_neg (by omega), if_pos h2]
      obtain ⟨k, rfl⟩ : ∃ k : Nat, n = (k : Int) := ⟨n.toNat, by omega⟩
      rw [f_zeros k (by omega), Int.toNat_natCast]
      rfl
    · rw [if_pos (by omega), if_neg h2]
      have h3 := f_zeros 4096 (by omega)
      rw [show broadsheetref02_Zeros.f 4096 = _ from h3]
      rfl
theorem mx_eq (n : Int) : Go.Proofs.YtjlgkebecpagjaaW.PrintWords.mx 0 n = mx n := by
  unfold mx Go.Proofs.YtjlgkebecpagjaaW.PrintWords.mx
  repeat' split
  all_goals omega
theorem rnew (nm : ByteArray) (lv ct mm ff : Int) (w : World) : Calls Try.prog 32 #[.agg #[.string nm, .int .i64 lv, .int .u64 ct, .int .i64 mm, .int .i64 ff]] w fun e w' =>
    e = .returned (.agg #[.string (tx (Memory.zeros (Memory.msz mm))), .int .i64 (mx ff), .int .i64 0, .int .i64 0]) ∧ Below w.heap.size w w' := by
  refine broadsheetref35_New.calls nm lv ct mm ff _ _ _ _ w ?_
  unfold broadsheetref35_New.f
  rw [f_new]
  show some _ = some _
  congr 2
  congr 1
  exact mx_eq ff
theorem rstopped (T : ByteArray) (q f l : Int) (w : World) : Calls Try.prog 36 #[.agg #[.string T, .int .i64 q, .int .i64 f, .int .i64 l]] w fun e w' => e = .returned (.bool (decide (q < f))) ∧ Below w.heap.size w w' :=
  broadsheetref35_Stopped.calls T q f l _ w rfl
theorem rwindow (T : ByteArray) (q f l n : Int) (w : World) : Calls Try.prog 33 #[.agg #[.string T, .int .i64 q, .int .i64 f, .int .i64 l], .int .i64 n] w fun e w' =>
    e = .returned (.agg #[.string T, .int .i64 q, .int .i64 f, .int .i64 (bl (decide (q < f)) n)]) ∧ Below w.heap.size w w' := by
  refine broadsheetref35_Window.calls T q f l n _ _ _ _ w ?_
  unfold broadsheetref35_Window.f broadsheetref35_Stopped.f
  rw [mx_eq]
  by_cases h : q < f
  · rw [show decide (f > q) = true from decide_eq_true h]; rfl
  · rw [show decide (f > q) = false from decide_eq_false h]; rfl
theorem rmay (T : ByteArray) (q f l : Int) (w : World) (h0 : 0 ≤ l) (h1 : l < 9223372036854775808) : Calls Try.prog 34 #[.agg #[.string T, .int .i64 q, .int .i64 f, .int .i64 l]] w fun e w' =>
    e = .returned (.tuple #[.agg #[.string T, .int .i64 q, .int .i64 f, .int .i64 (ol l)], .bool (l != 0)]) ∧ Below w.heap.size w w' := by
  refine broadsheetref35_May.calls T q f l _ _ _ _ _ w ?_
  unfold broadsheetref35_May.f
  by_cases h : l = 0
  · subst h; rfl
  · rw [if_neg h, show wrap64 (l - 1) = l - 1 from by unfold wrap64; omega, show ol l = l - 1 from if_neg h, show (l != 0) = true from by simpa using h]
theorem rfault (T : ByteArray) (q f l : Int) (w : World) (h0 : 0 ≤ f) (h1 : f < 9223372036854775807) : Calls Try.prog 35 #[.agg #[.string T, .int .i64 q, .int .i64 f, .int .i64 l]] w fun e w' =>
    e = .returned (.agg #[.string T, .int .i64 q, .int .i64 (ef (decide (q < f)) f), .int .i64 (el (decide (q < f)) l)]) ∧ Below w.heap.size w w' := by
  refine broadsheetref35_Fault.calls T q f l _ _ _ _ w ?_
  unfold broadsheetref35_Fault.f broadsheetref35_Stopped.f
  by_cases h : q < f
  · have e : decide (q < f) = true := decide_eq_true h
    show (some (decide (q < f))).bind _ = _
    rw [e]; rfl
  · have e : decide (q < f) = false := decide_eq_false h
    have e2 : wrap64 (f + 1) = f + 1 := by unfold wrap64; omega
    show (some (decide (q < f))).bind _ = _
    rw [e, e2]; rfl
end Go.Proofs.Ytjlgkebecpagjaa.Part
