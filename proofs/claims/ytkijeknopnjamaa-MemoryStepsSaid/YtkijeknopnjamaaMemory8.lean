import Derived.Test.YtkijeknopnjamaaMemory6
import Derived.Test.YtkijeknopnjamaaMemory7
import Derived.Test.YtkijeknopnjamaaBytes
import Derived.Test.YtkijeknopnjamaaCrcSum
import Derived.Test.YtkijeknopnjamaaPMemoryStepsx1
set_option linter.unusedVariables false
set_option linter.unusedSimpArgs false
namespace Go.Proofs.Ytkijeknopnjamaa.Memory
open Go.RowKit Base Sp Flat CrcP Go.Proofs.Ytkijeknopnjamaa.PMemorySteps Go.Proofs.YtkijeknopnjamaaW.PrintWords Go.Proofs.YtkijeknopnjamaaW.PrintLast Go.Proofs.YtkijeknopnjamaaW.PrintMore Go.Lib
/-- A memory's bytes as a text. -/
def tx (l : List UInt8) : ByteArray := ⟨l.toArray⟩
theorem tx_size (l : List UInt8) : (tx l).size = l.length := rfl
theorem nums_zeros (k : Nat) : strOfNums (List.replicate k 0) = tx (zeros k) := by
  have h := Row8.str_of (zeros k)
  rw [← show (zeros k).map (fun c => (c.toNat : Int)) = List.replicate k 0 from by simp [zeros]]
  exact h
theorem f_zeros (k : Nat) (hk : k ≤ 4096) : broadsheetref02_Zeros.f (k : Int) = some (tx (zeros k)) := by
  unfold broadsheetref02_Zeros.f
  rw [if_pos (by omega), if_pos (by rw [Int.toNat_natCast]; omega), Int.toNat_natCast, nums_zeros]
theorem f_new (n : Int) : broadsheetref31_New.f n = some (tx (zeros (msz n))) := by
  unfold broadsheetref31_New.f msz
  by_cases h : n < 0
  · rw [if_pos h, if_pos h]; rfl
  · rw [if_neg h, if_neg h]
    by_cases h2 : n ≤ 4096
    · rw [if_neg (by omega), if_pos h2]
      obtain ⟨k, rfl⟩ : ∃ k : Nat, n = (k : Int) := ⟨n.toNat, by omega⟩
      rw [f_zeros k (by omega), Int.toNat_natCast]
      rfl
    · rw [if_pos (by omega), if_neg h2]
      have h3 := f_zeros 4096 (by omega)
      rw [show broadsheetref02_Zeros.f 4096 = _ from h3]
      rfl
theorem f_lies (l : List UInt8) (a n : Int) (hl : l.length ≤ 4096) : broadsheetref31_lies.f (tx l) a n = some (lb l.length a n) := by
  unfold broadsheetref31_lies.f
  rw [tx_size]
  by_cases h1 : a ≥ 0
  · rw [if_pos h1]
    by_cases h2 : n ≥ 0
    · rw [if_pos h2]
      by_cases h3 : a ≤ (l.length : Int)
      · rw [if_pos h3, CrcR.w64 (by omega) (by omega)]
        congr 1
        unfold lb
        rw [decide_eq_decide]
        omega
      · rw [if_neg h3, show lb l.length a n = false from by unfold lb; rw [decide_eq_false_iff_not]; omega]
    · rw [if_neg h2, show lb l.length a n = false from by unfold lb; rw [decide_eq_false_iff_not]; omega]
  · rw [if_neg h1, show lb l.length a n = false from by unfold lb; rw [decide_eq_false_iff_not]; omega]
theorem f_load (l : List UInt8) (a n : Int) (hl : l.length ≤ 4096) : broadsheetref31_Load.f (tx l) a n = some (tx (ldb l a n), ldc l a n) := by
  unfold broadsheetref31_Load.f
  rw [f_lies l a n hl, tx_size]
  unfold ldb ldc
  cases h : lb l.length a n with
  | false => rfl
  | true =>
    obtain ⟨h1, h2, h3, h4⟩ := lb_true.1 h
    obtain ⟨i, rfl⟩ : ∃ i : Nat, a = (i : Int) := ⟨a.toNat, by omega⟩
    obtain ⟨j, rfl⟩ : ∃ j : Nat, n = (j : Int) := ⟨n.toNat, by omega⟩
    rw [CrcR.w64 (by omega) (by omega)]
    simp only [Option.bind_some, if_true]
    rw [if_pos h1, if_pos (by omega), if_pos (by omega), Int.toNat_natCast, Int.toNat_natCast, show ((i : Int) + (j : Int)).toNat = i + j from by omega]
    congr 2
    apply ByteArray.ext
    unfold tx
    rw [ByteArray.data_extract]
    apply Array.ext'
    simp [List.extract_eq_take_drop]
theorem f_store (l : List UInt8) (a : Int) (s : ByteArray) (hl : l.length ≤ 4096) : broadsheetref31_Store.f (tx l) a s = some (tx (stb l a s), stc l a s) := by
  unfold broadsheetref31_Store.f
  rw [f_lies l a _ hl, tx_size]
  unfold stb stc
  cases h : lb l.length a s.size with
  | false => rfl
  | true =>
    obtain ⟨h1, h2, h3, h4⟩ := lb_true.1 h
    obtain ⟨i, rfl⟩ : ∃ i : Nat, a = (i : Int) := ⟨a.toNat, by omega⟩
    rw [CrcR.w64 (by omega) (by omega)]
    simp only [Option.bind_some, if_true]
    have e1 : ((i : Int) + (s.size : Int)).toNat = i + s.size := by omega
    have e2 : ((tx l).extract 0 i).size = i := by rw [ByteArray.size_extract, tx_size]; omega
    have e3 : ((tx l).extract (i + s.size) l.length).size = l.length - (i + s.size) := by rw [ByteArray.size_extract, tx_size]; omega
    rw [Int.toNat_natCast, e1]
    rw [if_pos h1, if_pos (by omega), if_pos (by rw [e2]; omega), if_pos (by omega), if_pos (by omega), if_pos (by rw [ByteArray.size_append, e2, e3]; omega)]
    congr 2
    apply ByteArray.ext
    unfold tx put
    rw [ByteArray.data_append, ByteArray.data_append, ByteArray.data_extract, ByteArray.data_extract]
    apply Array.ext'
    have e4 : s.data.toList.length = s.size := Array.length_toList
    simp [List.extract_eq_take_drop, e4]
    exact List.take_of_length_le (by simp)
end Go.Proofs.Ytkijeknopnjamaa.Memory
