import Derived.Test.YtfjcgbkoohjmnaaCrcSum
set_option linter.unusedVariables false
set_option linter.unusedSimpArgs false
namespace Go.Proofs.Ytfjcgbkoohjmnaa.CrcR
open Go.RowKit CrcP Base Crc

theorem digits_sum : num (CrcP.sum [49, 50, 51, 52, 53, 54, 55, 56, 57]) = 3421780262 := by decide +kernel
theorem empty_sum : num (CrcP.sum []) = 0 := by decide +kernel

theorem awake (w : World) : Calls Try.prog 23 #[] w fun e w' => e = .returned (.bool true) ∧ w = w' := by
  have h1 : num (CrcP.sum (Crc.bytes ⟨#[49, 50, 51, 52, 53, 54, 55, 56, 57]⟩)) = 3421780262 := digits_sum
  have h2 : num (CrcP.sum (Crc.bytes ⟨#[]⟩)) = 0 := empty_sum
  go_enter Try.func23, Try.ntmps23
  go_wp2_with fail
  refine (Crc.sum _ _ (by decide)).mono ?_
  rintro e w' ⟨rfl, rfl⟩
  go_wp2_with fail
  refine (Crc.sum _ _ (by decide)).mono ?_
  rintro e w' ⟨rfl, rfl⟩
  go_wp2
  go_ret
  exact ⟨rfl, rfl⟩

theorem sums (s : ByteArray) (w : World) (hs : s.size ≤ 140737488351232) :
    Calls Try.prog 5 #[.string s] w fun e w' => e = .returned (.bool true) ∧ Below w.heap.size w w' := by
  have hm : s.size ≤ maxLen := by unfold maxLen; omega
  by_cases h : 3000 < s.size
  · go_enter Try.func5, Try.ntmps5
    go_wp2_with fail
    refine (awake _).mono ?_
    rintro e w' ⟨rfl, rfl⟩
    go_wp2
    go_ret
    exact ⟨rfl, Below.refl _ _⟩
  · go_enter Try.func5, Try.ntmps5
    go_wp2_with fail
    refine (Crc.sum s _ hm).mono ?_
    rintro e w' ⟨rfl, rfl⟩
    go_wp2_with fail
    refine (refsum s _ (by omega)).mono ?_
    rintro e w' ⟨rfl, hb⟩
    go_wp2_with fail
    refine (awake _).mono ?_
    rintro e w' ⟨rfl, rfl⟩
    go_wp2
    go_ret
    exact ⟨rfl, hb⟩

theorem joins (a b : ByteArray) (n : Int) (w : World) (ha : a.size ≤ 140737488351232) (hb : b.size ≤ 140737488351232) (h0 : 0 ≤ n) (h1 : n < 4294967296) :
    Calls Try.prog 6 #[.string a, .string b, .int .u32 n] w fun e w' => e = .returned (.bool true) ∧ Below w.heap.size w w' := by
  have hma : a.size ≤ maxLen := by unfold maxLen; omega
  have hmb : b.size ≤ maxLen := by unfold maxLen; omega
  obtain ⟨x, rfl⟩ : ∃ x : BitVec 32, n = num x := ⟨BitVec.ofInt 32 n, by unfold num; rw [BitVec.toNat_ofInt]; omega⟩
  clear h0 h1
  by_cases h : 5000 < a.size
  · go_enter Try.func6, Try.ntmps6
    go_wp2_with fail
    refine (awake _).mono ?_
    rintro e w' ⟨rfl, rfl⟩
    go_wp2
    go_ret
    exact ⟨rfl, Below.refl _ _⟩
  by_cases h2 : 5000 < b.size
  · go_enter Try.func6, Try.ntmps6
    go_wp2_with fail
    refine (awake _).mono ?_
    rintro e w' ⟨rfl, rfl⟩
    go_wp2
    go_ret
    exact ⟨rfl, Below.refl _ _⟩
  have hmab : (a ++ b).size ≤ maxLen := by
    rw [ByteArray.size_append]
    unfold maxLen
    omega
  have hnil : CrcP.more x (Crc.bytes ⟨#[]⟩) = x := more_nil x
  have hj : ∀ y : BitVec 32, CrcP.more (CrcP.more y (Crc.bytes a)) (Crc.bytes b) = CrcP.more y (Crc.bytes (a ++ b)) := by
    intro y
    rw [more_append]
    simp [Crc.bytes]
  have hsj : CrcP.more (CrcP.sum (Crc.bytes a)) (Crc.bytes b) = CrcP.sum (Crc.bytes (a ++ b)) := hj _
  go_enter Try.func6, Try.ntmps6
  go_wp2_with fail
  refine (Crc.sum a _ hma).mono ?_
  rintro e w' ⟨rfl, rfl⟩
  go_wp2_with fail
  refine (Crc.more _ b _ hmb).mono ?_
  rintro e w' ⟨rfl, rfl⟩
  go_wp2_with fail
  refine (Crc.sum (a ++ b) _ hmab).mono ?_
  rintro e w' ⟨rfl, rfl⟩
  go_wp2_with fail
  refine (Crc.more x a _ hma).mono ?_
  rintro e w' ⟨rfl, rfl⟩
  go_wp2_with fail
  refine (Crc.more _ b _ hmb).mono ?_
  rintro e w' ⟨rfl, rfl⟩
  go_wp2_with fail
  refine (Crc.more x (a ++ b) _ hmab).mono ?_
  rintro e w' ⟨rfl, rfl⟩
  go_wp2_with fail
  refine (Crc.more x _ _ (by decide)).mono ?_
  rintro e w' ⟨rfl, rfl⟩
  go_wp2_with fail
  refine (awake _).mono ?_
  rintro e w' ⟨rfl, rfl⟩
  go_wp2
  go_ret
  exact ⟨rfl, Below.refl _ _⟩
end Go.Proofs.Ytfjcgbkoohjmnaa.CrcR
