import Derived.Test.YtmlfnlmdnhblmaaWd
import Derived.Test.YtmlfnlmdnhblmaaPRecordPutsx1
set_option linter.unusedVariables false
set_option linter.unusedSimpArgs false
namespace Go.Proofs.Ytmlfnlmdnhblmaa.Al
open Go.RowKit Base Go.Proofs.YtmlfnlmdnhblmaaW.PrintWords Go.Proofs.YtmlfnlmdnhblmaaW.PrintLast Wd Go.Proofs.Ytmlfnlmdnhblmaa.PRecordPuts
/-- How many bytes are needed till a place is a multiple of a size. -/
def gapv (a s : Int) : Int := if a < 0 then 0 else if sz s then (-a) % s else 0
theorem gapv_le (a s : Int) : 0 ≤ gapv a s ∧ gapv a s ≤ 7 := by
  unfold gapv
  split
  · omega
  · split
    · rename_i h
      rcases sz_cases h with rfl | rfl | rfl | rfl <;> omega
    · omega
theorem and_small (x : Int) (k : Nat) (hk : k ≤ 3) : Go.bits .and .i64 x ((2 ^ k - 1 : Nat) : Int) = x % ((2 ^ k : Nat) : Int) := by
  have hp : 2 ^ k ≤ 2 ^ 3 := Nat.pow_le_pow_right (by decide) hk
  have hp0 : 0 < 2 ^ k := Nat.pow_pos (by decide)
  show IntKind.i64.wrap (((BitVec.ofInt 64 x &&& BitVec.ofInt 64 (((2 ^ k - 1 : Nat)) : Int)).toNat : Nat) : Int) = _
  rw [of_nat, BitVec.toNat_and, BitVec.toNat_ofNat, BitVec.toNat_ofInt, Nat.mod_eq_of_lt (a := 2 ^ k - 1) (by omega), Nat.and_two_pow_sub_one_eq_mod]
  have h1 := Nat.mod_lt (x % ((2 ^ 64 : Nat) : Int)).toNat hp0
  rw [wrapi64 (by omega) (by omega)]
  have h64 : (2 : Nat) ^ 64 = 18446744073709551616 := by decide
  rw [h64]
  have hk4 : k = 0 ∨ k = 1 ∨ k = 2 ∨ k = 3 := by omega
  rcases hk4 with rfl | rfl | rfl | rfl <;> simp only [Nat.reducePow] <;> omega
theorem gap_eq (a s : Int) (h0 : -9223372036854775808 ≤ a) (h1 : a < 9223372036854775808) : align_Gap.f a s = some (gapv a s) := by
  have hm : wrap64 (-(mx a 0)) = -(mx a 0) := by unfold mx wrap64; split <;> omega
  have hmv : mx a 0 = if a < 0 then 0 else a := by unfold mx; repeat' split
                                                   all_goals omega
  unfold align_Gap.f gapv
  rw [hm, hmv]
  by_cases c1 : s = 1
  · subst c1
    rw [if_pos rfl, show sz 1 = true from rfl, show wrap64 (1 - 1) = ((2 ^ 0 - 1 : Nat) : Int) from by kernel_rfl, and_small _ 0 (by decide)]
    congr 1
    simp only [Nat.reducePow]
    split <;> simp <;> omega
  by_cases c2 : s = 2
  · subst c2
    rw [if_neg (by decide), if_pos rfl, show sz 2 = true from rfl, show wrap64 (2 - 1) = ((2 ^ 1 - 1 : Nat) : Int) from by kernel_rfl, and_small _ 1 (by decide)]
    congr 1
    simp only [Nat.reducePow]
    split <;> simp <;> omega
  by_cases c4 : s = 4
  · subst c4
    rw [if_neg (by decide), if_neg (by decide), if_pos rfl, show sz 4 = true from rfl, show wrap64 (4 - 1) = ((2 ^ 2 - 1 : Nat) : Int) from by kernel_rfl, and_small _ 2 (by decide)]
    congr 1
    simp only [Nat.reducePow]
    split <;> simp <;> omega
  by_cases c8 : s = 8
  · subst c8
    rw [if_neg (by decide), if_neg (by decide), if_neg (by decide), if_pos rfl, show sz 8 = true from rfl, show wrap64 (8 - 1) = ((2 ^ 3 - 1 : Nat) : Int) from by kernel_rfl, and_small _ 3 (by decide)]
    congr 1
    simp only [Nat.reducePow]
    split <;> simp <;> omega
  · rw [if_neg c1, if_neg c2, if_neg c4, if_neg c8, show sz s = false from by unfold sz; simp [c1, c2, c4, c8]]
    simp
theorem gap (a s : Int) (h0 : -9223372036854775808 ≤ a) (h1 : a < 9223372036854775808) (w : World) :
    Calls Try.prog 19 #[.int .i64 a, .int .i64 s] w fun e w' => e = .returned (.int .i64 (gapv a s)) ∧ Below w.heap.size w w' :=
  align_Gap.calls a s _ w (gap_eq a s h0 h1)
end Go.Proofs.Ytmlfnlmdnhblmaa.Al
