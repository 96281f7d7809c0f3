import Derived.Test.YtimalojaiaofkaaWd
set_option linter.unusedVariables false
set_option linter.unusedSimpArgs false
namespace Go.Proofs.Ytimalojaiaofkaa.Scr
open Go.RowKit Base Wd
/-- A number's bytes, and an action's: what is wrong with it, what they are. -/
def nby (n s : Int) : ByteArray := (if sz s then putv n s else (⟨#[]⟩, 4)).1
def actE (k a : Int) (s : ByteArray) : Int := if k ≠ 1 ∧ k ≠ 2 then 4 else if k = 1 ∧ (bitv a 4).2 ≠ 0 then 7 else if 65535 < s.size then 3 else 0
def actP (k a : Int) : ByteArray := if k = 1 then nby k 1 ++ nby (bitv a 4).1 4 else nby k 1
def actB (k a : Int) (s : ByteArray) : ByteArray := actP k a ++ nby s.size 2 ++ s
def ract (k a : Int) (s : ByteArray) : ByteArray × Int := if actE k a s ≠ 0 then (⟨#[]⟩, actE k a s) else (actB k a s, 0)
theorem nby_size (n s : Int) (hs : s ≤ 8) : (nby n s).size ≤ 8 := by
  unfold nby
  split
  · unfold putv
    split
    · show (strOfNums (le n s.toNat)).size ≤ 8
      rw [strOfNums_size, le_len]
      omega
    · exact Nat.zero_le _
  · exact Nat.zero_le _
theorem actP_size (k a : Int) : (actP k a).size ≤ 16 := by
  have h1 := nby_size k 1 (by decide)
  have h2 := nby_size (bitv a 4).1 4 (by decide)
  unfold actP
  split
  · rw [ByteArray.size_append]; omega
  · omega
theorem bitv_range (a : Int) : 0 ≤ (bitv a 4).1 ∧ (bitv a 4).1 < 4294967296 := by
  unfold bitv
  split
  · show 0 ≤ a % 4294967296 ∧ a % 4294967296 < 4294967296
    omega
  · exact ⟨Int.le_refl _, by decide⟩
end Go.Proofs.Ytimalojaiaofkaa.Scr
