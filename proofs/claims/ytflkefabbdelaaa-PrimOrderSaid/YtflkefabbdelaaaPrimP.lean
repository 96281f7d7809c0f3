import Derived.Test.YtflkefabbdelaaaWd
set_option linter.unusedVariables false
set_option linter.unusedSimpArgs false
namespace Go.Proofs.Ytflkefabbdelaaa.Prim
open Go.RowKit Base Go.Proofs.YtflkefabbdelaaaW.PrintWords Go.Proofs.YtflkefabbdelaaaW.PrintLast Wd
/-- Is a kind one of numbers, its size, has it a sign? -/
def nb (k : Int) : Bool := decide (1 ≤ k ∧ k ≤ 9)
def ks (k : Int) : Int := if k = 1 ∨ k = 2 then 1 else if k = 3 ∨ k = 4 then 2 else if k = 5 ∨ k = 6 ∨ k = 9 then 4 else if k = 7 ∨ k = 8 then 8 else 0
def sg (k : Int) : Bool := decide (k = 3 ∨ k = 5 ∨ k = 7 ∨ k = 9)
theorem nb_cases {k : Int} (h : nb k = true) : k = 1 ∨ k = 2 ∨ k = 3 ∨ k = 4 ∨ k = 5 ∨ k = 6 ∨ k = 7 ∨ k = 8 ∨ k = 9 := by
  unfold nb at h
  simp at h
  omega
theorem nb_none {k : Int} (h : nb k = false) : k < 1 ∨ 9 < k := by
  unfold nb at h
  simp at h
  omega
theorem ks_none {k : Int} (h : nb k = false) : ks k = 0 := by
  have := nb_none h
  unfold ks
  rw [if_neg (by omega), if_neg (by omega), if_neg (by omega), if_neg (by omega)]
theorem sg_none {k : Int} (h : nb k = false) : sg k = false := by
  have := nb_none h
  unfold sg
  exact decide_eq_false (by omega)
theorem sg_nb {k : Int} (h : sg k = true) : nb k = true := by
  unfold sg at h
  unfold nb
  simp at h ⊢
  omega
theorem ks_sz {k : Int} (h : nb k = true) : sz (ks k) = true := by
  rcases nb_cases h with rfl | rfl | rfl | rfl | rfl | rfl | rfl | rfl | rfl <;> rfl
/-- A number's lowest bits, the number that has them, and is it one of the kind? -/
def low (k n : Int) : Int := if nb k then n % pw (ks k) else 0
def up (k n : Int) : Int := if sg k then sgn n (ks k) % 18446744073709551616 else low k n
def may (k n : Int) : Bool := nb k && (up k n == n) && (k != 1 || decide (n ≤ 1))
/-- The number with a sign that 64 bits are. -/
def i64 (n : Int) : Int := if n < 9223372036854775808 then n else n - 18446744073709551616
theorem wrap_i64 {n : Int} (h0 : 0 ≤ n) (h1 : n < 18446744073709551616) : wrap64 n = i64 n := by
  unfold wrap64 i64
  split <;> omega
theorem hf_pw {s : Int} (h : sz s = true) : hf s * 2 = pw s ∧ 128 ≤ hf s ∧ hf s ≤ 9223372036854775808 := by
  rcases sz_cases h with rfl | rfl | rfl | rfl <;> decide
theorem pw_mod {s n : Int} (h : sz s = true) : 0 ≤ n % pw s ∧ n % pw s < pw s := by
  rcases sz_cases h with rfl | rfl | rfl | rfl
  · show 0 ≤ n % 256 ∧ n % 256 < 256; omega
  · show 0 ≤ n % 65536 ∧ n % 65536 < 65536; omega
  · show 0 ≤ n % 4294967296 ∧ n % 4294967296 < 4294967296; omega
  · show 0 ≤ n % 18446744073709551616 ∧ n % 18446744073709551616 < 18446744073709551616; omega
theorem low_range (k n : Int) : 0 ≤ low k n ∧ low k n < 18446744073709551616 := by
  unfold low
  cases h : nb k with
  | false =>
    rw [if_neg (by decide)]
    exact ⟨by decide, by decide⟩
  | true =>
    rw [if_pos rfl]
    have h1 := pw_mod (n := n) (ks_sz h)
    have h2 := hf_pw (ks_sz h)
    omega
theorem up_range (k n : Int) : 0 ≤ up k n ∧ up k n < 18446744073709551616 := by
  unfold up
  split
  · omega
  · exact low_range k n
/-- By the bounds of each kind. -/
theorem may_signed {k n : Int} (h : sg k = true) (h0 : 0 ≤ n) (h1 : n < 18446744073709551616) : (up k n = n) ↔ (-hf (ks k) ≤ i64 n ∧ i64 n < hf (ks k)) := by
  unfold up
  rw [if_pos h]
  unfold sgn i64
  have hk : k = 3 ∨ k = 5 ∨ k = 7 ∨ k = 9 := by unfold sg at h; simpa using h
  rcases hk with rfl | rfl | rfl | rfl
  · show (if n % 65536 < 32768 then n % 65536 else n % 65536 - 65536) % 18446744073709551616 = n ↔ (-32768 ≤ (if n < 9223372036854775808 then n else n - 18446744073709551616) ∧ (if n < 9223372036854775808 then n else n - 18446744073709551616) < 32768)
    split <;> split <;> omega
  · show (if n % 4294967296 < 2147483648 then n % 4294967296 else n % 4294967296 - 4294967296) % 18446744073709551616 = n ↔ (-2147483648 ≤ (if n < 9223372036854775808 then n else n - 18446744073709551616) ∧ (if n < 9223372036854775808 then n else n - 18446744073709551616) < 2147483648)
    split <;> split <;> omega
  · show (if n % 18446744073709551616 < 9223372036854775808 then n % 18446744073709551616 else n % 18446744073709551616 - 18446744073709551616) % 18446744073709551616 = n ↔ (-9223372036854775808 ≤ (if n < 9223372036854775808 then n else n - 18446744073709551616) ∧ (if n < 9223372036854775808 then n else n - 18446744073709551616) < 9223372036854775808)
    split <;> split <;> omega
  · show (if n % 4294967296 < 2147483648 then n % 4294967296 else n % 4294967296 - 4294967296) % 18446744073709551616 = n ↔ (-2147483648 ≤ (if n < 9223372036854775808 then n else n - 18446744073709551616) ∧ (if n < 9223372036854775808 then n else n - 18446744073709551616) < 2147483648)
    split <;> split <;> omega
end Go.Proofs.Ytflkefabbdelaaa.Prim
