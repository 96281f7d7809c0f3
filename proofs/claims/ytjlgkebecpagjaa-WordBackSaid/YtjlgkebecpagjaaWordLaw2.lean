import Derived.Test.YtjlgkebecpagjaaWordTWordBack
import Derived.Test.YtjlgkebecpagjaaPWordBackx1
import Derived.Test.YtjlgkebecpagjaaOpenS
set_option linter.unusedVariables false
set_option linter.unusedSimpArgs false
namespace Go.Proofs.Ytjlgkebecpagjaa.WordPWordBack
open Go.RowKit Base Go.Proofs.YtjlgkebecpagjaaW.PrintWords Go.Proofs.YtjlgkebecpagjaaW.PrintLast Go.Proofs.Ytjlgkebecpagjaa.PWordBack
theorem lev_le : ∀ (k : Nat) (n : Int), 0 ≤ n → n < 256 ^ k → lev (fun i => (le n k).getD i 0) k = n
  | 0, n, h0, h1 => by
    have : (256 : Int) ^ 0 = 1 := rfl
    show 0 = n
    omega
  | k + 1, n, h0, h1 => by
    have hp : (256 : Int) ^ (k + 1) = 256 ^ k * 256 := Int.pow_succ _ _
    have ih := lev_le k (n / 256) (by omega) (by omega)
    rw [lev]
    have e : (fun i => (le n (k + 1)).getD (i + 1) 0) = (fun i => (le (n / 256) k).getD i 0) := by
      funext i
      rw [le]
      simp [List.getD_eq_getElem?_getD]
    rw [e, ih]
    show (le n (k + 1)).getD 0 0 + 256 * (n / 256) = n
    rw [le]
    simp [List.getD_eq_getElem?_getD]
    omega
theorem le_range : ∀ (k : Nat) (n : Int), ∀ x ∈ le n k, 0 ≤ x ∧ x < 256
  | 0, n, x, h => by cases h
  | k + 1, n, x, h => by
    rw [le] at h
    rcases List.mem_cons.1 h with rfl | h
    · omega
    · exact le_range k (n / 256) x h
theorem bt_mid (a b : ByteArray) (xs : List Int) (hx : ∀ x ∈ xs, 0 ≤ x ∧ x < 256) (i : Nat) (hi : i < xs.length) : bt (a ++ strOfNums xs ++ b) ((a.size : Int) + i) = xs.getD i 0 := by
  have e : ((a.size : Int) + i).toNat = a.size + i := by omega
  have hl : a.size + i < (a ++ strOfNums xs ++ b).size := by
    rw [ByteArray.size_append, ByteArray.size_append, strOfNums_size]
    omega
  unfold bt
  rw [e, dif_pos hl]
  have hg : (a ++ strOfNums xs ++ b)[a.size + i] = UInt8.ofNat (xs.getD i 0).toNat := by
    rw [ByteArray.getElem_append_left (by rw [ByteArray.size_append, strOfNums_size]; omega), ByteArray.getElem_append_right (by omega)]
    show (strOfNums xs).data[a.size + i - a.size]'_ = _
    simp [strOfNums, List.getD_eq_getElem?_getD, List.getElem?_eq_getElem hi]
  have hm := hx (xs.getD i 0) (by rw [List.getD_eq_getElem?_getD, List.getElem?_eq_getElem hi]; exact List.getElem_mem hi)
  rw [hg, UInt8.toNat_ofNat']
  omega
theorem lev_congr (f g : Nat → Int) : ∀ k, (∀ i, i < k → f i = g i) → lev f k = lev g k := by
  intro k
  induction k generalizing f g with
  | zero => intro _; rfl
  | succ k ih =>
    intro h
    rw [lev, lev, h 0 (by omega), ih (fun i => f (i + 1)) (fun i => g (i + 1)) (fun i hi => h (i + 1) (by omega))]
theorem pw_pow {s : Int} (h : sz s = true) : (256 : Int) ^ s.toNat = pw s := by
  rcases sz_cases h with rfl | rfl | rfl | rfl <;> kernel_rfl
theorem take_back (a b : ByteArray) (n s : Int) (h : sz s = true) (h0 : 0 ≤ n) (h1 : n < pw s) : takev (a ++ strOfNums (le n s.toNat) ++ b) (a.size : Int) s = (n, 0) := by
  have hs := sz_cases h
  have hsz : (a ++ strOfNums (le n s.toNat) ++ b).size = a.size + s.toNat + b.size := by rw [ByteArray.size_append, ByteArray.size_append, strOfNums_size, le_len]
  unfold takev
  rw [hsz, if_neg (by omega), if_neg (by omega)]
  have e : lev (fun i => bt (a ++ strOfNums (le n s.toNat) ++ b) ((a.size : Int) + i)) s.toNat = lev (fun i => (le n s.toNat).getD i 0) s.toNat :=
    lev_congr _ _ _ (fun i hi => bt_mid a b _ (le_range _ _) i (by rw [le_len]; exact hi))
  rw [e, lev_le s.toNat n h0 (by rw [pw_pow h]; exact h1)]
theorem sgn_range {n s : Int} (h : sz s = true) : -hf s ≤ sgn n s ∧ sgn n s < hf s := by
  unfold sgn
  rcases sz_cases h with rfl | rfl | rfl | rfl
  · show -128 ≤ (if n % 256 < 128 then n % 256 else n % 256 - 256) ∧ (if n % 256 < 128 then n % 256 else n % 256 - 256) < 128
    split <;> omega
  · show -32768 ≤ (if n % 65536 < 32768 then n % 65536 else n % 65536 - 65536) ∧ (if n % 65536 < 32768 then n % 65536 else n % 65536 - 65536) < 32768
    split <;> omega
  · show -2147483648 ≤ (if n % 4294967296 < 2147483648 then n % 4294967296 else n % 4294967296 - 4294967296) ∧ (if n % 4294967296 < 2147483648 then n % 4294967296 else n % 4294967296 - 4294967296) < 2147483648
    split <;> omega
  · show -9223372036854775808 ≤ (if n % 18446744073709551616 < 9223372036854775808 then n % 18446744073709551616 else n % 18446744073709551616 - 18446744073709551616) ∧ (if n % 18446744073709551616 < 9223372036854775808 then n % 18446744073709551616 else n % 18446744073709551616 - 18446744073709551616) < 9223372036854775808
    split <;> omega
theorem hf_le {s : Int} (h : sz s = true) : 128 ≤ hf s ∧ hf s ≤ 9223372036854775808 := by
  rcases sz_cases h with rfl | rfl | rfl | rfl <;> decide
theorem bits_sgn {n s : Int} (h : sz s = true) (h0 : 0 ≤ n) (h1 : n < pw s) : bitv (sgn n s) s = (n, 0) := by
  unfold bitv
  rw [if_pos (sgn_range h)]
  congr 1
  unfold sgn
  rcases sz_cases h with rfl | rfl | rfl | rfl
  · have h1 : n < 256 := h1
    show (if n % 256 < 128 then n % 256 else n % 256 - 256) % 256 = n
    split <;> omega
  · have h1 : n < 65536 := h1
    show (if n % 65536 < 32768 then n % 65536 else n % 65536 - 65536) % 65536 = n
    split <;> omega
  · have h1 : n < 4294967296 := h1
    show (if n % 4294967296 < 2147483648 then n % 4294967296 else n % 4294967296 - 4294967296) % 4294967296 = n
    split <;> omega
  · have h1 : n < 18446744073709551616 := h1
    show (if n % 18446744073709551616 < 9223372036854775808 then n % 18446744073709551616 else n % 18446744073709551616 - 18446744073709551616) % 18446744073709551616 = n
    split <;> omega
/-- Wide's answer. -/
def wid (n s : Int) : Int := IntKind.u64.wrap (sgn n s)
theorem wid_wid {n s : Int} (h : sz s = true) : wid (wid n s) s = wid n s := by
  have hr := sgn_range (n := n) h
  have hh := hf_le h
  unfold wid
  rw [(sgn_back (sgn n s) s h (by omega) (by omega)).2 hr]
theorem sgn_bits {m s : Int} (h : sz s = true) (hr : -hf s ≤ m ∧ m < hf s) : sgn (m % pw s) s = m := by
  have hh := hf_le h
  have := (sgn_back m s h (by omega) (by omega)).2 hr
  rw [u64_mod] at this
  unfold sgn at this ⊢
  rcases sz_cases h with rfl | rfl | rfl | rfl
  · have hr : -128 ≤ m ∧ m < 128 := hr
    show (if m % 256 % 256 < 128 then m % 256 % 256 else m % 256 % 256 - 256) = m
    split <;> omega
  · have hr : -32768 ≤ m ∧ m < 32768 := hr
    show (if m % 65536 % 65536 < 32768 then m % 65536 % 65536 else m % 65536 % 65536 - 65536) = m
    split <;> omega
  · have hr : -2147483648 ≤ m ∧ m < 2147483648 := hr
    show (if m % 4294967296 % 4294967296 < 2147483648 then m % 4294967296 % 4294967296 else m % 4294967296 % 4294967296 - 4294967296) = m
    split <;> omega
  · have hr : -9223372036854775808 ≤ m ∧ m < 9223372036854775808 := hr
    show (if m % 18446744073709551616 % 18446744073709551616 < 9223372036854775808 then m % 18446744073709551616 % 18446744073709551616 else m % 18446744073709551616 % 18446744073709551616 - 18446744073709551616) = m
    split <;> omega
end Go.Proofs.Ytjlgkebecpagjaa.WordPWordBack
