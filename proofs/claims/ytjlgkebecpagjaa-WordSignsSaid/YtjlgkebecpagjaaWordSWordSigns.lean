import Derived.Test.YtjlgkebecpagjaaWordQWordSigns
import Derived.Test.YtjlgkebecpagjaaPWordSignsx1
set_option linter.unusedVariables false
set_option linter.unusedSimpArgs false
namespace Go.Proofs.Ytjlgkebecpagjaa.WordPWordSigns
open Go.RowKit Base Go.Proofs.YtjlgkebecpagjaaW.PrintWords Go.Proofs.YtjlgkebecpagjaaW.PrintLast Go.Proofs.Ytjlgkebecpagjaa.PWordSigns
theorem ssized_eq (s : Int) : broadsheetref01_Sized.f s = some (sz s) := sized_eq s
theorem half_eq {s : Int} (h : sz s = true) : broadsheetref01_half.f 12 s = some (hf s) := by
  rcases sz_cases h with rfl | rfl | rfl | rfl <;> kernel_rfl
theorem rlow_eq (n s : Int) (h : sz s = true) (h0 : 0 ≤ n) (h1 : n < 18446744073709551616) : broadsheetref01_Low.f 12 n s = some (n % pw s) := by
  unfold broadsheetref01_Low.f
  rw [half_eq h, Option.bind_some, Int.tmod_eq_emod_of_nonneg h0, Int.tdiv_eq_ediv_of_nonneg h0]
  rcases sz_cases h with rfl | rfl | rfl | rfl
  · rw [if_neg (by decide)]
    simp only [u64_mod]
    show some ((n % 128 + 128 * Int.tmod (n / 128 % 18446744073709551616) 2 % 18446744073709551616) % 18446744073709551616) = some (n % 256)
    rw [Int.tmod_eq_emod_of_nonneg (by omega)]
    congr 1
    omega
  · rw [if_neg (by decide)]
    simp only [u64_mod]
    show some ((n % 32768 + 32768 * Int.tmod (n / 32768 % 18446744073709551616) 2 % 18446744073709551616) % 18446744073709551616) = some (n % 65536)
    rw [Int.tmod_eq_emod_of_nonneg (by omega)]
    congr 1
    omega
  · rw [if_neg (by decide)]
    simp only [u64_mod]
    show some ((n % 2147483648 + 2147483648 * Int.tmod (n / 2147483648 % 18446744073709551616) 2 % 18446744073709551616) % 18446744073709551616) = some (n % 4294967296)
    rw [Int.tmod_eq_emod_of_nonneg (by omega)]
    congr 1
    omega
  · rw [if_neg (by decide)]
    simp only [u64_mod]
    show some ((n % 9223372036854775808 + 9223372036854775808 * Int.tmod (n / 9223372036854775808 % 18446744073709551616) 2 % 18446744073709551616) % 18446744073709551616) = some (n % 18446744073709551616)
    rw [Int.tmod_eq_emod_of_nonneg (by omega)]
    congr 1
    omega
theorem rsign_eq (n s : Int) (h0 : 0 ≤ n) (h1 : n < 18446744073709551616) : broadsheetref01_Sign.f 12 n s = some (if sz s then sgn n s else 0) := by
  unfold broadsheetref01_Sign.f
  rw [ssized_eq, Option.bind_some]
  cases h : sz s with
  | false => rfl
  | true =>
    rw [if_pos rfl, if_pos rfl, rlow_eq n s h h0 h1, Option.bind_some, half_eq h, Option.bind_some]
    unfold sgn
    have hb : n % pw s < hf s ∨ (hf s ≤ n % pw s ∧ n % pw s < pw s) := by
      rcases sz_cases h with rfl | rfl | rfl | rfl
      · show n % 256 < 128 ∨ (128 ≤ n % 256 ∧ n % 256 < 256); omega
      · show n % 65536 < 32768 ∨ (32768 ≤ n % 65536 ∧ n % 65536 < 65536); omega
      · show n % 4294967296 < 2147483648 ∨ (2147483648 ≤ n % 4294967296 ∧ n % 4294967296 < 4294967296); omega
      · show n % 18446744073709551616 < 9223372036854775808 ∨ (9223372036854775808 ≤ n % 18446744073709551616 ∧ n % 18446744073709551616 < 18446744073709551616); omega
    have hl : 0 ≤ n % pw s := by
      rcases sz_cases h with rfl | rfl | rfl | rfl
      · show 0 ≤ n % 256; omega
      · show 0 ≤ n % 65536; omega
      · show 0 ≤ n % 4294967296; omega
      · show 0 ≤ n % 18446744073709551616; omega
    have hh : hf s * 2 = pw s ∧ 128 ≤ hf s ∧ hf s ≤ 9223372036854775808 := by
      rcases sz_cases h with rfl | rfl | rfl | rfl <;> decide
    generalize n % pw s = l at *
    generalize hf s = f at *
    generalize pw s = p at *
    rcases hb with hb | ⟨hb, hc⟩
    · rw [if_pos hb, if_pos hb]
      congr 1
      unfold wrap64
      omega
    · rw [if_neg (by omega), if_neg (by omega)]
      congr 1
      rw [u64_mod, u64_mod]
      unfold wrap64
      omega
theorem rbits_eq (n s : Int) (h0 : -9223372036854775808 ≤ n) (h1 : n < 9223372036854775808) : broadsheetref01_Bits.f 12 n s = some (if sz s then bitv n s else (0, 4)) := by
  unfold broadsheetref01_Bits.f
  rw [ssized_eq, Option.bind_some]
  cases h : sz s with
  | false => rfl
  | true =>
    rw [if_pos rfl, if_pos rfl, half_eq h, Option.bind_some]
    have hh : hf s * 2 = pw s ∧ 128 ≤ hf s ∧ hf s ≤ 9223372036854775808 := by
      rcases sz_cases h with rfl | rfl | rfl | rfl <;> decide
    have hmod : -hf s ≤ n → n < hf s → n % pw s = if 0 ≤ n then n else n + pw s := by
      intro h2 h3
      rcases sz_cases h with rfl | rfl | rfl | rfl
      · have h2 : -128 ≤ n := h2
        have h3 : n < 128 := h3
        show n % 256 = if 0 ≤ n then n else n + 256
        split <;> omega
      · have h2 : -32768 ≤ n := h2
        have h3 : n < 32768 := h3
        show n % 65536 = if 0 ≤ n then n else n + 65536
        split <;> omega
      · have h2 : -2147483648 ≤ n := h2
        have h3 : n < 2147483648 := h3
        show n % 4294967296 = if 0 ≤ n then n else n + 4294967296
        split <;> omega
      · show n % 18446744073709551616 = if 0 ≤ n then n else n + 18446744073709551616
        split <;> omega
    unfold bitv
    generalize n % pw s = l at *
    generalize hf s = f at *
    generalize pw s = p at *
    have hneg : n < 0 → IntKind.u64.wrap (wrap64 (-(wrap64 (n + 1)))) = -(n + 1) := by
      intro hn
      rw [u64_mod]
      unfold wrap64
      omega
    have hpos : 0 ≤ n → IntKind.u64.wrap n = n := by
      intro hn
      rw [u64_mod]
      omega
    by_cases hn : n ≥ 0
    · rw [if_pos hn, hpos hn]
      by_cases hf : n ≥ f
      · rw [if_pos hf, if_neg (by omega)]
        simp [broadsheetref01_Bits.j0]
      · rw [if_neg hf, if_neg (by omega), if_pos (by omega), hmod (by omega) (by omega), if_pos hn]
        simp only [broadsheetref01_Bits.j0]
        rw [if_neg (by decide), if_pos hn, hpos hn]
    · rw [if_neg hn, if_pos (by omega), hneg (by omega)]
      by_cases hf : -(n + 1) ≥ f
      · rw [show decide (-(n + 1) ≥ f) = true from decide_eq_true hf, if_neg (by omega)]
        simp [broadsheetref01_Bits.j0]
      · rw [show decide (-(n + 1) ≥ f) = false from decide_eq_false hf, if_pos (by omega), hmod (by omega) (by omega), if_neg hn]
        simp only [broadsheetref01_Bits.j0]
        rw [if_neg (by decide), if_neg hn, hneg (by omega)]
        congr 2
        rw [u64_mod, u64_mod, u64_mod]
        omega
theorem wide_eq (n s : Int) : word_Wide.f n s = some (IntKind.u64.wrap (if sz s then sgn n s else 0)) := by
  unfold word_Wide.f
  rw [sign_eq]
  rfl
end Go.Proofs.Ytjlgkebecpagjaa.WordPWordSigns
