import Derived.Test.YtflkefabbdelaaaWd
import Derived.Test.YtflkefabbdelaaaPPrimKindsx1
import Derived.Test.YtflkefabbdelaaaPPrimKindsx2
set_option linter.unusedVariables false
set_option linter.unusedSimpArgs false
namespace Go.Proofs.Ytflkefabbdelaaa.WdSPrimKinds
open Go.RowKit Base Go.Proofs.YtflkefabbdelaaaW.PrintWords Go.Proofs.YtflkefabbdelaaaW.PrintLast Go.Proofs.YtflkefabbdelaaaW.PrintMore Wd Go.Proofs.Ytflkefabbdelaaa.PPrimKinds
theorem sized_eq (s : Int) : word_sized.f s = some (sz s) := by
  unfold word_sized.f sz
  by_cases h1 : s = 1
  · simp [h1]
  · by_cases h2 : s = 2
    · simp [h2]
    · by_cases h4 : s = 4
      · simp [h4]
      · simp [h1, h2, h4]
theorem sign_1 (n : Int) : word_Sign.f n 1 = some (sgn n 1) := by
  unfold word_Sign.f
  rw [sized_eq, show sz 1 = true from rfl, Option.bind_some, if_pos rfl, show IntKind.u64.wrap (wrap64 (64 - wrap64 (8 * 1))) = ((56 : Nat) : Int) from by kernel_rfl, if_pos (by decide), shi _ _ (by decide), sl_ _ _ (by decide)]
  congr 1
  unfold sgn pw hf wrap64
  simp only [if_true]
  omega
theorem sign_2 (n : Int) : word_Sign.f n 2 = some (sgn n 2) := by
  unfold word_Sign.f
  rw [sized_eq, show sz 2 = true from rfl, Option.bind_some, if_pos rfl, show IntKind.u64.wrap (wrap64 (64 - wrap64 (8 * 2))) = ((48 : Nat) : Int) from by kernel_rfl, if_pos (by decide), shi _ _ (by decide), sl_ _ _ (by decide)]
  congr 1
  unfold sgn pw hf wrap64
  simp
  omega
theorem sign_4 (n : Int) : word_Sign.f n 4 = some (sgn n 4) := by
  unfold word_Sign.f
  rw [sized_eq, show sz 4 = true from rfl, Option.bind_some, if_pos rfl, show IntKind.u64.wrap (wrap64 (64 - wrap64 (8 * 4))) = ((32 : Nat) : Int) from by kernel_rfl, if_pos (by decide), shi _ _ (by decide), sl_ _ _ (by decide)]
  congr 1
  unfold sgn pw hf wrap64
  simp
  omega
theorem sign_8 (n : Int) : word_Sign.f n 8 = some (sgn n 8) := by
  unfold word_Sign.f
  rw [sized_eq, show sz 8 = true from rfl, Option.bind_some, if_pos rfl, show IntKind.u64.wrap (wrap64 (64 - wrap64 (8 * 8))) = ((0 : Nat) : Int) from by kernel_rfl, if_pos (by decide), shi _ _ (by decide), sl_ _ _ (by decide)]
  congr 1
  unfold sgn pw hf wrap64
  simp
  omega
theorem sign_eq (n s : Int) : word_Sign.f n s = some (if sz s then sgn n s else 0) := by
  cases h : sz s with
  | false =>
    unfold word_Sign.f
    rw [sized_eq, h]
    rfl
  | true =>
    rcases sz_cases h with rfl | rfl | rfl | rfl
    · exact sign_1 n
    · exact sign_2 n
    · exact sign_4 n
    · exact sign_8 n
theorem wide_eq (n s : Int) : word_Wide.f n s = some (IntKind.u64.wrap (if sz s then sgn n s else 0)) := by
  unfold word_Wide.f
  rw [sign_eq]
  rfl
theorem ssized_eq (s : Int) : broadsheetref01_Sized.f s = some (sz s) := sized_eq s
theorem half_eq {s : Int} (h : sz s = true) : broadsheetref01_half.f 12 s = some (hf s) := by
  rcases sz_cases h with rfl | rfl | rfl | rfl <;> kernel_rfl
theorem rlow_eq (n s : Int) (h : sz s = true) (h0 : 0 ≤ n) (h1 : n < 18446744073709551616) : broadsheetref01_Low.f 12 n s = some (n % pw s) := by
  unfold broadsheetref01_Low.f
  rw [half_eq h, Option.bind_some, Int.tmod_eq_emod_of_nonneg h0, Int.tdiv_eq_ediv_of_nonneg h0]
  rcases sz_cases h with rfl | rfl | rfl | rfl
  · rw [if_neg (by decide)]
    simp only [u64_mod]
    show some ((n % 128 + 128 * Int.tmod (n / 128 % 18446744073709551616) 2 % 18446744073709551616) % 18446744073709551616) = some (n % 256)
    rw [Int.tmod_eq_emod_of_nonneg (by omega)]
    congr 1
    omega
  · rw [if_neg (by decide)]
    simp only [u64_mod]
    show some ((n % 32768 + 32768 * Int.tmod (n / 32768 % 18446744073709551616) 2 % 18446744073709551616) % 18446744073709551616) = some (n % 65536)
    rw [Int.tmod_eq_emod_of_nonneg (by omega)]
    congr 1
    omega
  · rw [if_neg (by decide)]
    simp only [u64_mod]
    show some ((n % 2147483648 + 2147483648 * Int.tmod (n / 2147483648 % 18446744073709551616) 2 % 18446744073709551616) % 18446744073709551616) = some (n % 4294967296)
    rw [Int.tmod_eq_emod_of_nonneg (by omega)]
    congr 1
    omega
  · rw [if_neg (by decide)]
    simp only [u64_mod]
    show some ((n % 9223372036854775808 + 9223372036854775808 * Int.tmod (n / 9223372036854775808 % 18446744073709551616) 2 % 18446744073709551616) % 18446744073709551616) = some (n % 18446744073709551616)
    rw [Int.tmod_eq_emod_of_nonneg (by omega)]
    congr 1
    omega
theorem rsign_eq (n s : Int) (h0 : 0 ≤ n) (h1 : n < 18446744073709551616) : broadsheetref01_Sign.f 12 n s = some (if sz s then sgn n s else 0) := by
  unfold broadsheetref01_Sign.f
  rw [ssized_eq, Option.bind_some]
  cases h : sz s with
  | false => rfl
  | true =>
    rw [if_pos rfl, if_pos rfl, rlow_eq n s h h0 h1, Option.bind_some, half_eq h, Option.bind_some]
    unfold sgn
    have hb : n % pw s < hf s ∨ (hf s ≤ n % pw s ∧ n % pw s < pw s) := by
      rcases sz_cases h with rfl | rfl | rfl | rfl
      · show n % 256 < 128 ∨ (128 ≤ n % 256 ∧ n % 256 < 256); omega
      · show n % 65536 < 32768 ∨ (32768 ≤ n % 65536 ∧ n % 65536 < 65536); omega
      · show n % 4294967296 < 2147483648 ∨ (2147483648 ≤ n % 4294967296 ∧ n % 4294967296 < 4294967296); omega
      · show n % 18446744073709551616 < 9223372036854775808 ∨ (9223372036854775808 ≤ n % 18446744073709551616 ∧ n % 18446744073709551616 < 18446744073709551616); omega
    have hl : 0 ≤ n % pw s := by
      rcases sz_cases h with rfl | rfl | rfl | rfl
      · show 0 ≤ n % 256; omega
      · show 0 ≤ n % 65536; omega
      · show 0 ≤ n % 4294967296; omega
      · show 0 ≤ n % 18446744073709551616; omega
    have hh : hf s * 2 = pw s ∧ 128 ≤ hf s ∧ hf s ≤ 9223372036854775808 := by
      rcases sz_cases h with rfl | rfl | rfl | rfl <;> decide
    generalize n % pw s = l at *
    generalize hf s = f at *
    generalize pw s = p at *
    rcases hb with hb | ⟨hb, hc⟩
    · rw [if_pos hb, if_pos hb]
      congr 1
      unfold wrap64
      omega
    · rw [if_neg (by omega), if_neg (by omega)]
      congr 1
      rw [u64_mod, u64_mod]
      unfold wrap64
      omega
theorem wide (n s : Int) (w : World) : Calls Try.prog 28 #[.int .u64 n, .int .i64 s] w fun e w' => e = .returned (.int .u64 (IntKind.u64.wrap (if sz s then sgn n s else 0))) ∧ Below w.heap.size w w' :=
  (word_Wide.calls n s _ w (wide_eq n s)).mono fun _ _ h => ⟨h.1, drawn_below h.2⟩
end Go.Proofs.Ytflkefabbdelaaa.WdSPrimKinds
