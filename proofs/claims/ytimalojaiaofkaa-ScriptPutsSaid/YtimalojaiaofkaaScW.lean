import Derived.Test.YtimalojaiaofkaaWd
import Derived.Test.YtimalojaiaofkaaPScriptPutsx1
set_option linter.unusedVariables false
set_option linter.unusedSimpArgs false
namespace Go.Proofs.Ytimalojaiaofkaa.ScW
open Go.RowKit Base Go.Proofs.YtimalojaiaofkaaW.PrintWords Go.Proofs.YtimalojaiaofkaaW.PrintLast Go.Proofs.YtimalojaiaofkaaW.PrintMore Wd Go.Proofs.Ytimalojaiaofkaa.PScriptPuts
theorem sized_eq (s : Int) : word_sized.f s = some (sz s) := by
  unfold word_sized.f sz
  by_cases h1 : s = 1
  · simp [h1]
  · by_cases h2 : s = 2
    · simp [h2]
    · by_cases h4 : s = 4
      · simp [h4]
      · simp [h1, h2, h4]
theorem sign_1 (n : Int) : word_Sign.f n 1 = some (sgn n 1) := by
  unfold word_Sign.f
  rw [sized_eq, show sz 1 = true from rfl, Option.bind_some, if_pos rfl, show IntKind.u64.wrap (wrap64 (64 - wrap64 (8 * 1))) = ((56 : Nat) : Int) from by kernel_rfl, if_pos (by decide), shi _ _ (by decide), sl_ _ _ (by decide)]
  congr 1
  unfold sgn pw hf wrap64
  simp only [if_true]
  omega
theorem sign_2 (n : Int) : word_Sign.f n 2 = some (sgn n 2) := by
  unfold word_Sign.f
  rw [sized_eq, show sz 2 = true from rfl, Option.bind_some, if_pos rfl, show IntKind.u64.wrap (wrap64 (64 - wrap64 (8 * 2))) = ((48 : Nat) : Int) from by kernel_rfl, if_pos (by decide), shi _ _ (by decide), sl_ _ _ (by decide)]
  congr 1
  unfold sgn pw hf wrap64
  simp
  omega
theorem sign_4 (n : Int) : word_Sign.f n 4 = some (sgn n 4) := by
  unfold word_Sign.f
  rw [sized_eq, show sz 4 = true from rfl, Option.bind_some, if_pos rfl, show IntKind.u64.wrap (wrap64 (64 - wrap64 (8 * 4))) = ((32 : Nat) : Int) from by kernel_rfl, if_pos (by decide), shi _ _ (by decide), sl_ _ _ (by decide)]
  congr 1
  unfold sgn pw hf wrap64
  simp
  omega
theorem sign_8 (n : Int) : word_Sign.f n 8 = some (sgn n 8) := by
  unfold word_Sign.f
  rw [sized_eq, show sz 8 = true from rfl, Option.bind_some, if_pos rfl, show IntKind.u64.wrap (wrap64 (64 - wrap64 (8 * 8))) = ((0 : Nat) : Int) from by kernel_rfl, if_pos (by decide), shi _ _ (by decide), sl_ _ _ (by decide)]
  congr 1
  unfold sgn pw hf wrap64
  simp
  omega
theorem sign_eq (n s : Int) : word_Sign.f n s = some (if sz s then sgn n s else 0) := by
  cases h : sz s with
  | false =>
    unfold word_Sign.f
    rw [sized_eq, h]
    rfl
  | true =>
    rcases sz_cases h with rfl | rfl | rfl | rfl
    · exact sign_1 n
    · exact sign_2 n
    · exact sign_4 n
    · exact sign_8 n
theorem mask_eq {s : Int} (h : sz s = true) : word_mask.f s = some (pw s - 1) := by
  rcases sz_cases h with rfl | rfl | rfl | rfl <;> kernel_rfl
theorem bits_eq (n s : Int) (h0 : -9223372036854775808 ≤ n) (h1 : n < 9223372036854775808) : word_Bits.f n s = some (if sz s then bitv n s else (0, 4)) := by
  unfold word_Bits.f
  rw [sized_eq, Option.bind_some]
  cases h : sz s with
  | false => rfl
  | true =>
    rw [if_pos rfl, sign_eq, h, if_pos rfl, Option.bind_some, if_pos rfl]
    unfold bitv
    by_cases hb : -hf s ≤ n ∧ n < hf s
    · rw [if_pos ((sgn_back n s h h0 h1).2 hb), if_pos hb, mask_eq h, Option.bind_some, and_mask h (by rw [u64_mod]; omega) (by rw [u64_mod]; omega), u64_mod]
      congr 2
      rcases sz_cases h with rfl | rfl | rfl | rfl
      · show n % 18446744073709551616 % 256 = n % 256; omega
      · show n % 18446744073709551616 % 65536 = n % 65536; omega
      · show n % 18446744073709551616 % 4294967296 = n % 4294967296; omega
      · show n % 18446744073709551616 % 18446744073709551616 = n % 18446744073709551616; omega
    · rw [if_neg (fun h' => hb ((sgn_back n s h h0 h1).1 h')), if_neg hb]
end Go.Proofs.Ytimalojaiaofkaa.ScW
