import Derived.Test.YtflkefabbdelaaaWdSPrimKinds
import Derived.Test.YtflkefabbdelaaaPPrimKindsx2
set_option linter.unusedVariables false
set_option linter.unusedSimpArgs false
namespace Go.Proofs.Ytflkefabbdelaaa.WdSPrimKinds
open Go.RowKit Base Go.Proofs.YtflkefabbdelaaaW.PrintWords Go.Proofs.YtflkefabbdelaaaW.PrintLast Go.Proofs.YtflkefabbdelaaaW.PrintMore Wd Go.Proofs.Ytflkefabbdelaaa.PPrimKinds
theorem rbits_eq (n s : Int) (h0 : -9223372036854775808 ≤ n) (h1 : n < 9223372036854775808) : broadsheetref01_Bits.f 12 n s = some (if sz s then bitv n s else (0, 4)) := by
  unfold broadsheetref01_Bits.f
  rw [ssized_eq, Option.bind_some]
  cases h : sz s with
  | false => rfl
  | true =>
    rw [if_pos rfl, if_pos rfl, half_eq h, Option.bind_some]
    have hh : hf s * 2 = pw s ∧ 128 ≤ hf s ∧ hf s ≤ 9223372036854775808 := by
      rcases sz_cases h with rfl | rfl | rfl | rfl <;> decide
    have hmod : -hf s ≤ n → n < hf s → n % pw s = if 0 ≤ n then n else n + pw s := by
      intro h2 h3
      rcases sz_cases h with rfl | rfl | rfl | rfl
      · have h2 : -128 ≤ n := h2
        have h3 : n < 128 := h3
        show n % 256 = if 0 ≤ n then n else n + 256
        split <;> omega
      · have h2 : -32768 ≤ n := h2
        have h3 : n < 32768 := h3
        show n % 65536 = if 0 ≤ n then n else n + 65536
        split <;> omega
      · have h2 : -2147483648 ≤ n := h2
        have h3 : n < 2147483648 := h3
        show n % 4294967296 = if 0 ≤ n then n else n + 4294967296
        split <;> omega
      · show n % 18446744073709551616 = if 0 ≤ n then n else n + 18446744073709551616
        split <;> omega
    unfold bitv
    generalize n % pw s = l at *
    generalize hf s = f at *
    generalize pw s = p at *
    have hneg : n < 0 → IntKind.u64.wrap (wrap64 (-(wrap64 (n + 1)))) = -(n + 1) := by
      intro hn
      rw [u64_mod]
      unfold wrap64
      omega
    have hpos : 0 ≤ n → IntKind.u64.wrap n = n := by
      intro hn
      rw [u64_mod]
      omega
    by_cases hn : n ≥ 0
    · rw [if_pos hn, hpos hn]
      by_cases hf : n ≥ f
      · rw [if_pos hf, if_neg (by omega)]
        simp [broadsheetref01_Bits.j0]
      · rw [if_neg hf, if_neg (by omega), if_pos (by omega), hmod (by omega) (by omega), if_pos hn]
        simp only [broadsheetref01_Bits.j0]
        rw [if_neg (by decide), if_pos hn, hpos hn]
    · rw [if_neg hn, if_pos (by omega), hneg (by omega)]
      by_cases hf : -(n + 1) ≥ f
      · rw [show decide (-(n + 1) ≥ f) = true from decide_eq_true hf, if_neg (by omega)]
        simp [broadsheetref01_Bits.j0]
      · rw [show decide (-(n + 1) ≥ f) = false from decide_eq_false hf, if_pos (by omega), hmod (by omega) (by omega), if_neg hn]
        simp only [broadsheetref01_Bits.j0]
        rw [if_neg (by decide), if_neg hn, hneg (by omega)]
        congr 2
        rw [u64_mod, u64_mod, u64_mod]
        omega
end Go.Proofs.Ytflkefabbdelaaa.WdSPrimKinds
