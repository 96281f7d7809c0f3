import Derived.Test.YtflkefabbdelaaaPrimP
import Derived.Test.YtflkefabbdelaaaWdSPrimKinds
import Derived.Test.YtflkefabbdelaaaPPrimKindsx1
set_option linter.unusedVariables false
set_option linter.unusedSimpArgs false
namespace Go.Proofs.Ytflkefabbdelaaa.PrimRPrimKinds
open Go.RowKit Base Go.Proofs.YtflkefabbdelaaaW.PrintWords Go.Proofs.YtflkefabbdelaaaW.PrintLast Go.Proofs.YtflkefabbdelaaaW.PrintMore Wd Prim WdSPrimKinds Go.Proofs.Ytflkefabbdelaaa.PPrimKinds
theorem rnumber (k : Int) : broadsheetref05_Number.f k = some (nb k) := by
  unfold broadsheetref05_Number.f nb
  by_cases h : 1 ≤ k
  · rw [if_pos (by omega)]
    congr 1
    rw [decide_eq_decide]
    omega
  · rw [if_neg (by omega), decide_eq_false (fun h' => h h'.1)]
theorem rsize (k : Int) : broadsheetref05_Size.f 12 k = some (ks k) := by
  cases h : nb k with
  | true => rcases nb_cases h with rfl | rfl | rfl | rfl | rfl | rfl | rfl | rfl | rfl <;> kernel_rfl
  | false =>
    have hn := nb_none h
    rw [ks_none h]
    unfold broadsheetref05_Size.f
    rw [if_neg (by omega), show (k == 2) = false from by simp; omega]
    simp only [broadsheetref05_Size.j0]
    rw [if_neg (by decide), if_neg (by omega), show (k == 4) = false from by simp; omega]
    simp only [broadsheetref05_Size.j1]
    rw [if_neg (by decide), if_neg (by omega), if_neg (by omega), show (k == 9) = false from by simp; omega]
    simp only [broadsheetref05_Size.j2]
    rw [if_neg (by decide), if_neg (by omega), if_neg (by omega)]
theorem rsigned (k : Int) : broadsheetref05_Signed.f k = some (sg k) := by
  unfold broadsheetref05_Signed.f sg
  by_cases h3 : k = 3
  · rw [if_pos h3, decide_eq_true (by omega)]
  · by_cases h5 : k = 5
    · rw [if_neg h3, if_pos h5, decide_eq_true (by omega)]
    · by_cases h7 : k = 7
      · rw [if_neg h3, if_neg h5, if_pos h7, decide_eq_true (by omega)]
      · rw [if_neg h3, if_neg h5, if_neg h7]
        congr 1
        rw [Bool.eq_iff_iff]
        simp
        omega
theorem rlow (k n : Int) (h0 : 0 ≤ n) (h1 : n < 18446744073709551616) : broadsheetref05_Low.f 12 k n = some (low k n) := by
  unfold broadsheetref05_Low.f low
  rw [rnumber, Option.bind_some]
  cases h : nb k with
  | false => rfl
  | true => rw [if_pos rfl, if_pos rfl, rsize, Option.bind_some, rlow_eq n (ks k) (ks_sz h) h0 h1, Option.bind_some]
end Go.Proofs.Ytflkefabbdelaaa.PrimRPrimKinds
