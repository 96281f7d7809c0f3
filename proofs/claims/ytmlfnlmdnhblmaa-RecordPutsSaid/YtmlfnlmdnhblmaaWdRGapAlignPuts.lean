import Derived.Test.YtmlfnlmdnhblmaaAl
import Derived.Test.YtmlfnlmdnhblmaaPRecordPutsx2
set_option linter.unusedVariables false
set_option linter.unusedSimpArgs false
namespace Go.Proofs.Ytmlfnlmdnhblmaa.RGapAlignPuts
open Go.RowKit Base Go.Proofs.YtmlfnlmdnhblmaaW.PrintWords Go.Proofs.YtmlfnlmdnhblmaaW.PrintLast Go.Proofs.YtmlfnlmdnhblmaaW.PrintMore Wd Al Go.Proofs.Ytmlfnlmdnhblmaa.PRecordPuts
theorem rsized (s : Int) : broadsheetref01_Sized.f s = some (sz s) := by
  unfold broadsheetref01_Sized.f sz
  by_cases h1 : s = 1
  · simp [h1]
  · by_cases h2 : s = 2
    · simp [h2]
    · by_cases h4 : s = 4
      · simp [h4]
      · simp [h1, h2, h4]
theorem rgap_loop (a s : Int) (h0 : 0 ≤ a) (hs : sz s = true) : ∀ (j n k : Nat), ((n + j : Nat) : Int) = (-a) % s → broadsheetref02_Gap.l0 (j + 1 + k) a s (n : Int) = some ((-a) % s)
  | 0, n, k, h => by
    rw [show 0 + 1 + k = k + 1 from by omega]
    simp only [broadsheetref02_Gap.l0]
    have hc := sz_cases hs
    have hw : wrap64 (Int.tmod a 8 + n) = a % 8 + n := by
      rw [Int.tmod_eq_emod_of_nonneg h0]
      unfold wrap64
      rcases hc with rfl | rfl | rfl | rfl <;> omega
    rw [hw, if_neg (by omega), Int.tmod_eq_emod_of_nonneg (by omega), if_pos (by rcases hc with rfl | rfl | rfl | rfl <;> omega)]
    congr 1
  | j + 1, n, k, h => by
    rw [show j + 1 + 1 + k = (j + 1 + k) + 1 from by omega]
    simp only [broadsheetref02_Gap.l0]
    have hc := sz_cases hs
    have hw : wrap64 (Int.tmod a 8 + n) = a % 8 + n := by
      rw [Int.tmod_eq_emod_of_nonneg h0]
      unfold wrap64
      rcases hc with rfl | rfl | rfl | rfl <;> omega
    have hw2 : wrap64 ((n : Int) + 1) = ((n + 1 : Nat) : Int) := by
      unfold wrap64
      rcases hc with rfl | rfl | rfl | rfl <;> omega
    rw [hw, if_neg (by omega), Int.tmod_eq_emod_of_nonneg (by omega), if_neg (by rcases hc with rfl | rfl | rfl | rfl <;> omega), hw2]
    exact rgap_loop a s h0 hs j (n + 1) k (by omega)
theorem rgap_eq (a s : Int) (k : Nat) (hk : 12 ≤ k) : broadsheetref02_Gap.f k a s = some (gapv a s) := by
  obtain ⟨k, rfl⟩ : ∃ m, k = m + 1 := ⟨k - 1, by omega⟩
  unfold broadsheetref02_Gap.f gapv
  rw [rsized]
  by_cases h : a < 0
  · rw [if_pos h, if_pos h]
    simp only [broadsheetref02_Gap.j0]
    rfl
  · rw [if_neg h, if_neg h, Option.bind_some]
    cases hs : sz s with
    | false =>
      simp only [broadsheetref02_Gap.j0]
      rfl
    | true =>
      simp only [broadsheetref02_Gap.j0]
      rw [if_pos trivial]
      have hg : 0 ≤ (-a) % s ∧ (-a) % s ≤ 7 := by
        rcases sz_cases hs with rfl | rfl | rfl | rfl <;> omega
      have := rgap_loop a s (by omega) hs ((-a) % s).toNat 0 (k - 1 - ((-a) % s).toNat) (by omega)
      rw [show ((-a) % s).toNat + 1 + (k - 1 - ((-a) % s).toNat) = k from by omega] at this
      exact this
theorem rgap (a s : Int) (w : World) : Calls Try.prog 48 #[.int .i64 a, .int .i64 s] w fun e w' => e = .returned (.int .i64 (gapv a s)) ∧ Below w.heap.size w w' :=
  (broadsheetref02_Gap.calls 12 a s _ w (rgap_eq a s 12 (by decide))).mono fun _ _ h => ⟨h.1, drawn_below h.2⟩
end Go.Proofs.Ytmlfnlmdnhblmaa.RGapAlignPuts
