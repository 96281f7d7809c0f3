import Derived.Test.YtflkefabbdelaaaPrim4
import Derived.Test.YtflkefabbdelaaaPrimRPrimKinds
import Derived.Test.YtflkefabbdelaaaWdSBPrimKinds
import Derived.Test.YtflkefabbdelaaaPPrimKindsx2
set_option linter.unusedVariables false
set_option linter.unusedSimpArgs false
namespace Go.Proofs.Ytflkefabbdelaaa.Prim
open Go.RowKit Base Go.Proofs.YtflkefabbdelaaaW.PrintWords Go.Proofs.YtflkefabbdelaaaW.PrintLast Go.Proofs.YtflkefabbdelaaaW.PrintMore Wd PrimRPrimKinds Go.Proofs.Ytflkefabbdelaaa.PPrimKinds
theorem rup (k n : Int) (h0 : 0 ≤ n) (h1 : n < 18446744073709551616) : broadsheetref05_Up.f 12 k n = some (up k n) := by
  unfold broadsheetref05_Up.f up
  rw [rsigned, Option.bind_some]
  cases h : sg k with
  | true => rw [if_pos rfl, if_pos rfl, rsize, Option.bind_some, WdSPrimKinds.rsign_eq n (ks k) h0 h1, Option.bind_some, ks_sz (sg_nb h), if_pos rfl, u64_mod]
  | false => rw [if_neg (by decide), if_neg (by decide), rlow k n h0 h1, Option.bind_some]
theorem rmay (k n : Int) (h0 : 0 ≤ n) (h1 : n < 18446744073709551616) : broadsheetref05_May.f 12 k n = some (may k n) := by
  unfold broadsheetref05_May.f may
  by_cases hk : k = 1
  · subst hk
    rw [if_pos rfl]
    congr 1
    show _ = ((up 1 n == n) && decide (n ≤ 1))
    have e : up 1 n = n % 256 := rfl
    rw [e, Bool.eq_iff_iff]
    simp
    omega
  · have hk2 : (k != 1) = true := by simpa using hk
    rw [if_neg hk, rnumber, Option.bind_some, hk2]
    cases h : nb k with
    | false => rfl
    | true =>
      rw [if_pos rfl, rsigned, Option.bind_some]
      cases hs : sg k with
      | false =>
        rw [if_neg (by decide), rlow k n h0 h1, Option.bind_some]
        have e : up k n = low k n := by unfold up; rw [hs]; rfl
        rw [e]
        simp
      | true =>
        have hm := may_signed hs h0 h1
        rw [if_pos rfl, rsize, Option.bind_some, wrap_i64 h0 h1, WdSPrimKinds.rbits_eq _ _ (by unfold i64; split <;> omega) (by unfold i64; split <;> omega), ks_sz h, if_pos rfl, Option.bind_some]
        unfold bitv
        congr 1
        by_cases hb : -hf (ks k) ≤ i64 n ∧ i64 n < hf (ks k)
        · rw [if_pos hb, hm.2 hb]
          simp
        · rw [if_neg hb]
          have : up k n ≠ n := fun h => hb (hm.1 h)
          simp [this]
set_option maxRecDepth 20000 in
theorem awake (w : World) : Calls Try.prog 18 #[] w fun e w' => e = .returned (.bool true) ∧ Below w.heap.size w w' := by
  have HO := fun w => of_ 2 1 false 256 ⟨#[]⟩ (by decide) (by decide) w
  rw [show ofb 2 1 false 256 ⟨#[]⟩ = false from by kernel_rfl] at HO
  generalize ofv 2 1 false 256 ⟨#[]⟩ = v at HO
  have HD := fun w => datum 3 65535 (by decide) (by decide) w
  rw [show dat 3 65535 = (1, true, 1) from by kernel_rfl] at HD
  go_enter Try.func18, Try.ntmps18
  go_wp2_with fail
  refine (HO _).mono ?_
  rintro e w1 ⟨rfl, b1⟩
  go_wp2_with fail
  refine (HD _).mono ?_
  rintro e w2 ⟨rfl, b2⟩
  go_wp2
  go_ret
  exact ⟨rfl, bstep b1 b2⟩
set_option maxRecDepth 20000 in
set_option maxHeartbeats 1000000 in
theorem kinds (k n : Int) (h0 : 0 ≤ n) (h1 : n < 18446744073709551616) (w : World) : Calls Try.prog 3 #[.int .i64 k, .int .u64 n] w fun e w' => e = .returned (.bool true) ∧ Below w.heap.size w w' := by
  have P1 := fun w => number k w
  have P2 := fun w => size k w
  have P3 := fun w => signed k w
  have P4 := fun w => may_ k n h0 h1 w
  have P5 := fun w => low_ k n h0 h1 w
  have P6 := fun w => up_ k n h0 h1 w
  have R1 : ∀ w, Calls Try.prog 7 #[.int .i64 k] w fun e w' => e = .returned (.bool (nb k)) ∧ Below w.heap.size w w' := fun w => (broadsheetref05_Number.calls k _ w (rnumber k)).mono fun _ _ h => ⟨h.1, drawn_below h.2⟩
  have R2 : ∀ w, Calls Try.prog 9 #[.int .i64 k] w fun e w' => e = .returned (.int .i64 (ks k)) ∧ Below w.heap.size w w' := fun w => (broadsheetref05_Size.calls 12 k _ w (rsize k)).mono fun _ _ h => ⟨h.1, drawn_below h.2⟩
  have R3 : ∀ w, Calls Try.prog 11 #[.int .i64 k] w fun e w' => e = .returned (.bool (sg k)) ∧ Below w.heap.size w w' := fun w => (broadsheetref05_Signed.calls k _ w (rsigned k)).mono fun _ _ h => ⟨h.1, drawn_below h.2⟩
  have R4 : ∀ w, Calls Try.prog 13 #[.int .i64 k, .int .u64 n] w fun e w' => e = .returned (.bool (may k n)) ∧ Below w.heap.size w w' := fun w => (broadsheetref05_May.calls 12 k n _ w (rmay k n h0 h1)).mono fun _ _ h => ⟨h.1, drawn_below h.2⟩
  have R5 : ∀ w, Calls Try.prog 15 #[.int .i64 k, .int .u64 n] w fun e w' => e = .returned (.int .u64 (low k n)) ∧ Below w.heap.size w w' := fun w => (broadsheetref05_Low.calls 12 k n _ w (rlow k n h0 h1)).mono fun _ _ h => ⟨h.1, drawn_below h.2⟩
  have R6 : ∀ w, Calls Try.prog 17 #[.int .i64 k, .int .u64 n] w fun e w' => e = .returned (.int .u64 (up k n)) ∧ Below w.heap.size w w' := fun w => (broadsheetref05_Up.calls 12 k n _ w (rup k n h0 h1)).mono fun _ _ h => ⟨h.1, drawn_below h.2⟩
  clear h0 h1
  generalize nb k = x1 at *
  generalize ks k = x2 at *
  generalize sg k = x3 at *
  generalize may k n = x4 at *
  generalize low k n = x5 at *
  generalize up k n = x6 at *
  go_enter Try.func3, Try.ntmps3
  go_wp2_with fail
  refine (P1 _).mono ?_
  rintro e w' ⟨rfl, rfl⟩
  have b := Below.refl w.heap.size w
  go_wp2_with fail
  refine (R1 _).mono ?_
  rintro e w1 ⟨rfl, b1⟩
  have b := bstep b b1
  clear b1
  go_wp2_with fail
  refine (P2 _).mono ?_
  rintro e w1 ⟨rfl, b1⟩
  have b := bstep b b1
  clear b1
  go_wp2_with fail
  refine (R2 _).mono ?_
  rintro e w1 ⟨rfl, b1⟩
  have b := bstep b b1
  clear b1
  go_wp2_with fail
  refine (P3 _).mono ?_
  rintro e w1 ⟨rfl, b1⟩
  have b := bstep b b1
  clear b1
  go_wp2_with fail
  refine (R3 _).mono ?_
  rintro e w1 ⟨rfl, b1⟩
  have b := bstep b b1
  clear b1
  go_wp2_with fail
  refine (P4 _).mono ?_
  rintro e w1 ⟨rfl, b1⟩
  have b := bstep b b1
  clear b1
  go_wp2_with fail
  refine (R4 _).mono ?_
  rintro e w1 ⟨rfl, b1⟩
  have b := bstep b b1
  clear b1
  go_wp2_with fail
  refine (P5 _).mono ?_
  rintro e w1 ⟨rfl, b1⟩
  have b := bstep b b1
  clear b1
  go_wp2_with fail
  refine (R5 _).mono ?_
  rintro e w1 ⟨rfl, b1⟩
  have b := bstep b b1
  clear b1
  go_wp2_with fail
  refine (P6 _).mono ?_
  rintro e w1 ⟨rfl, b1⟩
  have b := bstep b b1
  clear b1
  go_wp2_with fail
  refine (R6 _).mono ?_
  rintro e w1 ⟨rfl, b1⟩
  have b := bstep b b1
  clear b1
  go_wp2_with fail
  refine (awake _).mono ?_
  rintro e w1 ⟨rfl, b1⟩
  go_wp2
  go_ret
  exact ⟨rfl, bstep b b1⟩
end Go.Proofs.Ytflkefabbdelaaa.Prim
