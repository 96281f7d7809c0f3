import Derived.Test.YtmlfnlmdnhblmaaRecF
set_option linter.unusedVariables false
set_option linter.unusedSimpArgs false
namespace Go.Proofs.Ytmlfnlmdnhblmaa.Rec
open Go.RowKit Base Sp Flat Go.Proofs.YtmlfnlmdnhblmaaW.PrintWords Go.Proofs.YtmlfnlmdnhblmaaW.PrintLast Go.Proofs.YtmlfnlmdnhblmaaW.PrintMore Wd Al Buf Smp
/-- The example's sample. -/
def exs : Smp := ⟨1, 0, 0, 0, 7, List.replicate 17 0, ⟨#[97, 98, 99, 100]⟩, by decide⟩
theorem exs_put : (rput exs).1.size = 56 ∧ (rput exs).2 = 0 := by
  have h1 : bad exs = false := by decide
  have h2 : ¬ 512 < exs.data.size := by decide
  have e : rput exs = (tx (recb exs), 0) := by unfold rput; rw [if_neg (by rw [h1]; decide), if_neg h2]
  rw [e]
  refine ⟨?_, rfl⟩
  have h3 := recb_len exs
  have h4 : rsz (exs.data.size : Int) = 56 := by decide
  rw [h4] at h3
  show (recb exs).length = 56
  omega
set_option maxRecDepth 20000 in
set_option maxHeartbeats 2000000 in
theorem awake (w : World) : Calls Try.prog 6 #[] w fun e w' => e = .returned (.bool true) ∧ Below w.heap.size w w' := by
  have HP := fun w => put exs w
  obtain ⟨e1, e2⟩ := exs_put
  generalize rput exs = r at *
  obtain ⟨r1, r2⟩ := r
  dsimp only at e1 e2
  subst e2
  have hc : (cells exs).toArray = #[.int .i64 1, .int .i64 0, .int .u64 0, .int .u64 0, .int .u64 7, .int .u8 0, .int .u8 0, .int .u8 0, .int .u8 0, .int .u8 0, .int .u8 0, .int .u8 0, .int .u8 0, .int .u8 0, .int .u8 0, .int .u8 0, .int .u8 0, .int .u8 0, .int .u8 0, .int .u8 0, .int .u8 0, .int .u8 0, .string ⟨#[97, 98, 99, 100]⟩] := by kernel_rfl
  rw [hc] at HP
  clear hc
  have HS0 := fun w => size 0 (by decide) w
  have HS4 := fun w => size 4 (by decide) w
  rw [show rsz 0 = 48 from by decide] at HS0
  rw [show rsz 4 = 56 from by decide] at HS4
  have hz : (r1.size : Int) = 56 := by omega
  clear e1
  go_enter Try.func6, Try.ntmps6
  go_wp2_with fail
  refine (HP _).mono ?_
  rintro e w1 ⟨rfl, b1⟩
  go_wp2_with fail
  refine (HS0 _).mono ?_
  rintro e w2 ⟨rfl, b2⟩
  go_wp2_with fail
  refine (HS4 _).mono ?_
  rintro e w3 ⟨rfl, b3⟩
  go_wp2
  go_ret
  exact ⟨rfl, bstep (bstep b1 b2) b3⟩
set_option maxRecDepth 20000 in
set_option maxHeartbeats 4000000 in
theorem puts {G : Nat → Prop} {w : World} {v : Value} {xs : List Smp} (h : Rd ks w G v xs) (x : Smp) (room : Int) (h0 : -9223372036854775808 ≤ room) (h1 : room < 9223372036854775808) :
    Calls Try.prog 3 #[.agg (cells x).toArray, v, .int .i64 room] w fun e w' => e = .returned (.bool true) ∧ Below w.heap.size w w' := by
  have b0 : Below w.heap.size w (w.alloc (.cells (cells x).toArray 26)) := (Below.refl _ _).alloc (Nat.le_refl _) _
  have n0 := heap_alloc_new w (.cells (cells x).toArray 26)
  have HA := Lib.hid h
  have HR := Lib.hid (And.intro h0 h1)
  have HP := fun w => put x w
  have HQ := fun w => rputs x w
  have HW := fun w => awake w
  generalize rput x = r at HP HQ
  obtain ⟨r1, r2⟩ := r
  dsimp only at HP HQ
  obtain ⟨W0, hW0⟩ : ∃ W0, W0 = w.alloc (.cells (cells x).toArray 26) := ⟨_, rfl⟩
  rw [← hW0] at b0 n0
  have HM := much (rd_below h b0)
  clear h h0 h1
  go_enter Try.func3, Try.ntmps3
  go_wp2_with fail
  rw [← hW0]
  clear hW0
  refine HM.mono ?_
  rintro e w1 ⟨m, rfl, hm, b1⟩
  have n1 := blk_below n0 b1
  have c22 := (BoxC.of n1).c22
  have bb1 := bstep b0 b1
  clear n0 b0 b1 HM
  cases m with
  | true =>
    clear hm
    go_wp2_with fail
    refine (HW _).mono ?_
    rintro e w2 ⟨rfl, b2⟩
    go_wp2
    go_ret
    exact ⟨rfl, bstep bb1 b2⟩
  | false =>
    have hl := hm rfl
    clear hm
    by_cases hd : (2000 : Int) < (x.data.size : Int)
    · go_wp2_with fail
      refine (HW _).mono ?_
      rintro e w2 ⟨rfl, b2⟩
      go_wp2
      go_ret
      exact ⟨rfl, bstep bb1 b2⟩
    · have HL := Lib.hid hl
      clear hl
      have r9 := box_range n1
      go_wp2_with (first | ((with_reducible refine gate_dst (N := 25) rfl ?_); refine wpList_load_mid rfl 26 (.tmp 3) rfl w.heap.size 0 rfl (cells x) _ r9 Try.underlying26 rfl (size23 x) ?_))
      refine (HP _).mono ?_
      rintro e w2 ⟨rfl, b2⟩
      have n2 := blk_below n1 b2
      have bb2 := bstep bb1 b2
      clear n1 bb1 b2 r9 c22
      have r9 := box_range n2
      go_wp2_with (first | ((with_reducible refine gate_dst (N := 30) rfl ?_); refine wpList_load_mid rfl 26 (.tmp 3) rfl w.heap.size 0 rfl (cells x) _ r9 Try.underlying26 rfl (size23 x) ?_))
      refine (HQ _).mono ?_
      rintro e w3 ⟨rfl, b3⟩
      have bb3 := bstep bb2 b3
      clear n2 bb2 b3 r9
      have HF := fit (rd_below HA.out bb3) room HR.out.1 HR.out.2 HL.out
      go_wp2_with fail
      refine HF.mono ?_
      rintro e w4 ⟨rfl, b4⟩
      have bb4 := bstep bb3 b4
      clear bb3 b4 HF
      have HF := rfit (rd_below HA.out bb4) room HL.out
      go_wp2_with fail
      refine HF.mono ?_
      rintro e w5 ⟨rfl, b5⟩
      have bb5 := bstep bb4 b5
      clear bb4 b5 HF
      by_cases hro : (100000 : Int) < room
      · go_wp2_with fail
        refine (HW _).mono ?_
        rintro e w6 ⟨rfl, b6⟩
        go_wp2
        go_ret
        exact ⟨rfl, bstep bb5 b6⟩
      · have HS := fun w => size room (by omega) w
        have HT := fun w => rsize room (by omega) w
        go_wp2_with fail
        refine (HS _).mono ?_
        rintro e w6 ⟨rfl, b6⟩
        go_wp2_with fail
        refine (HT _).mono ?_
        rintro e w7 ⟨rfl, b7⟩
        go_wp2_with fail
        refine (HW _).mono ?_
        rintro e w8 ⟨rfl, b8⟩
        go_wp2
        go_ret
        exact ⟨rfl, bstep (bstep (bstep bb5 b6) b7) b8⟩
end Go.Proofs.Ytmlfnlmdnhblmaa.Rec
