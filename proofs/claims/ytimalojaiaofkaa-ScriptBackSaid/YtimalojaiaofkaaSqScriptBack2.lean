import Derived.Test.YtimalojaiaofkaaPScriptTakesx0
import Derived.Test.YtimalojaiaofkaaWLast
import Derived.Test.YtimalojaiaofkaaWMore
import Derived.KernelRfl
import Derived.Test.YtimalojaiaofkaaPScriptTakesx2
import Derived.Test.YtimalojaiaofkaaSqScriptBack1
set_option linter.unusedVariables false
set_option linter.unusedSimpArgs false
namespace Go.Proofs.Ytimalojaiaofkaa.PScriptTakes
open Go.RowKit Go.Proofs.YtimalojaiaofkaaW.PrintWords Go.Proofs.YtimalojaiaofkaaW.PrintLast Go.Proofs.YtimalojaiaofkaaW.PrintMore
attribute [local go_sem] max2_int min2_int max_two min_two max_three min_three max_four min_four   -- for this text's walks alone

/-! ### broadsheetref01_Take: function 106 -/
mutual
def broadsheetref01_Take.j0 : Nat → ByteArray → Int → Int → Bool → Option (Int × Int)
  | 0, _, _, _, _ => none
  | k + 1, x0, x1, x2, x20 => if x20 = true then (some (0, 7)) else (if (wrap64 ((x0.size : Int) - x1)) < x2 then (some (0, 2)) else (broadsheetref01_Take.l0 k x0 x1 0 (wrap64 (x2 - 1))))
def broadsheetref01_Take.l0 : Nat → ByteArray → Int → Int → Int → Option (Int × Int)
  | 0, _, _, _, _ => none
  | k + 1, x0, x1, x8, x9 => if x9 ≥ 0 then (if 0 ≤ (wrap64 (x1 + x9)) then (if (wrap64 (x1 + x9)) < (x0.size : Int) then (broadsheetref01_Take.l0 k x0 x1 (IntKind.u64.wrap ((IntKind.u64.wrap (x8 * 256)) + (IntKind.u64.wrap (bt x0 (wrap64 (x1 + x9)))))) (wrap64 (x9 - 1))) else (none)) else (none)) else (some (x8, 0))
end
def broadsheetref01_Take.f (k : Nat) (a0 : ByteArray) (a1 : Int) (a2 : Int) : Option (Int × Int) := (broadsheetref01_Sized.f a2).bind fun t165 => (if t165 = true then (if a1 < 0 then (broadsheetref01_Take.j0 k a0 a1 a2 true) else (broadsheetref01_Take.j0 k a0 a1 a2 (decide (a1 > (a0.size : Int))))) else (some (0, 4)))
theorem broadsheetref01_Take.mono_l : ∀ k, (∀ y0 y1 y2 y3, LeO (broadsheetref01_Take.j0 k y0 y1 y2 y3) (broadsheetref01_Take.j0 (k + 1) y0 y1 y2 y3)) ∧ (∀ y0 y1 y2 y3, LeO (broadsheetref01_Take.l0 k y0 y1 y2 y3) (broadsheetref01_Take.l0 (k + 1) y0 y1 y2 y3))
  | 0 => ⟨fun _ _ _ _ r h => by simp [broadsheetref01_Take.j0] at h, fun _ _ _ _ r h => by simp [broadsheetref01_Take.l0] at h⟩
  | k + 1 => by
    obtain ⟨ih0, ih1⟩ := broadsheetref01_Take.mono_l k
    refine ⟨?_, ?_⟩
    · intro y0 y1 y2 y3
      unfold broadsheetref01_Take.j0
      repeat' first
      | (with_reducible exact ih0 _ _ _ _)
      | (with_reducible exact ih1 _ _ _ _)
      | (with_reducible exact LeO.refl _)
      | (with_reducible exact LeO.none _)
      | (with_reducible refine LeO.ite ?_ ?_)
      | (with_reducible refine LeO.bind ?_ (fun _ => ?_))
      | exact ih0 _ _ _ _
      | exact ih1 _ _ _ _
      | exact LeO.none _
      | refine LeO.ite ?_ ?_
      | refine LeO.bind ?_ (fun _ => ?_)
    · intro y0 y1 y2 y3
      unfold broadsheetref01_Take.l0
      repeat' first
      | (with_reducible exact ih0 _ _ _ _)
      | (with_reducible exact ih1 _ _ _ _)
      | (with_reducible exact LeO.refl _)
      | (with_reducible exact LeO.none _)
      | (with_reducible refine LeO.ite ?_ ?_)
      | (with_reducible refine LeO.bind ?_ (fun _ => ?_))
      | exact ih0 _ _ _ _
      | exact ih1 _ _ _ _
      | exact LeO.none _
      | refine LeO.ite ?_ ?_
      | refine LeO.bind ?_ (fun _ => ?_)
theorem broadsheetref01_Take.mono : ∀ a0 a1 a2 k, LeO (broadsheetref01_Take.f k a0 a1 a2) (broadsheetref01_Take.f (k + 1) a0 a1 a2) := by
  intro a0 a1 a2 k
  obtain ⟨ih0, ih1⟩ := broadsheetref01_Take.mono_l k
  unfold broadsheetref01_Take.f
  repeat' first
      | (with_reducible exact ih0 _ _ _ _)
      | (with_reducible exact ih1 _ _ _ _)
      | (with_reducible exact LeO.refl _)
      | (with_reducible exact LeO.none _)
      | (with_reducible refine LeO.ite ?_ ?_)
      | (with_reducible refine LeO.bind ?_ (fun _ => ?_))
      | exact ih0 _ _ _ _
      | exact ih1 _ _ _ _
      | exact LeO.none _
      | refine LeO.ite ?_ ?_
      | refine LeO.bind ?_ (fun _ => ?_)
set_option maxHeartbeats 8000000 in
set_option maxRecDepth 100000 in
theorem broadsheetref01_Take.calls (k : Nat) (a0 : ByteArray) (a1 : Int) (a2 : Int) (r1 : Int) (r2 : Int) (w : World) (h : broadsheetref01_Take.f k a0 a1 a2 = some (r1, r2)) :
    Calls Try.prog 106 #[.string a0, .int .i64 a1, .int .i64 a2] w fun e w' => e = .returned (.tuple #[.int .u64 r1, .int .i64 r2]) ∧ Drawn0 w w' := by
  have H : ((broadsheetref01_Sized.f a2).bind fun t165 => (if t165 = true then (if a1 < 0 then (broadsheetref01_Take.j0 k a0 a1 a2 true) else (broadsheetref01_Take.j0 k a0 a1 a2 (decide (a1 > (a0.size : Int))))) else (some (0, 4)))) = some (r1, r2) := h
  clear h
  replace H := Option.bind_eq_some_iff.mp H
  obtain ⟨t165, A40, H⟩ := H
  replace H : (if t165 = true then (if a1 < 0 then (broadsheetref01_Take.j0 k a0 a1 a2 true) else (broadsheetref01_Take.j0 k a0 a1 a2 (decide (a1 > (a0.size : Int))))) else (some (0, 4))) = some (r1, r2) := H
  have A4 := Aside0.mk A40
  clear A40
  by_cases c5 : t165 = true
  · subst c5
    have H1 : (if a1 < 0 then (broadsheetref01_Take.j0 k a0 a1 a2 true) else (broadsheetref01_Take.j0 k a0 a1 a2 (decide (a1 > (a0.size : Int))))) = some (r1, r2) := by rw [if_pos rfl] at H; exact H
    clear H
    have H := H1
    clear H1
    have HC6 := Aside0.mk H
    clear H
    go_enter Try.func106, Try.ntmps106
    go_upto_region 3 with (first | ((with_reducible refine gate_callee (f := 103) rfl ?_); refine goesL_ (some 11) rfl rfl Try.func103 (by kernel_rfl) rfl #[.int .i64 a2] rfl (by (try simp only [List.map_toArray, List.map_cons, List.map_nil]); first | done | rfl | (simp only [List.length_drop, List.length_take]; rfl)) ?_; (with_reducible refine (broadsheetref01_Sized.calls a2 true _ A4.out).mono ?_); rintro e w' ⟨rfl, ⟨nd, rfl⟩⟩; refine ⟨_, rfl, ?_⟩))
    (try simp only [Act.put, List.setIfInBounds_toArray, List.set_cons_zero, List.set_cons_succ])
    go_cut [20] (fun v20 wc => ∃ (kq : Nat) (x20_5 : Bool), v20 = .bool x20_5 ∧ Aside0 (broadsheetref01_Take.j0 kq a0 a1 a2 x20_5 = some (r1, r2)) ∧ Aside0 (kq ≤ k) ∧ Drawn0 w wc)
    case first =>
      have H := HC6.out
      clear HC6
      by_cases c7 : a1 < 0
      · rw [if_pos c7] at H
        have c7b0 : decide (a1 < 0) = true := decide_eq_true c7
        clear c7
        (first | rw [c7b0] | (simp only [i64_w, i32_w]; rw [c7b0]) | skip)
        have H' := Aside0.mk H
        clear H
        go_wp2
        go_meet
        case rel => exact ⟨_, (true), (by first | rfl | (simp; done) | (simp [*]; done)), H', ⟨by first | omega | exact Nat.le_refl _⟩, by repeat (first | exact Drawn0.refl _ | apply Drawn0.step)⟩
      · rw [if_neg c7] at H
        have c7b0 : decide (a1 < 0) = false := decide_eq_false c7
        clear c7
        (first | rw [c7b0] | (simp only [i64_w, i32_w]; rw [c7b0]) | skip)
        have H' := Aside0.mk H
        clear H
        go_wp2
        go_meet
        case rel => exact ⟨_, (decide (a1 > (a0.size : Int))), (by first | rfl | (simp; done) | (simp [*]; done)), H', ⟨by first | omega | exact Nat.le_refl _⟩, by repeat (first | exact Drawn0.refl _ | apply Drawn0.step)⟩
    case rest =>
      clear HC6
      try clear c1
      try clear p2
      try clear c5
      try clear c7
      try clear c7b0
      obtain ⟨kq, x20_5, rfl, HA, HJ5, ⟨mc5, rfl⟩⟩ := hcut
      cases kq with
      | zero => exact absurd HA.out (by simp [broadsheetref01_Take.j0])
      | succ kj5 =>
        have H := HA.out
        clear HA
        simp only [broadsheetref01_Take.j0] at H
        by_cases c8 : x20_5 = true
        · subst c8
          have H1 : (some (0, 7)) = some (r1, r2) := by rw [if_pos rfl] at H; exact H
          clear H
          have H := H1
          clear H1
          simp only [Option.some.injEq, Prod.mk.injEq] at H
          obtain ⟨rfl, rfl⟩ := H
          go_wp2
          go_ret2
          exact ⟨by first | rfl | (simp; done) | (simp [*]; done), by repeat (first | exact Drawn0.refl _ | apply Drawn0.step)⟩
        · replace c8 := Bool.eq_false_iff.mpr c8
          subst c8
          have H1 : (if (wrap64 ((a0.size : Int) - a1)) < a2 then (some (0, 2)) else (broadsheetref01_Take.l0 kj5 a0 a1 0 (wrap64 (a2 - 1)))) = some (r1, r2) := by rw [if_neg (show ¬ (false = true) by decide)] at H; exact H
          clear H
          have H := H1
          clear H1
          by_cases c9 : (wrap64 ((a0.size : Int) - a1)) < a2
          · rw [if_pos c9] at H
            have c9b0 : decide ((wrap64 ((a0.size : Int) - a1)) < a2) = true := decide_eq_true c9
            clear c9
            simp only [Option.some.injEq, Prod.mk.injEq] at H
            obtain ⟨rfl, rfl⟩ := H
            go_wp2
            go_ret2
            exact ⟨by first | rfl | (simp; done) | (simp [*]; done), by repeat (first | exact Drawn0.refl _ | apply Drawn0.step)⟩
          · rw [if_neg c9] at H
            have c9b0 : decide ((wrap64 ((a0.size : Int) - a1)) < a2) = false := decide_eq_false c9
            clear c9
            have H' := Aside0.mk H
            clear H
            go_wp2
            go_loopg [8, 9] kj5 (fun kq v8 v9 w' => ∃ (x8_2 : Int) (x9_2 : Int), v8 = .int .u64 x8_2 ∧ v9 = .int .i64 x9_2 ∧ Aside0 (broadsheetref01_Take.l0 kq a0 a1 x8_2 x9_2 = some (r1, r2)) ∧ Aside0 (kq ≤ kj5) ∧ Drawn0 w w')
            case atStart => exact ⟨(0), (wrap64 (a2 - 1)), (by first | rfl | (simp; done) | (simp [*]; done)), (by first | rfl | (simp; done) | (simp [*]; done)), H', ⟨Nat.le_refl _⟩, by repeat (first | exact Drawn0.refl _ | apply Drawn0.step)⟩
            case round =>
              clear H'
              try clear c1
              try clear p2
              try clear c5
              try clear p6
              try clear c7
              try clear c7b0
              try clear c8
              try clear c9
              try clear c9b0
              try clear p2
              obtain ⟨x8_2, x9_2, rfl, rfl, HA, HK2, ⟨m2, rfl⟩⟩ := hrel
              cases gk with
              | zero => exact absurd HA.out (by simp [broadsheetref01_Take.l0])
              | succ k2 =>
                have H := HA.out
                clear HA
                simp only [broadsheetref01_Take.l0] at H
                by_cases c10 : x9_2 ≥ 0
                · rw [if_pos c10] at H
                  have c10b0 : decide (0 ≤ x9_2) = true := decide_eq_true c10
                  clear c10
                  obtain ⟨ji11, hji11⟩ : ∃ j_ : Int, (wrap64 (a1 + x9_2)) = j_ := ⟨_, rfl⟩
                  replace H : (if 0 ≤ (ji11) then (if (ji11) < (a0.size : Int) then (broadsheetref01_Take.l0 k2 a0 a1 (IntKind.u64.wrap ((IntKind.u64.wrap (x8_2 * 256)) + (IntKind.u64.wrap (bt a0 (ji11))))) (wrap64 (x9_2 - 1))) else (none)) else (none)) = some (r1, r2) := by first | (rw [hji11] at H; exact H) | (simp only [hji11] at H ⊢; exact H)
                  have hji11w : (IntKind.i64.wrap (a1 + x9_2)) = ji11 := (i64_w _).trans hji11
                  by_cases c12 : 0 ≤ (ji11)
                  · rw [if_pos c12] at H
                    have c12b0 : decide (0 ≤ (ji11)) = true := decide_eq_true c12
                    clear c12
                    by_cases c13 : (ji11) < (a0.size : Int)
                    · rw [if_pos c13] at H
                      have c13b0 : decide ((ji11) < (a0.size : Int)) = true := decide_eq_true c13
                      clear c13
                      have H' := Aside0.mk H
                      clear H
                      have p14 : 0 ≤ ((ji11) : Int) := of_decide_eq_true (by first | (with_reducible assumption) | assumption)
                      have q14 : (ji11) < (a0.size : Int) := of_decide_eq_true (by first | (with_reducible assumption) | assumption)
                      have hx14 := bt_at a0 (ji11)
                      replace p14 := eq_true p14
                      replace q14 := eq_true q14
                      go_wp2
                      go_roundg k2
                      case measure => have := HJ5.out; have := HK2.out; omega
                      case rel => exact ⟨(IntKind.u64.wrap ((IntKind.u64.wrap (x8_2 * 256)) + (IntKind.u64.wrap (bt a0 (ji11))))), (wrap64 (x9_2 - 1)), (by first | rfl | (simp; done) | (simp only [← hji11] <;> (first | rfl | simp)) | (simp [*]; done)), (by first | rfl | (simp; done) | (simp [*]; done)), H', ⟨by have := HJ5.out; have := HK2.out; omega⟩, by repeat (first | exact Drawn0.refl _ | apply Drawn0.step)⟩
                    · rw [if_neg c13] at H
                      exact absurd H (by simp)
                  · rw [if_neg c12] at H
                    exact absurd H (by simp)
                · rw [if_neg c10] at H
                  have c10b0 : decide (0 ≤ x9_2) = false := decide_eq_false c10
                  clear c10
                  simp only [Option.some.injEq, Prod.mk.injEq] at H
                  obtain ⟨rfl, rfl⟩ := H
                  go_wp2
                  go_ret2
                  exact ⟨by first | rfl | (simp; done) | (simp [*]; done), by repeat (first | exact Drawn0.refl _ | apply Drawn0.step)⟩
  · replace c5 := Bool.eq_false_iff.mpr c5
    subst c5
    have H1 : (some (0, 4)) = some (r1, r2) := by rw [if_neg (show ¬ (false = true) by decide)] at H; exact H
    clear H
    have H := H1
    clear H1
    simp only [Option.some.injEq, Prod.mk.injEq] at H
    obtain ⟨rfl, rfl⟩ := H
    go_enter Try.func106, Try.ntmps106
    go_wp2_with (first | ((with_reducible refine gate_callee (f := 103) rfl ?_); refine goesL_ (some 11) rfl rfl Try.func103 (by kernel_rfl) rfl #[.int .i64 a2] rfl (by (try simp only [List.map_toArray, List.map_cons, List.map_nil]); first | done | rfl | (simp only [List.length_drop, List.length_take]; rfl)) ?_; (with_reducible refine (broadsheetref01_Sized.calls a2 false _ A4.out).mono ?_); rintro e w' ⟨rfl, ⟨nd, rfl⟩⟩; refine ⟨_, rfl, ?_⟩))
    go_ret2
    exact ⟨by first | rfl | (simp; done) | (simp [*]; done), by repeat (first | exact Drawn0.refl _ | apply Drawn0.step)⟩

/-! ### broadsheetref45_take: function 92 -/
def broadsheetref45_take.f (k : Nat) (a0 : ByteArray) (a1 : Int) (a2 : Int) : Option (Int × Int) := if a1 < 0 then (some (0, (-1))) else ((broadsheetref01_Take.f k a0 a1 a2).bind fun bt166 => (if bt166.2 = 0 then (some (bt166.1, wrap64 (a1 + a2))) else (some (0, (-1)))))
theorem broadsheetref45_take.mono : ∀ a0 a1 a2 k, LeO (broadsheetref45_take.f k a0 a1 a2) (broadsheetref45_take.f (k + 1) a0 a1 a2) := by
  intro a0 a1 a2 k
  unfold broadsheetref45_take.f
  repeat' first
      | (with_reducible exact broadsheetref01_Take.mono _ _ _ _)
      | (with_reducible exact LeO.refl _)
      | (with_reducible exact LeO.none _)
      | (with_reducible refine LeO.ite ?_ ?_)
      | (with_reducible refine LeO.bind ?_ (fun _ => ?_))
      | exact broadsheetref01_Take.mono _ _ _ _
      | exact LeO.none _
      | refine LeO.ite ?_ ?_
      | refine LeO.bind ?_ (fun _ => ?_)
set_option maxHeartbeats 8000000 in
set_option maxRecDepth 100000 in
theorem broadsheetref45_take.calls (k : Nat) (a0 : ByteArray) (a1 : Int) (a2 : Int) (r1 : Int) (r2 : Int) (w : World) (h : broadsheetref45_take.f k a0 a1 a2 = some (r1, r2)) :
    Calls Try.prog 92 #[.string a0, .int .i64 a1, .int .i64 a2] w fun e w' => e = .returned (.tuple #[.int .u64 r1, .int .i64 r2]) ∧ Drawn0 w w' := by
  have H : (if a1 < 0 then (some (0, (-1))) else ((broadsheetref01_Take.f k a0 a1 a2).bind fun bt166 => (if bt166.2 = 0 then (some (bt166.1, wrap64 (a1 + a2))) else (some (0, (-1)))))) = some (r1, r2) := h
  clear h
  by_cases c4 : a1 < 0
  · rw [if_pos c4] at H
    have c4b0 : decide (a1 < 0) = true := decide_eq_true c4
    clear c4
    simp only [Option.some.injEq, Prod.mk.injEq] at H
    obtain ⟨rfl, rfl⟩ := H
    go_enter Try.func92, Try.ntmps92
    go_wp2
    go_ret2
    exact ⟨by first | rfl | (simp; done) | (simp [*]; done), by repeat (first | exact Drawn0.refl _ | apply Drawn0.step)⟩
  · rw [if_neg c4] at H
    have c4b0 : decide (a1 < 0) = false := decide_eq_false c4
    clear c4
    replace H := Option.bind_eq_some_iff.mp H
    obtain ⟨⟨t166, t167⟩, A50, H⟩ := H
    replace H : (if t167 = 0 then (some (t166, wrap64 (a1 + a2))) else (some (0, (-1)))) = some (r1, r2) := H
    have A5 := Aside0.mk A50
    clear A50
    by_cases c6 : t167 = 0
    · rw [if_pos c6] at H
      have c6b0 : (t167 == 0) = true := beq_iff_eq.mpr c6
      have c6b1 : (t167 != 0) = false := bne_eq_false_iff_eq.mpr c6
      clear c6
      simp only [Option.some.injEq, Prod.mk.injEq] at H
      obtain ⟨rfl, rfl⟩ := H
      go_enter Try.func92, Try.ntmps92
      go_wp2_with (first | ((with_reducible refine gate_callee (f := 106) rfl ?_); refine goesL_ (some 16) rfl rfl Try.func106 (by kernel_rfl) rfl #[.string a0, .int .i64 a1, .int .i64 a2] rfl (by (try simp only [List.map_toArray, List.map_cons, List.map_nil]); first | done | rfl | (simp only [List.length_drop, List.length_take]; rfl)) ?_; (with_reducible refine (broadsheetref01_Take.calls k a0 a1 a2 t166 t167 _ A5.out).mono ?_); rintro e w' ⟨rfl, ⟨nd, rfl⟩⟩; refine ⟨_, rfl, ?_⟩))
      go_ret2
      exact ⟨by first | rfl | (simp; done) | (simp [*]; done), by repeat (first | exact Drawn0.refl _ | apply Drawn0.step)⟩
    · rw [if_neg c6] at H
      have c6b0 : (t167 == 0) = false := beq_eq_false_iff_ne.mpr c6
      have c6b1 : (t167 != 0) = true := bne_iff_ne.mpr c6
      simp only [Option.some.injEq, Prod.mk.injEq] at H
      obtain ⟨rfl, rfl⟩ := H
      go_enter Try.func92, Try.ntmps92
      go_wp2_with (first | ((with_reducible refine gate_callee (f := 106) rfl ?_); refine goesL_ (some 16) rfl rfl Try.func106 (by kernel_rfl) rfl #[.string a0, .int .i64 a1, .int .i64 a2] rfl (by (try simp only [List.map_toArray, List.map_cons, List.map_nil]); first | done | rfl | (simp only [List.length_drop, List.length_take]; rfl)) ?_; (with_reducible refine (broadsheetref01_Take.calls k a0 a1 a2 t166 t167 _ A5.out).mono ?_); rintro e w' ⟨rfl, ⟨nd, rfl⟩⟩; refine ⟨_, rfl, ?_⟩))
      go_ret2
      exact ⟨by first | rfl | (simp; done) | (simp [*]; done), by repeat (first | exact Drawn0.refl _ | apply Drawn0.step)⟩

/-! ### broadsheetref01_half: function 105 -/
def broadsheetref01_half.l0 : Nat → Int → Int → Int → Option (Int)
  | 0, _, _, _ => none
  | k + 1, x0, x3, x4 => if x4 < x0 then (broadsheetref01_half.l0 k x0 (IntKind.u64.wrap (x3 * 256)) (wrap64 (x4 + 1))) else (some x3)
def broadsheetref01_half.f (k : Nat) (a0 : Int) : Option (Int) := broadsheetref01_half.l0 k a0 128 1
theorem broadsheetref01_half.mono_l : ∀ k, (∀ y0 y1 y2, LeO (broadsheetref01_half.l0 k y0 y1 y2) (broadsheetref01_half.l0 (k + 1) y0 y1 y2))
  | 0 => fun _ _ _ r h => by simp [broadsheetref01_half.l0] at h
  | k + 1 => by
    have ih0 := broadsheetref01_half.mono_l k
    · intro y0 y1 y2
      unfold broadsheetref01_half.l0
      repeat' first
      | (with_reducible exact ih0 _ _ _)
      | (with_reducible exact LeO.refl _)
      | (with_reducible exact LeO.none _)
      | (with_reducible refine LeO.ite ?_ ?_)
      | (with_reducible refine LeO.bind ?_ (fun _ => ?_))
      | exact ih0 _ _ _
      | exact LeO.none _
      | refine LeO.ite ?_ ?_
      | refine LeO.bind ?_ (fun _ => ?_)
theorem broadsheetref01_half.mono : ∀ a0 k, LeO (broadsheetref01_half.f k a0) (broadsheetref01_half.f (k + 1) a0) := by
  intro a0 k
  have ih0 := broadsheetref01_half.mono_l k
  unfold broadsheetref01_half.f
  repeat' first
      | (with_reducible exact ih0 _ _ _)
      | (with_reducible exact LeO.refl _)
      | (with_reducible exact LeO.none _)
      | (with_reducible refine LeO.ite ?_ ?_)
      | (with_reducible refine LeO.bind ?_ (fun _ => ?_))
      | exact ih0 _ _ _
      | exact LeO.none _
      | refine LeO.ite ?_ ?_
      | refine LeO.bind ?_ (fun _ => ?_)
set_option maxHeartbeats 8000000 in
set_option maxRecDepth 100000 in
theorem broadsheetref01_half.calls (k : Nat) (a0 : Int) (r : Int) (w : World) (h : broadsheetref01_half.f k a0 = some r) :
    Calls Try.prog 105 #[.int .i64 a0] w fun e w' => e = .returned (.int .u64 r) ∧ Drawn0 w w' := by
  have H : (broadsheetref01_half.l0 k a0 128 1) = some r := h
  clear h
  have H' := Aside0.mk H
  clear H
  go_enter Try.func105, Try.ntmps105
  go_wp2
  go_loopg [3, 4] k (fun kq v3 v4 w' => ∃ (x3_1 : Int) (x4_1 : Int), v3 = .int .u64 x3_1 ∧ v4 = .int .i64 x4_1 ∧ Aside0 (broadsheetref01_half.l0 kq a0 x3_1 x4_1 = some r) ∧ Aside0 (kq ≤ k) ∧ Drawn0 w w')
  case atStart => exact ⟨(128), (1), (by first | rfl | (simp; done) | (simp [*]; done)), (by first | rfl | (simp; done) | (simp [*]; done)), H', ⟨Nat.le_refl _⟩, by repeat (first | exact Drawn0.refl _ | apply Drawn0.step)⟩
  case round =>
    clear H'
    try clear c1
    obtain ⟨x3_1, x4_1, rfl, rfl, HA, HK1, ⟨m1, rfl⟩⟩ := hrel
    cases gk with
    | zero => exact absurd HA.out (by simp [broadsheetref01_half.l0])
    | succ k1 =>
      have H := HA.out
      clear HA
      simp only [broadsheetref01_half.l0] at H
      by_cases c2 : x4_1 < a0
      · rw [if_pos c2] at H
        have c2b0 : decide (x4_1 < a0) = true := decide_eq_true c2
        clear c2
        have H' := Aside0.mk H
        clear H
        go_wp2
        go_roundg k1
        case measure => have := HK1.out; omega
        case rel => exact ⟨(IntKind.u64.wrap (x3_1 * 256)), (wrap64 (x4_1 + 1)), (by first | rfl | (simp; done) | (simp [*]; done)), (by first | rfl | (simp; done) | (simp [*]; done)), H', ⟨by have := HK1.out; omega⟩, by repeat (first | exact Drawn0.refl _ | apply Drawn0.step)⟩
      · rw [if_neg c2] at H
        have c2b0 : decide (x4_1 < a0) = false := decide_eq_false c2
        clear c2
        obtain rfl := Option.some.inj H
        go_wp2
        go_ret
        exact ⟨by first | rfl | (simp; done) | (simp [*]; done), by repeat (first | exact Drawn0.refl _ | apply Drawn0.step)⟩

/-! ### broadsheetref01_Low: function 107 -/
def broadsheetref01_Low.f (k : Nat) (a0 : Int) (a1 : Int) : Option (Int) := (broadsheetref01_half.f k a1).bind fun t168 => (if t168 = 0 then (none) else (some (IntKind.u64.wrap ((Int.tmod a0 t168) + (IntKind.u64.wrap (t168 * (Int.tmod (IntKind.u64.wrap (Int.tdiv a0 t168)) 2)))))))
theorem broadsheetref01_Low.mono : ∀ a0 a1 k, LeO (broadsheetref01_Low.f k a0 a1) (broadsheetref01_Low.f (k + 1) a0 a1) := by
  intro a0 a1 k
  unfold broadsheetref01_Low.f
  repeat' first
      | (with_reducible exact broadsheetref01_half.mono _ _)
      | (with_reducible exact LeO.refl _)
      | (with_reducible exact LeO.none _)
      | (with_reducible refine LeO.ite ?_ ?_)
      | (with_reducible refine LeO.bind ?_ (fun _ => ?_))
      | exact broadsheetref01_half.mono _ _
      | exact LeO.none _
      | refine LeO.ite ?_ ?_
      | refine LeO.bind ?_ (fun _ => ?_)
set_option maxHeartbeats 8000000 in
set_option maxRecDepth 100000 in
theorem broadsheetref01_Low.calls (k : Nat) (a0 : Int) (a1 : Int) (r : Int) (w : World) (h : broadsheetref01_Low.f k a0 a1 = some r) :
    Calls Try.prog 107 #[.int .u64 a0, .int .i64 a1] w fun e w' => e = .returned (.int .u64 r) ∧ Drawn0 w w' := by
  have H : ((broadsheetref01_half.f k a1).bind fun t168 => (if t168 = 0 then (none) else (some (IntKind.u64.wrap ((Int.tmod a0 t168) + (IntKind.u64.wrap (t168 * (Int.tmod (IntKind.u64.wrap (Int.tdiv a0 t168)) 2)))))))) = some r := h
  clear h
  replace H := Option.bind_eq_some_iff.mp H
  obtain ⟨t168, A30, H⟩ := H
  replace H : (if t168 = 0 then (none) else (some (IntKind.u64.wrap ((Int.tmod a0 t168) + (IntKind.u64.wrap (t168 * (Int.tmod (IntKind.u64.wrap (Int.tdiv a0 t168)) 2))))))) = some r := H
  have A3 := Aside0.mk A30
  clear A30
  by_cases c4 : t168 = 0
  · rw [if_pos c4] at H
    exact absurd H (by simp)
  · rw [if_neg c4] at H
    have c4b0 : (t168 == 0) = false := beq_eq_false_iff_ne.mpr c4
    have c4b1 : (t168 != 0) = true := bne_iff_ne.mpr c4
    obtain rfl := Option.some.inj H
    go_enter Try.func107, Try.ntmps107
    go_wp2_with (first | (go_at_call 105; (with_reducible refine (broadsheetref01_half.calls k a1 t168 _ A3.out).mono ?_); rintro e w' ⟨rfl, ⟨nd, rfl⟩⟩; (try first | exact ⟨rfl, _, World.drewN_drewN _ _ _⟩ | exact ⟨rfl, _, Eq.trans (World.drewN_drewN _ _ _) (congrArg (World.drewN _) (Nat.add_assoc _ _ _))⟩)))
    repeat (go_quiet (first | (go_at_call 105; (with_reducible refine (broadsheetref01_half.calls k a1 t168 _ A3.out).mono ?_); rintro e w' ⟨rfl, ⟨nd, rfl⟩⟩; (try first | exact ⟨rfl, _, World.drewN_drewN _ _ _⟩ | exact ⟨rfl, _, Eq.trans (World.drewN_drewN _ _ _) (congrArg (World.drewN _) (Nat.add_assoc _ _ _))⟩))); try go_wp2_with (first | (go_at_call 105; (with_reducible refine (broadsheetref01_half.calls k a1 t168 _ A3.out).mono ?_); rintro e w' ⟨rfl, ⟨nd, rfl⟩⟩; (try first | exact ⟨rfl, _, World.drewN_drewN _ _ _⟩ | exact ⟨rfl, _, Eq.trans (World.drewN_drewN _ _ _) (congrArg (World.drewN _) (Nat.add_assoc _ _ _))⟩))))
    go_ret
    exact ⟨by first | rfl | (simp; done) | (simp [*]; done), by repeat (first | exact Drawn0.refl _ | apply Drawn0.step)⟩

/-! ### broadsheetref01_Sign: function 93 -/
def broadsheetref01_Sign.f (k : Nat) (a0 : Int) (a1 : Int) : Option (Int) := (broadsheetref01_Sized.f a1).bind fun t169 => (if t169 = true then ((broadsheetref01_Low.f k a0 a1).bind fun t170 => ((broadsheetref01_half.f k a1).bind fun t171 => (if t170 < t171 then (some (wrap64 (t170))) else (some (wrap64 ((wrap64 ((wrap64 (IntKind.u64.wrap (t170 - t171))) - (wrap64 (IntKind.u64.wrap (t171 - 1))))) - 1)))))) else (some 0))
theorem broadsheetref01_Sign.mono : ∀ a0 a1 k, LeO (broadsheetref01_Sign.f k a0 a1) (broadsheetref01_Sign.f (k + 1) a0 a1) := by
  intro a0 a1 k
  unfold broadsheetref01_Sign.f
  repeat' first
      | (with_reducible exact broadsheetref01_Low.mono _ _ _)
      | (with_reducible exact broadsheetref01_half.mono _ _)
      | (with_reducible exact LeO.refl _)
      | (with_reducible exact LeO.none _)
      | (with_reducible refine LeO.ite ?_ ?_)
      | (with_reducible refine LeO.bind ?_ (fun _ => ?_))
      | exact broadsheetref01_Low.mono _ _ _
      | exact broadsheetref01_half.mono _ _
      | exact LeO.none _
      | refine LeO.ite ?_ ?_
      | refine LeO.bind ?_ (fun _ => ?_)
set_option maxHeartbeats 8000000 in
set_option maxRecDepth 100000 in
theorem broadsheetref01_Sign.calls (k : Nat) (a0 : Int) (a1 : Int) (r : Int) (w : World) (h : broadsheetref01_Sign.f k a0 a1 = some r) :
    Calls Try.prog 93 #[.int .u64 a0, .int .i64 a1] w fun e w' => e = .returned (.int .i64 r) ∧ Drawn0 w w' := by
  have H : ((broadsheetref01_Sized.f a1).bind fun t169 => (if t169 = true then ((broadsheetref01_Low.f k a0 a1).bind fun t170 => ((broadsheetref01_half.f k a1).bind fun t171 => (if t170 < t171 then (some (wrap64 (t170))) else (some (wrap64 ((wrap64 ((wrap64 (IntKind.u64.wrap (t170 - t171))) - (wrap64 (IntKind.u64.wrap (t171 - 1))))) - 1)))))) else (some 0))) = some r := h
  clear h
  replace H := Option.bind_eq_some_iff.mp H
  obtain ⟨t169, A30, H⟩ := H
  replace H : (if t169 = true then ((broadsheetref01_Low.f k a0 a1).bind fun t170 => ((broadsheetref01_half.f k a1).bind fun t171 => (if t170 < t171 then (some (wrap64 (t170))) else (some (wrap64 ((wrap64 ((wrap64 (IntKind.u64.wrap (t170 - t171))) - (wrap64 (IntKind.u64.wrap (t171 - 1))))) - 1)))))) else (some 0)) = some r := H
  have A3 := Aside0.mk A30
  clear A30
  by_cases c4 : t169 = true
  · subst c4
    have H1 : ((broadsheetref01_Low.f k a0 a1).bind fun t170 => ((broadsheetref01_half.f k a1).bind fun t171 => (if t170 < t171 then (some (wrap64 (t170))) else (some (wrap64 ((wrap64 ((wrap64 (IntKind.u64.wrap (t170 - t171))) - (wrap64 (IntKind.u64.wrap (t171 - 1))))) - 1)))))) = some r := by rw [if_pos rfl] at H; exact H
    clear H
    have H := H1
    clear H1
    replace H := Option.bind_eq_some_iff.mp H
    obtain ⟨t170, A50, H⟩ := H
    replace H : ((broadsheetref01_half.f k a1).bind fun t171 => (if t170 < t171 then (some (wrap64 (t170))) else (some (wrap64 ((wrap64 ((wrap64 (IntKind.u64.wrap (t170 - t171))) - (wrap64 (IntKind.u64.wrap (t171 - 1))))) - 1))))) = some r := H
    have A5 := Aside0.mk A50
    clear A50
    replace H := Option.bind_eq_some_iff.mp H
    obtain ⟨t171, A60, H⟩ := H
    replace H : (if t170 < t171 then (some (wrap64 (t170))) else (some (wrap64 ((wrap64 ((wrap64 (IntKind.u64.wrap (t170 - t171))) - (wrap64 (IntKind.u64.wrap (t171 - 1))))) - 1)))) = some r := H
    have A6 := Aside0.mk A60
    clear A60
    by_cases c7 : t170 < t171
    · rw [if_pos c7] at H
      have c7b0 : decide (t170 < t171) = true := decide_eq_true c7
      clear c7
      obtain rfl := Option.some.inj H
      go_enter Try.func93, Try.ntmps93
      go_wp2_with (first | ((with_reducible refine gate_callee (f := 103) rfl ?_); refine goesL_ (some 7) rfl rfl Try.func103 (by kernel_rfl) rfl #[.int .i64 a1] rfl (by (try simp only [List.map_toArray, List.map_cons, List.map_nil]); first | done | rfl | (simp only [List.length_drop, List.length_take]; rfl)) ?_; (with_reducible refine (broadsheetref01_Sized.calls a1 true _ A3.out).mono ?_); rintro e w' ⟨rfl, ⟨nd, rfl⟩⟩; refine ⟨_, rfl, ?_⟩) | ((with_reducible refine gate_callee (f := 107) rfl ?_); refine goesL_ (some 11) rfl rfl Try.func107 (by kernel_rfl) rfl #[.int .u64 a0, .int .i64 a1] rfl (by (try simp only [List.map_toArray, List.map_cons, List.map_nil]); first | done | rfl | (simp only [List.length_drop, List.length_take]; rfl)) ?_; (with_reducible refine (broadsheetref01_Low.calls k a0 a1 t170 _ A5.out).mono ?_); rintro e w' ⟨rfl, ⟨nd, rfl⟩⟩; refine ⟨_, rfl, ?_⟩) | ((with_reducible refine gate_callee (f := 105) rfl ?_); refine goesL_ (some 13) rfl rfl Try.func105 (by kernel_rfl) rfl #[.int .i64 a1] rfl (by (try simp only [List.map_toArray, List.map_cons, List.map_nil]); first | done | rfl | (simp only [List.length_drop, List.length_take]; rfl)) ?_; (with_reducible refine (broadsheetref01_half.calls k a1 t171 _ A6.out).mono ?_); rintro e w' ⟨rfl, ⟨nd, rfl⟩⟩; refine ⟨_, rfl, ?_⟩))
      go_ret
      exact ⟨by first | rfl | (simp; done) | (simp [*]; done), by repeat (first | exact Drawn0.refl _ | apply Drawn0.step)⟩
    · rw [if_neg c7] at H
      have c7b0 : decide (t170 < t171) = false := decide_eq_false c7
      clear c7
      obtain rfl := Option.some.inj H
      go_enter Try.func93, Try.ntmps93
      go_wp2_with (first | ((with_reducible refine gate_callee (f := 103) rfl ?_); refine goesL_ (some 7) rfl rfl Try.func103 (by kernel_rfl) rfl #[.int .i64 a1] rfl (by (try simp only [List.map_toArray, List.map_cons, List.map_nil]); first | done | rfl | (simp only [List.length_drop, List.length_take]; rfl)) ?_; (with_reducible refine (broadsheetref01_Sized.calls a1 true _ A3.out).mono ?_); rintro e w' ⟨rfl, ⟨nd, rfl⟩⟩; refine ⟨_, rfl, ?_⟩) | ((with_reducible refine gate_callee (f := 107) rfl ?_); refine goesL_ (some 11) rfl rfl Try.func107 (by kernel_rfl) rfl #[.int .u64 a0, .int .i64 a1] rfl (by (try simp only [List.map_toArray, List.map_cons, List.map_nil]); first | done | rfl | (simp only [List.length_drop, List.length_take]; rfl)) ?_; (with_reducible refine (broadsheetref01_Low.calls k a0 a1 t170 _ A5.out).mono ?_); rintro e w' ⟨rfl, ⟨nd, rfl⟩⟩; refine ⟨_, rfl, ?_⟩) | ((with_reducible refine gate_callee (f := 105) rfl ?_); refine goesL_ (some 13) rfl rfl Try.func105 (by kernel_rfl) rfl #[.int .i64 a1] rfl (by (try simp only [List.map_toArray, List.map_cons, List.map_nil]); first | done | rfl | (simp only [List.length_drop, List.length_take]; rfl)) ?_; (with_reducible refine (broadsheetref01_half.calls k a1 t171 _ A6.out).mono ?_); rintro e w' ⟨rfl, ⟨nd, rfl⟩⟩; refine ⟨_, rfl, ?_⟩))
      go_ret
      exact ⟨by first | rfl | (simp; done) | (simp [*]; done), by repeat (first | exact Drawn0.refl _ | apply Drawn0.step)⟩
  · replace c4 := Bool.eq_false_iff.mpr c4
    subst c4
    have H1 : (some 0) = some r := by rw [if_neg (show ¬ (false = true) by decide)] at H; exact H
    clear H
    have H := H1
    clear H1
    obtain rfl := Option.some.inj H
    go_enter Try.func93, Try.ntmps93
    go_wp2_with (first | ((with_reducible refine gate_callee (f := 103) rfl ?_); refine goesL_ (some 7) rfl rfl Try.func103 (by kernel_rfl) rfl #[.int .i64 a1] rfl (by (try simp only [List.map_toArray, List.map_cons, List.map_nil]); first | done | rfl | (simp only [List.length_drop, List.length_take]; rfl)) ?_; (with_reducible refine (broadsheetref01_Sized.calls a1 false _ A3.out).mono ?_); rintro e w' ⟨rfl, ⟨nd, rfl⟩⟩; refine ⟨_, rfl, ?_⟩))
    go_ret
    exact ⟨by first | rfl | (simp; done) | (simp [*]; done), by repeat (first | exact Drawn0.refl _ | apply Drawn0.step)⟩


end Go.Proofs.Ytimalojaiaofkaa.PScriptTakes
namespace Go.Proofs.Ytimalojaiaofkaa.Wd
open Go.RowKit Base Go.Proofs.YtimalojaiaofkaaW.PrintWords Go.Proofs.YtimalojaiaofkaaW.PrintLast Go.Proofs.YtimalojaiaofkaaW.PrintMore
/-- Is it a size? -/
def sz (s : Int) : Bool := s == 1 || s == 2 || s == 4 || s == 8
theorem sz_cases {s : Int} (h : sz s = true) : s = 1 ∨ s = 2 ∨ s = 4 ∨ s = 8 := by
  unfold sz at h
  simp at h
  omega
/-- 256 to a size. -/
def pw (s : Int) : Int := if s = 1 then 256 else if s = 2 then 65536 else if s = 4 then 4294967296 else 18446744073709551616
def hf (s : Int) : Int := if s = 1 then 128 else if s = 2 then 32768 else if s = 4 then 2147483648 else 9223372036854775808
/-- The number with a sign of some lowest bits. -/
def sgn (n s : Int) : Int := if n % pw s < hf s then n % pw s else n % pw s - pw s
theorem u64_mod (x : Int) : IntKind.u64.wrap x = x % 18446744073709551616 := by
  simp [IntKind.wrap, IntKind.bits, IntKind.signed]
theorem sh (x : Int) (n : Nat) (h : n ≤ 64) : shr .u64 x (n : Int) = x / 2 ^ n := by
  unfold shr
  rw [Int.toNat_natCast, show IntKind.u64.bits = 64 from rfl, Nat.min_eq_left h]
theorem shi (x : Int) (n : Nat) (h : n ≤ 64) : shr .i64 x (n : Int) = x / 2 ^ n := by
  unfold shr
  rw [Int.toNat_natCast, show IntKind.i64.bits = 64 from rfl, Nat.min_eq_left h]
theorem sl_ (x : Int) (n : Nat) (h : n ≤ 64) : shl .u64 x (n : Int) = x * 2 ^ n % 18446744073709551616 := by
  unfold shl
  rw [Int.toNat_natCast, show IntKind.u64.bits = 64 from rfl, Nat.min_eq_left h, u64_mod]
theorem of_nat (n : Nat) : BitVec.ofInt 64 (n : Int) = BitVec.ofNat 64 n := by rw [BitVec.ofInt_natCast]
theorem and_pow (n k : Nat) (hn : n < 2 ^ 64) (hk : k ≤ 64) : Go.bits .and .u64 (n : Int) (((2 ^ k - 1 : Nat)) : Int) = ((n % 2 ^ k : Nat) : Int) := by
  have hp : 2 ^ k ≤ 2 ^ 64 := Nat.pow_le_pow_right (by decide) hk
  have hp0 : 0 < 2 ^ k := Nat.pow_pos (by decide)
  show IntKind.u64.wrap (((BitVec.ofInt 64 (n : Int) &&& BitVec.ofInt 64 (((2 ^ k - 1 : Nat)) : Int)).toNat : Nat) : Int) = _
  rw [of_nat, of_nat, BitVec.toNat_and, BitVec.toNat_ofNat, BitVec.toNat_ofNat, Nat.mod_eq_of_lt hn, Nat.mod_eq_of_lt (by omega), Nat.and_two_pow_sub_one_eq_mod, u64_mod]
  have := Nat.mod_lt n hp0
  have h64 : (2 : Nat) ^ 64 = 18446744073709551616 := by decide
  omega
theorem andNot_pow (n k : Nat) (hn : n < 2 ^ 64) (hk : k ≤ 64) : Go.bits .andNot .u64 (n : Int) (((2 ^ k - 1 : Nat)) : Int) = 0 ↔ n < 2 ^ k := by
  have hp : 2 ^ k ≤ 2 ^ 64 := Nat.pow_le_pow_right (by decide) hk
  have hp0 : 0 < 2 ^ k := Nat.pow_pos (by decide)
  have h64 : (2 : Nat) ^ 64 = 18446744073709551616 := by decide
  have e : Go.bits .andNot .u64 (n : Int) (((2 ^ k - 1 : Nat)) : Int) = (((BitVec.ofNat 64 n &&& ~~~ BitVec.ofNat 64 (2 ^ k - 1)).toNat : Nat) : Int) := by
    show IntKind.u64.wrap (((BitVec.ofInt 64 (n : Int) &&& ~~~ BitVec.ofInt 64 (((2 ^ k - 1 : Nat)) : Int)).toNat : Nat) : Int) = _
    rw [of_nat, of_nat, u64_mod]
    have := (BitVec.ofNat 64 n &&& ~~~ BitVec.ofNat 64 (2 ^ k - 1)).isLt
    omega
  rw [e]
  have key : BitVec.ofNat 64 n &&& ~~~ BitVec.ofNat 64 (2 ^ k - 1) = 0#64 ↔ BitVec.ofNat 64 n &&& BitVec.ofNat 64 (2 ^ k - 1) = BitVec.ofNat 64 n := by
    generalize BitVec.ofNat 64 n = x
    generalize BitVec.ofNat 64 (2 ^ k - 1) = m
    constructor
    · intro h
      apply BitVec.eq_of_getLsbD_eq
      intro i hi
      have := congrArg (fun z => z.getLsbD i) h
      simp [hi] at this ⊢
      cases hx : x.getLsbD i <;> cases hm : m.getLsbD i <;> simp_all
    · intro h
      apply BitVec.eq_of_getLsbD_eq
      intro i hi
      have := congrArg (fun z => z.getLsbD i) h
      simp [hi] at this ⊢
      cases hx : x.getLsbD i <;> cases hm : m.getLsbD i <;> simp_all
  have hz : (((BitVec.ofNat 64 n &&& ~~~ BitVec.ofNat 64 (2 ^ k - 1)).toNat : Nat) : Int) = 0 ↔ BitVec.ofNat 64 n &&& ~~~ BitVec.ofNat 64 (2 ^ k - 1) = 0#64 := by
    constructor
    · intro h
      apply BitVec.eq_of_toNat_eq
      simpa using h
    · intro h
      rw [h]
      rfl
  rw [hz, key]
  constructor
  · intro h
    have h := congrArg BitVec.toNat h
    rw [BitVec.toNat_and, BitVec.toNat_ofNat, BitVec.toNat_ofNat, Nat.mod_eq_of_lt hn, Nat.mod_eq_of_lt (by omega), Nat.and_two_pow_sub_one_eq_mod] at h
    have := Nat.mod_lt n hp0
    omega
  · intro h
    apply BitVec.eq_of_toNat_eq
    rw [BitVec.toNat_and, BitVec.toNat_ofNat, BitVec.toNat_ofNat, Nat.mod_eq_of_lt hn, Nat.mod_eq_of_lt (by omega), Nat.and_two_pow_sub_one_eq_mod, Nat.mod_eq_of_lt h]
theorem andNot_mask {a s : Int} (h : sz s = true) (h0 : 0 ≤ a) (h1 : a < 18446744073709551616) : Go.bits .andNot .u64 a (pw s - 1) = 0 ↔ a < pw s := by
  obtain ⟨n, rfl⟩ : ∃ n : Nat, a = (n : Int) := ⟨a.toNat, by omega⟩
  have h64 : (2 : Nat) ^ 64 = 18446744073709551616 := by decide
  rcases sz_cases h with rfl | rfl | rfl | rfl
  · exact (andNot_pow n 8 (by omega) (by decide)).trans (by show n < 256 ↔ (n : Int) < 256; omega)
  · exact (andNot_pow n 16 (by omega) (by decide)).trans (by show n < 65536 ↔ (n : Int) < 65536; omega)
  · exact (andNot_pow n 32 (by omega) (by decide)).trans (by show n < 4294967296 ↔ (n : Int) < 4294967296; omega)
  · exact (andNot_pow n 64 (by omega) (by decide)).trans (by show n < 18446744073709551616 ↔ (n : Int) < 18446744073709551616; omega)
theorem and_mask {a s : Int} (h : sz s = true) (h0 : 0 ≤ a) (h1 : a < 18446744073709551616) : Go.bits .and .u64 a (pw s - 1) = a % pw s := by
  obtain ⟨n, rfl⟩ : ∃ n : Nat, a = (n : Int) := ⟨a.toNat, by omega⟩
  have h64 : (2 : Nat) ^ 64 = 18446744073709551616 := by decide
  rcases sz_cases h with rfl | rfl | rfl | rfl
  · exact (and_pow n 8 (by omega) (by decide)).trans (by show ((n % 256 : Nat) : Int) = (n : Int) % 256; omega)
  · exact (and_pow n 16 (by omega) (by decide)).trans (by show ((n % 65536 : Nat) : Int) = (n : Int) % 65536; omega)
  · exact (and_pow n 32 (by omega) (by decide)).trans (by show ((n % 4294967296 : Nat) : Int) = (n : Int) % 4294967296; omega)
  · exact (and_pow n 64 (by omega) (by decide)).trans (by show ((n % 18446744073709551616 : Nat) : Int) = (n : Int) % 18446744073709551616; omega)
/-- A number's two's complement. -/
def bitv (n s : Int) : Int × Int := if -hf s ≤ n ∧ n < hf s then (n % pw s, 0) else (0, 7)
theorem sgn_back (n s : Int) (h : sz s = true) (h0 : -9223372036854775808 ≤ n) (h1 : n < 9223372036854775808) : sgn (IntKind.u64.wrap n) s = n ↔ (-hf s ≤ n ∧ n < hf s) := by
  rw [u64_mod]
  unfold sgn
  rcases sz_cases h with rfl | rfl | rfl | rfl
  · show (if n % 18446744073709551616 % 256 < 128 then n % 18446744073709551616 % 256 else n % 18446744073709551616 % 256 - 256) = n ↔ (-128 ≤ n ∧ n < 128)
    split <;> omega
  · show (if n % 18446744073709551616 % 65536 < 32768 then n % 18446744073709551616 % 65536 else n % 18446744073709551616 % 65536 - 65536) = n ↔ (-32768 ≤ n ∧ n < 32768)
    split <;> omega
  · show (if n % 18446744073709551616 % 4294967296 < 2147483648 then n % 18446744073709551616 % 4294967296 else n % 18446744073709551616 % 4294967296 - 4294967296) = n ↔ (-2147483648 ≤ n ∧ n < 2147483648)
    split <;> omega
  · show (if n % 18446744073709551616 % 18446744073709551616 < 9223372036854775808 then n % 18446744073709551616 % 18446744073709551616 else n % 18446744073709551616 % 18446744073709551616 - 18446744073709551616) = n ↔ (-9223372036854775808 ≤ n ∧ n < 9223372036854775808)
    split <;> omega
/-- A number's lowest bytes. -/
def le : Int → Nat → List Int
  | _, 0 => []
  | n, k + 1 => n % 256 :: le (n / 256) k
theorem le_len : ∀ (n : Int) (k : Nat), (le n k).length = k
  | _, 0 => rfl
  | n, k + 1 => by rw [le, List.length_cons, le_len]
/-- What Put answers. -/
def putv (n s : Int) : ByteArray × Int := if n < pw s then (strOfNums (le n s.toNat), 0) else (⟨#[]⟩, 7)
theorem shr_8 (a : Int) (i : Nat) (h : i ≤ 8) : shr .u64 a (IntKind.u64.wrap (wrap64 (8 * (i : Int)))) = a / 256 ^ i := by
  have e : IntKind.u64.wrap (wrap64 (8 * (i : Int))) = ((8 * i : Nat) : Int) := by
    rw [u64_mod]
    unfold wrap64
    omega
  rw [e, sh a (8 * i) (by omega), show (256 : Int) = 2 ^ 8 from by decide, ← Int.pow_mul]
/-- The number of bytes, the lowest first. -/
def lev (f : Nat → Int) : Nat → Int
  | 0 => 0
  | k + 1 => f 0 + 256 * lev (fun i => f (i + 1)) k
theorem lev_lo (f : Nat → Int) (hf : ∀ i, 0 ≤ f i ∧ f i ≤ 255) : ∀ k, 0 ≤ lev f k := by
  intro k
  induction k generalizing f with
  | zero => exact Int.le_refl 0
  | succ k ih =>
    have := ih (fun i => f (i + 1)) (fun i => hf (i + 1))
    have := (hf 0).1
    rw [lev]
    omega
theorem lev_hi (f : Nat → Int) (hf : ∀ i, 0 ≤ f i ∧ f i ≤ 255) : ∀ k, lev f k < 256 ^ k := by
  intro k
  induction k generalizing f with
  | zero => simp [lev]
  | succ k ih =>
    have := ih (fun i => f (i + 1)) (fun i => hf (i + 1))
    have := (hf 0).2
    rw [lev, Int.pow_succ]
    omega
theorem lev_snoc (f : Nat → Int) : ∀ k, lev f (k + 1) = lev f k + f k * 256 ^ k := by
  intro k
  induction k generalizing f with
  | zero => simp [lev]
  | succ k ih =>
    rw [lev, ih (fun i => f (i + 1)), lev, Int.pow_succ, Int.mul_add]
    generalize lev (fun i => f (i + 1)) k = x
    generalize (256 : Int) ^ k = p
    have e : f (k + 1) * (p * 256) = 256 * (f (k + 1) * p) := by rw [Int.mul_comm p 256, ← Int.mul_assoc, Int.mul_comm (f (k + 1)) 256, Int.mul_assoc]
    rw [e]
    omega
/-- What Take answers. -/
def takev (b : ByteArray) (at_ s : Int) : Int × Int :=
  if at_ < 0 ∨ (b.size : Int) < at_ then (0, 7) else if (b.size : Int) - at_ < s then (0, 2) else (lev (fun i => bt b (at_ + i)) s.toNat, 0)
theorem or_add (x c : Int) (i : Nat) (hi : i < 8) (hx0 : 0 ≤ x) (hx : x < 256 ^ i) (hc0 : 0 ≤ c) (hc : c ≤ 255) :
    Go.bits .or .u64 x (shl .u64 (IntKind.u64.wrap c) (IntKind.u64.wrap (wrap64 (8 * (i : Int))))) = x + c * 256 ^ i := by
  have e : IntKind.u64.wrap (wrap64 (8 * (i : Int))) = ((8 * i : Nat) : Int) := by
    rw [u64_mod]
    unfold wrap64
    omega
  have ew : IntKind.u64.wrap c = c := by rw [u64_mod]; omega
  obtain ⟨n, rfl⟩ : ∃ n : Nat, x = (n : Int) := ⟨x.toNat, by omega⟩
  obtain ⟨m, rfl⟩ : ∃ m : Nat, c = (m : Int) := ⟨c.toNat, by omega⟩
  have hp : (256 : Int) ^ i = ((2 ^ (8 * i) : Nat) : Int) := by
    rw [Nat.pow_mul]
    simp
  have hn : n < 2 ^ (8 * i) := by rw [hp] at hx; omega
  have hq : 2 ^ (8 * i) ≤ 2 ^ 56 := Nat.pow_le_pow_right (by decide) (by omega)
  have h56 : (2 : Nat) ^ 56 = 72057594037927936 := by decide
  have h64 : (2 : Nat) ^ 64 = 18446744073709551616 := by decide
  have hm : m * 2 ^ (8 * i) ≤ 255 * 2 ^ 56 := Nat.mul_le_mul (by omega) hq
  have hd : m * 2 ^ (8 * i) + 2 ^ (8 * i) ≤ 2 ^ 64 := by
    have h1 : (m + 1) * 2 ^ (8 * i) ≤ 256 * 2 ^ 56 := Nat.mul_le_mul (by omega) hq
    rw [Nat.add_mul, Nat.one_mul] at h1
    omega
  rw [e, ew, sl_ _ (8 * i) (by omega), hp]
  have e2 : (m : Int) * 2 ^ (8 * i) % 18446744073709551616 = ((m * 2 ^ (8 * i) : Nat) : Int) := by
    have e3 : (m : Int) * 2 ^ (8 * i) = ((m * 2 ^ (8 * i) : Nat) : Int) := by simp
    rw [e3]
    generalize m * 2 ^ (8 * i) = y at *
    omega
  rw [e2]
  show IntKind.u64.wrap (((BitVec.ofInt 64 (n : Int) ||| BitVec.ofInt 64 ((m * 2 ^ (8 * i) : Nat) : Int)).toNat : Nat) : Int) = _
  have eor : n ||| (m * 2 ^ (8 * i)) = m * 2 ^ (8 * i) + n := by rw [Nat.or_comm, Nat.mul_comm m, ← Nat.two_pow_add_eq_or_of_lt hn]
  rw [of_nat, of_nat, BitVec.toNat_or, BitVec.toNat_ofNat, BitVec.toNat_ofNat, Nat.mod_eq_of_lt (by omega), Nat.mod_eq_of_lt (by omega), eor, u64_mod]
  have e4 : (m : Int) * ((2 ^ (8 * i) : Nat) : Int) = ((m * 2 ^ (8 * i) : Nat) : Int) := by simp
  rw [e4]
  generalize m * 2 ^ (8 * i) = y at *
  generalize 2 ^ (8 * i) = q at *
  omega
theorem pow_8 (m : Nat) (h : m ≤ 8) : (256 : Int) ^ m ≤ 256 ^ 8 := by
  have : m = 0 ∨ m = 1 ∨ m = 2 ∨ m = 3 ∨ m = 4 ∨ m = 5 ∨ m = 6 ∨ m = 7 ∨ m = 8 := by omega
  rcases this with rfl | rfl | rfl | rfl | rfl | rfl | rfl | rfl | rfl <;> decide
theorem str_app (a b : List Int) : strOfNums a ++ strOfNums b = strOfNums (a ++ b) := by
  apply ByteArray.ext
  simp [strOfNums]
theorem app_empty (t : ByteArray) : t ++ strOfNums [] = t := by
  apply ByteArray.ext
  simp [strOfNums]
theorem empty_app (t : ByteArray) : (⟨#[]⟩ : ByteArray) ++ t = t := by
  apply ByteArray.ext
  simp
theorem app_assoc (a b c : ByteArray) : (a ++ b) ++ c = a ++ (b ++ c) := by
  apply ByteArray.ext
  simp
theorem lev_le : ∀ (k : Nat) (n : Int), 0 ≤ n → n < 256 ^ k → lev (fun i => (le n k).getD i 0) k = n
  | 0, n, h0, h1 => by
    have : (256 : Int) ^ 0 = 1 := rfl
    show 0 = n
    omega
  | k + 1, n, h0, h1 => by
    have hp : (256 : Int) ^ (k + 1) = 256 ^ k * 256 := Int.pow_succ _ _
    have ih := lev_le k (n / 256) (by omega) (by omega)
    rw [lev]
    have e : (fun i => (le n (k + 1)).getD (i + 1) 0) = (fun i => (le (n / 256) k).getD i 0) := by
      funext i
      rw [le]
      simp [List.getD_eq_getElem?_getD]
    rw [e, ih]
    show (le n (k + 1)).getD 0 0 + 256 * (n / 256) = n
    rw [le]
    simp [List.getD_eq_getElem?_getD]
    omega
theorem le_range : ∀ (k : Nat) (n : Int), ∀ x ∈ le n k, 0 ≤ x ∧ x < 256
  | 0, n, x, h => by cases h
  | k + 1, n, x, h => by
    rw [le] at h
    rcases List.mem_cons.1 h with rfl | h
    · omega
    · exact le_range k (n / 256) x h
theorem bt_mid (a b : ByteArray) (xs : List Int) (hx : ∀ x ∈ xs, 0 ≤ x ∧ x < 256) (i : Nat) (hi : i < xs.length) : bt (a ++ strOfNums xs ++ b) ((a.size : Int) + i) = xs.getD i 0 := by
  have e : ((a.size : Int) + i).toNat = a.size + i := by omega
  have hl : a.size + i < (a ++ strOfNums xs ++ b).size := by
    rw [ByteArray.size_append, ByteArray.size_append, strOfNums_size]
    omega
  unfold bt
  rw [e, dif_pos hl]
  have hg : (a ++ strOfNums xs ++ b)[a.size + i] = UInt8.ofNat (xs.getD i 0).toNat := by
    rw [ByteArray.getElem_append_left (by rw [ByteArray.size_append, strOfNums_size]; omega), ByteArray.getElem_append_right (by omega)]
    show (strOfNums xs).data[a.size + i - a.size]'_ = _
    simp [strOfNums, List.getD_eq_getElem?_getD, List.getElem?_eq_getElem hi]
  have hm := hx (xs.getD i 0) (by rw [List.getD_eq_getElem?_getD, List.getElem?_eq_getElem hi]; exact List.getElem_mem hi)
  rw [hg, UInt8.toNat_ofNat']
  omega
theorem lev_congr (f g : Nat → Int) : ∀ k, (∀ i, i < k → f i = g i) → lev f k = lev g k := by
  intro k
  induction k generalizing f g with
  | zero => intro _; rfl
  | succ k ih =>
    intro h
    rw [lev, lev, h 0 (by omega), ih (fun i => f (i + 1)) (fun i => g (i + 1)) (fun i hi => h (i + 1) (by omega))]
theorem pw_pow {s : Int} (h : sz s = true) : (256 : Int) ^ s.toNat = pw s := by
  rcases sz_cases h with rfl | rfl | rfl | rfl <;> kernel_rfl
theorem take_back (a b : ByteArray) (n s : Int) (h : sz s = true) (h0 : 0 ≤ n) (h1 : n < pw s) : takev (a ++ strOfNums (le n s.toNat) ++ b) (a.size : Int) s = (n, 0) := by
  have hs := sz_cases h
  have hsz : (a ++ strOfNums (le n s.toNat) ++ b).size = a.size + s.toNat + b.size := by rw [ByteArray.size_append, ByteArray.size_append, strOfNums_size, le_len]
  unfold takev
  rw [hsz, if_neg (by omega), if_neg (by omega)]
  have e : lev (fun i => bt (a ++ strOfNums (le n s.toNat) ++ b) ((a.size : Int) + i)) s.toNat = lev (fun i => (le n s.toNat).getD i 0) s.toNat :=
    lev_congr _ _ _ (fun i hi => bt_mid a b _ (le_range _ _) i (by rw [le_len]; exact hi))
  rw [e, lev_le s.toNat n h0 (by rw [pw_pow h]; exact h1)]
/-- What only draws changes nothing below. -/
theorem drawn_below {w w' : World} (h : Drawn0 w w') : Below w.heap.size w w' := by
  obtain ⟨n, rfl⟩ := h.out
  exact pw_below_drewN (Below.refl _ _) n
end Go.Proofs.Ytimalojaiaofkaa.Wd
namespace Go.Proofs.Ytimalojaiaofkaa.WdT
open Wd Go.RowKit Base Go.Proofs.YtimalojaiaofkaaW.PrintWords Go.Proofs.YtimalojaiaofkaaW.PrintLast Go.Proofs.YtimalojaiaofkaaW.PrintMore Go.Proofs.Ytimalojaiaofkaa.PScriptTakes
theorem sized_eq (s : Int) : word_sized.f s = some (sz s) := by
  unfold word_sized.f sz
  by_cases h1 : s = 1
  · simp [h1]
  · by_cases h2 : s = 2
    · simp [h2]
    · by_cases h4 : s = 4
      · simp [h4]
      · simp [h1, h2, h4]
theorem mask_eq {s : Int} (h : sz s = true) : word_mask.f s = some (pw s - 1) := by
  rcases sz_cases h with rfl | rfl | rfl | rfl <;> kernel_rfl
theorem put_loop (a s : Int) (hs : s ≤ 8) : ∀ (j i : Nat) (pre : List Int) (k : Nat), ((i + j : Nat) : Int) = s → pre.length = i →
    word_Put.l0 (j + 1 + k) a (pre ++ List.replicate j 0) s (i : Int) = some (strOfNums (pre ++ le (a / 256 ^ i) j), 0)
  | 0, i, pre, k, h, hp => by
    rw [show 0 + 1 + k = k + 1 from by omega]
    simp only [word_Put.l0]
    rw [if_neg (by omega)]
    simp [le]
  | j + 1, i, pre, k, h, hp => by
    rw [show j + 1 + 1 + k = (j + 1 + k) + 1 from by omega]
    simp only [word_Put.l0]
    have e0 : (0 : Int) ≤ IntKind.u64.wrap (wrap64 (8 * (i : Int))) := by
      rw [u64_mod]
      omega
    have ew : wrap64 ((i : Int) + 1) = ((i + 1 : Nat) : Int) := by unfold wrap64; omega
    have es : (pre ++ List.replicate (j + 1) 0).set ((i : Int)).toNat (shr .u64 a (IntKind.u64.wrap (wrap64 (8 * (i : Int)))) % 256) = (pre ++ [a / 256 ^ i % 256]) ++ List.replicate j 0 := by
      rw [Int.toNat_natCast, List.set_append_right _ _ (by omega), hp, Nat.sub_self, shr_8 a i (by omega)]
      simp [List.replicate_succ]
    rw [if_pos (by omega), if_pos e0, if_pos (by omega), if_pos (by simp; omega), ew, es, put_loop a s hs j (i + 1) (pre ++ [a / 256 ^ i % 256]) k (by omega) (by simp [hp])]
    congr 2
    rw [le, List.append_assoc, List.singleton_append, Int.pow_succ, Int.ediv_ediv_of_nonneg (Int.pow_nonneg (by decide))]
theorem put_eq (a s : Int) (k : Nat) (hk : 12 ≤ k) (h0 : 0 ≤ a) (h1 : a < 18446744073709551616) : word_Put.f k a s = some (if sz s then putv a s else (⟨#[]⟩, 4)) := by
  unfold word_Put.f
  rw [sized_eq, Option.bind_some]
  cases h : sz s with
  | false => rfl
  | true =>
    have hs := sz_cases h
    rw [if_pos rfl, mask_eq h, Option.bind_some, if_pos rfl]
    unfold putv
    by_cases hp : a < pw s
    · rw [if_pos ((andNot_mask h h0 h1).2 hp), if_pos (by omega), if_pos (by omega), if_pos hp]
      obtain ⟨n, rfl⟩ : ∃ n : Nat, s = (n : Int) := ⟨s.toNat, by omega⟩
      have := put_loop a n (by omega) n 0 [] (k - n - 1) (by omega) rfl
      rw [show n + 1 + (k - n - 1) = k from by omega, List.nil_append, List.nil_append] at this
      simp only [Int.toNat_natCast]
      rw [show ((0 : Nat) : Int) = 0 from rfl] at this
      rw [this]
      simp
    · rw [if_neg (fun h' => hp ((andNot_mask h h0 h1).1 h')), if_neg hp]
theorem put (a s : Int) (h0 : 0 ≤ a) (h1 : a < 18446744073709551616) (w : World) :
    Calls Try.prog 84 #[.int .u64 a, .int .i64 s] w fun e w' => e = .returned (.tuple #[.string (if sz s then putv a s else (⟨#[]⟩, 4)).1, .int .i64 (if sz s then putv a s else (⟨#[]⟩, 4)).2]) ∧ Below w.heap.size w w' :=
  word_Put.calls 12 a s _ _ w (put_eq a s 12 (by decide) h0 h1)
end Go.Proofs.Ytimalojaiaofkaa.WdT
namespace Go.Proofs.Ytimalojaiaofkaa.WdT
open Wd Go.RowKit Base Go.Proofs.YtimalojaiaofkaaW.PrintWords Go.Proofs.YtimalojaiaofkaaW.PrintLast Go.Proofs.YtimalojaiaofkaaW.PrintMore Go.Proofs.Ytimalojaiaofkaa.PScriptTakes
theorem take_loop (b : ByteArray) (at_ s : Int) (hs : s ≤ 8) (ha : 0 ≤ at_) (hb : at_ + s ≤ b.size) (hz : b.size ≤ 9223372036854775807) : ∀ (j i : Nat) (k : Nat), ((i + j : Nat) : Int) = s →
    word_Take.l0 (j + 1 + k) b at_ (lev (fun i => bt b (at_ + i)) i) s (i : Int) = some (lev (fun i => bt b (at_ + i)) s.toNat, 0)
  | 0, i, k, h => by
    rw [show 0 + 1 + k = k + 1 from by omega]
    simp only [word_Take.l0]
    rw [if_neg (by omega), show s.toNat = i from by omega]
  | j + 1, i, k, h => by
    rw [show j + 1 + 1 + k = (j + 1 + k) + 1 from by omega]
    simp only [word_Take.l0]
    have e0 : (0 : Int) ≤ IntKind.u64.wrap (wrap64 (8 * (i : Int))) := by
      rw [u64_mod]
      omega
    have ew : wrap64 ((i : Int) + 1) = ((i + 1 : Nat) : Int) := by unfold wrap64; omega
    have ea : wrap64 (at_ + (i : Int)) = at_ + i := by unfold wrap64; omega
    have hr := bt_range b (at_ + i)
    rw [ea, if_pos (by omega), if_pos (by omega), if_pos (by omega), if_pos e0, ew, or_add _ _ i (by omega) (lev_lo _ (fun i => bt_range b _) i) (lev_hi _ (fun i => bt_range b _) i) hr.1 hr.2,
      ← lev_snoc (fun i => bt b (at_ + i)) i]
    exact take_loop b at_ s hs ha hb hz j (i + 1) k (by omega)
theorem take_eq (b : ByteArray) (at_ s : Int) (k : Nat) (hk : 12 ≤ k) (hz : b.size ≤ 9223372036854775807) (h0 : -9223372036854775808 ≤ at_) (h1 : at_ < 9223372036854775808) : word_Take.f k b at_ s = some (if sz s then takev b at_ s else (0, 4)) := by
  unfold word_Take.f
  rw [sized_eq, Option.bind_some]
  cases h : sz s with
  | false => rfl
  | true =>
    have hs := sz_cases h
    obtain ⟨k, rfl⟩ : ∃ m, k = m + 1 := ⟨k - 1, by omega⟩
    rw [if_pos rfl, if_pos rfl]
    unfold takev
    by_cases hn : at_ < 0
    · rw [if_pos hn, if_pos (Or.inl hn)]
      simp [word_Take.j0]
    · rw [if_neg hn]
      by_cases hg : (b.size : Int) < at_
      · rw [show decide (at_ > (b.size : Int)) = true from decide_eq_true hg, if_pos (Or.inr hg)]
        simp [word_Take.j0]
      · rw [show decide (at_ > (b.size : Int)) = false from decide_eq_false hg, if_neg (by omega)]
        simp only [word_Take.j0]
        have ew : wrap64 ((b.size : Int) - at_) = (b.size : Int) - at_ := by unfold wrap64; omega
        rw [if_neg (by decide), ew]
        by_cases hq : (b.size : Int) - at_ < s
        · rw [if_pos hq, if_pos hq]
        · rw [if_neg hq, if_neg hq]
          obtain ⟨n, rfl⟩ : ∃ n : Nat, s = (n : Int) := ⟨s.toNat, by omega⟩
          have := take_loop b at_ n (by omega) (by omega) (by omega) hz n 0 (k - n - 1) (by omega)
          rw [show n + 1 + (k - n - 1) = k from by omega] at this
          exact this
theorem take (b : ByteArray) (at_ s : Int) (hz : b.size ≤ 9223372036854775807) (h0 : -9223372036854775808 ≤ at_) (h1 : at_ < 9223372036854775808) (w : World) :
    Calls Try.prog 89 #[.string b, .int .i64 at_, .int .i64 s] w fun e w' => e = .returned (.tuple #[.int .u64 (if sz s then takev b at_ s else (0, 4)).1, .int .i64 (if sz s then takev b at_ s else (0, 4)).2]) ∧ Below w.heap.size w w' :=
  (word_Take.calls 12 b at_ s _ _ w (take_eq b at_ s 12 (by decide) hz h0 h1)).mono fun _ _ h => ⟨h.1, drawn_below h.2⟩
end Go.Proofs.Ytimalojaiaofkaa.WdT
namespace Go.Proofs.Ytimalojaiaofkaa.WdT
open Wd Go.RowKit Base Go.Proofs.YtimalojaiaofkaaW.PrintWords Go.Proofs.YtimalojaiaofkaaW.PrintLast Go.Proofs.YtimalojaiaofkaaW.PrintMore Go.Proofs.Ytimalojaiaofkaa.PScriptTakes
theorem rsized_t (s : Int) : broadsheetref01_Sized.f s = some (sz s) := by
  unfold broadsheetref01_Sized.f sz
  by_cases h1 : s = 1
  · simp [h1]
  · by_cases h2 : s = 2
    · simp [h2]
    · by_cases h4 : s = 4
      · simp [h4]
      · simp [h1, h2, h4]
theorem rtake_loop (b : ByteArray) (at_ : Int) (s : Nat) (hs : s ≤ 8) (ha : 0 ≤ at_) (hb : at_ + s ≤ b.size) (hz : b.size ≤ 9223372036854775807) : ∀ (j : Nat) (k : Nat), j ≤ s →
    broadsheetref01_Take.l0 (j + 1 + k) b at_ (lev (fun t => bt b (at_ + ((j + t : Nat) : Int))) (s - j)) ((j : Int) - 1) = some (lev (fun i => bt b (at_ + i)) s, 0)
  | 0, k, h => by
    rw [show 0 + 1 + k = k + 1 from by omega]
    simp only [broadsheetref01_Take.l0]
    rw [if_neg (by omega), Nat.sub_zero]
    simp only [Nat.zero_add]
  | j + 1, k, h => by
    rw [show j + 1 + 1 + k = (j + 1 + k) + 1 from by omega]
    simp only [broadsheetref01_Take.l0]
    have ea : wrap64 (at_ + (((j + 1 : Nat) : Int) - 1)) = at_ + j := by unfold wrap64; omega
    have ew : wrap64 ((((j + 1 : Nat) : Int) - 1) - 1) = (j : Int) - 1 := by unfold wrap64; omega
    have hr := bt_range b (at_ + j)
    have e1 : lev (fun t => bt b (at_ + ((j + t : Nat) : Int))) (s - j) = bt b (at_ + j) + 256 * lev (fun t => bt b (at_ + ((j + 1 + t : Nat) : Int))) (s - (j + 1)) := by
      rw [show s - j = s - (j + 1) + 1 from by omega, lev]
      simp only [Nat.add_zero]
      congr 2
      congr 1
      funext t
      rw [show j + 1 + t = j + (t + 1) from by omega]
    have lo := lev_lo (fun t => bt b (at_ + ((j + 1 + t : Nat) : Int))) (fun i => bt_range b _) (s - (j + 1))
    have hi := lev_hi (fun t => bt b (at_ + ((j + t : Nat) : Int))) (fun i => bt_range b _) (s - j)
    have hp : (256 : Int) ^ (s - j) ≤ 256 ^ 8 := pow_8 (s - j) (by omega)
    have h8 : (256 : Int) ^ 8 = 18446744073709551616 := by decide
    rw [ea, ew, if_pos (by omega), if_pos (by omega), if_pos (by omega)]
    have ex : IntKind.u64.wrap (IntKind.u64.wrap (lev (fun t => bt b (at_ + ((j + 1 + t : Nat) : Int))) (s - (j + 1)) * 256) + IntKind.u64.wrap (bt b (at_ + j))) = lev (fun t => bt b (at_ + ((j + t : Nat) : Int))) (s - j) := by
      rw [u64_mod, u64_mod, u64_mod]
      omega
    rw [ex]
    exact rtake_loop b at_ s hs ha hb hz j k (by omega)
theorem rtake_eq (b : ByteArray) (at_ s : Int) (k : Nat) (hk : 12 ≤ k) (hz : b.size ≤ 9223372036854775807) (h0 : -9223372036854775808 ≤ at_) (h1 : at_ < 9223372036854775808) : broadsheetref01_Take.f k b at_ s = some (if sz s then takev b at_ s else (0, 4)) := by
  unfold broadsheetref01_Take.f
  rw [rsized_t, Option.bind_some]
  cases h : sz s with
  | false => rfl
  | true =>
    have hs := sz_cases h
    obtain ⟨k, rfl⟩ : ∃ m, k = m + 1 := ⟨k - 1, by omega⟩
    rw [if_pos rfl, if_pos rfl]
    unfold takev
    by_cases hn : at_ < 0
    · rw [if_pos hn, if_pos (Or.inl hn)]
      simp [broadsheetref01_Take.j0]
    · rw [if_neg hn]
      by_cases hg : (b.size : Int) < at_
      · rw [show decide (at_ > (b.size : Int)) = true from decide_eq_true hg, if_pos (Or.inr hg)]
        simp [broadsheetref01_Take.j0]
      · rw [show decide (at_ > (b.size : Int)) = false from decide_eq_false hg, if_neg (by omega)]
        simp only [broadsheetref01_Take.j0]
        have ew : wrap64 ((b.size : Int) - at_) = (b.size : Int) - at_ := by unfold wrap64; omega
        rw [if_neg (by decide), ew]
        by_cases hq : (b.size : Int) - at_ < s
        · rw [if_pos hq, if_pos hq]
        · rw [if_neg hq, if_neg hq]
          obtain ⟨n, rfl⟩ : ∃ n : Nat, s = (n : Int) := ⟨s.toNat, by omega⟩
          have ew2 : wrap64 ((n : Int) - 1) = (n : Int) - 1 := by unfold wrap64; omega
          have := rtake_loop b at_ n (by omega) (by omega) (by omega) hz n (k - n - 1) (by omega)
          rw [show n + 1 + (k - n - 1) = k from by omega, Nat.sub_self] at this
          rw [ew2]
          exact this
theorem rtake (b : ByteArray) (at_ s : Int) (hz : b.size ≤ 9223372036854775807) (h0 : -9223372036854775808 ≤ at_) (h1 : at_ < 9223372036854775808) (w : World) :
    Calls Try.prog 106 #[.string b, .int .i64 at_, .int .i64 s] w fun e w' => e = .returned (.tuple #[.int .u64 (if sz s then takev b at_ s else (0, 4)).1, .int .i64 (if sz s then takev b at_ s else (0, 4)).2]) ∧ Below w.heap.size w w' :=
  (broadsheetref01_Take.calls 12 b at_ s _ _ w (rtake_eq b at_ s 12 (by decide) hz h0 h1)).mono fun _ _ h => ⟨h.1, drawn_below h.2⟩
end Go.Proofs.Ytimalojaiaofkaa.WdT
namespace Go.Proofs.Ytimalojaiaofkaa.WdST
open Go.RowKit Base Go.Proofs.YtimalojaiaofkaaW.PrintWords Go.Proofs.YtimalojaiaofkaaW.PrintLast Go.Proofs.YtimalojaiaofkaaW.PrintMore Wd Go.Proofs.Ytimalojaiaofkaa.PScriptTakes
theorem sized_eq (s : Int) : word_sized.f s = some (sz s) := by
  unfold word_sized.f sz
  by_cases h1 : s = 1
  · simp [h1]
  · by_cases h2 : s = 2
    · simp [h2]
    · by_cases h4 : s = 4
      · simp [h4]
      · simp [h1, h2, h4]
theorem sign_1 (n : Int) : word_Sign.f n 1 = some (sgn n 1) := by
  unfold word_Sign.f
  rw [sized_eq, show sz 1 = true from rfl, Option.bind_some, if_pos rfl, show IntKind.u64.wrap (wrap64 (64 - wrap64 (8 * 1))) = ((56 : Nat) : Int) from by kernel_rfl, if_pos (by decide), shi _ _ (by decide), sl_ _ _ (by decide)]
  congr 1
  unfold sgn pw hf wrap64
  simp only [if_true]
  omega
theorem sign_2 (n : Int) : word_Sign.f n 2 = some (sgn n 2) := by
  unfold word_Sign.f
  rw [sized_eq, show sz 2 = true from rfl, Option.bind_some, if_pos rfl, show IntKind.u64.wrap (wrap64 (64 - wrap64 (8 * 2))) = ((48 : Nat) : Int) from by kernel_rfl, if_pos (by decide), shi _ _ (by decide), sl_ _ _ (by decide)]
  congr 1
  unfold sgn pw hf wrap64
  simp
  omega
theorem sign_4 (n : Int) : word_Sign.f n 4 = some (sgn n 4) := by
  unfold word_Sign.f
  rw [sized_eq, show sz 4 = true from rfl, Option.bind_some, if_pos rfl, show IntKind.u64.wrap (wrap64 (64 - wrap64 (8 * 4))) = ((32 : Nat) : Int) from by kernel_rfl, if_pos (by decide), shi _ _ (by decide), sl_ _ _ (by decide)]
  congr 1
  unfold sgn pw hf wrap64
  simp
  omega
theorem sign_8 (n : Int) : word_Sign.f n 8 = some (sgn n 8) := by
  unfold word_Sign.f
  rw [sized_eq, show sz 8 = true from rfl, Option.bind_some, if_pos rfl, show IntKind.u64.wrap (wrap64 (64 - wrap64 (8 * 8))) = ((0 : Nat) : Int) from by kernel_rfl, if_pos (by decide), shi _ _ (by decide), sl_ _ _ (by decide)]
  congr 1
  unfold sgn pw hf wrap64
  simp
  omega
theorem sign_eq (n s : Int) : word_Sign.f n s = some (if sz s then sgn n s else 0) := by
  cases h : sz s with
  | false =>
    unfold word_Sign.f
    rw [sized_eq, h]
    rfl
  | true =>
    rcases sz_cases h with rfl | rfl | rfl | rfl
    · exact sign_1 n
    · exact sign_2 n
    · exact sign_4 n
    · exact sign_8 n
theorem ssized_eq (s : Int) : broadsheetref01_Sized.f s = some (sz s) := sized_eq s
theorem half_eq {s : Int} (h : sz s = true) : broadsheetref01_half.f 12 s = some (hf s) := by
  rcases sz_cases h with rfl | rfl | rfl | rfl <;> kernel_rfl
theorem rlow_eq (n s : Int) (h : sz s = true) (h0 : 0 ≤ n) (h1 : n < 18446744073709551616) : broadsheetref01_Low.f 12 n s = some (n % pw s) := by
  unfold broadsheetref01_Low.f
  rw [half_eq h, Option.bind_some, Int.tmod_eq_emod_of_nonneg h0, Int.tdiv_eq_ediv_of_nonneg h0]
  rcases sz_cases h with rfl | rfl | rfl | rfl
  · rw [if_neg (by decide)]
    simp only [u64_mod]
    show some ((n % 128 + 128 * Int.tmod (n / 128 % 18446744073709551616) 2 % 18446744073709551616) % 18446744073709551616) = some (n % 256)
    rw [Int.tmod_eq_emod_of_nonneg (by omega)]
    congr 1
    omega
  · rw [if_neg (by decide)]
    simp only [u64_mod]
    show some ((n % 32768 + 32768 * Int.tmod (n / 32768 % 18446744073709551616) 2 % 18446744073709551616) % 18446744073709551616) = some (n % 65536)
    rw [Int.tmod_eq_emod_of_nonneg (by omega)]
    congr 1
    omega
  · rw [if_neg (by decide)]
    simp only [u64_mod]
    show some ((n % 2147483648 + 2147483648 * Int.tmod (n / 2147483648 % 18446744073709551616) 2 % 18446744073709551616) % 18446744073709551616) = some (n % 4294967296)
    rw [Int.tmod_eq_emod_of_nonneg (by omega)]
    congr 1
    omega
  · rw [if_neg (by decide)]
    simp only [u64_mod]
    show some ((n % 9223372036854775808 + 9223372036854775808 * Int.tmod (n / 9223372036854775808 % 18446744073709551616) 2 % 18446744073709551616) % 18446744073709551616) = some (n % 18446744073709551616)
    rw [Int.tmod_eq_emod_of_nonneg (by omega)]
    congr 1
    omega
theorem rsign_eq (n s : Int) (h0 : 0 ≤ n) (h1 : n < 18446744073709551616) : broadsheetref01_Sign.f 12 n s = some (if sz s then sgn n s else 0) := by
  unfold broadsheetref01_Sign.f
  rw [ssized_eq, Option.bind_some]
  cases h : sz s with
  | false => rfl
  | true =>
    rw [if_pos rfl, if_pos rfl, rlow_eq n s h h0 h1, Option.bind_some, half_eq h, Option.bind_some]
    unfold sgn
    have hb : n % pw s < hf s ∨ (hf s ≤ n % pw s ∧ n % pw s < pw s) := by
      rcases sz_cases h with rfl | rfl | rfl | rfl
      · show n % 256 < 128 ∨ (128 ≤ n % 256 ∧ n % 256 < 256); omega
      · show n % 65536 < 32768 ∨ (32768 ≤ n % 65536 ∧ n % 65536 < 65536); omega
      · show n % 4294967296 < 2147483648 ∨ (2147483648 ≤ n % 4294967296 ∧ n % 4294967296 < 4294967296); omega
      · show n % 18446744073709551616 < 9223372036854775808 ∨ (9223372036854775808 ≤ n % 18446744073709551616 ∧ n % 18446744073709551616 < 18446744073709551616); omega
    have hl : 0 ≤ n % pw s := by
      rcases sz_cases h with rfl | rfl | rfl | rfl
      · show 0 ≤ n % 256; omega
      · show 0 ≤ n % 65536; omega
      · show 0 ≤ n % 4294967296; omega
      · show 0 ≤ n % 18446744073709551616; omega
    have hh : hf s * 2 = pw s ∧ 128 ≤ hf s ∧ hf s ≤ 9223372036854775808 := by
      rcases sz_cases h with rfl | rfl | rfl | rfl <;> decide
    generalize n % pw s = l at *
    generalize hf s = f at *
    generalize pw s = p at *
    rcases hb with hb | ⟨hb, hc⟩
    · rw [if_pos hb, if_pos hb]
      congr 1
      unfold wrap64
      omega
    · rw [if_neg (by omega), if_neg (by omega)]
      congr 1
      rw [u64_mod, u64_mod]
      unfold wrap64
      omega
end Go.Proofs.Ytimalojaiaofkaa.WdST
