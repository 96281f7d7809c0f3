-- PRINTED BY print.sh 35421559b90ae4d0a3588c463048766b98c2df88dd9212a6774a882060cdf62d: not written by this session
import Derived.Test.YtflkefabbdelaaaPPrimKindsx0
import Derived.Test.YtflkefabbdelaaaPPrimKindsx1
namespace Go.Proofs.Ytflkefabbdelaaa.PPrimKinds
open Go.RowKit Go.Proofs.YtflkefabbdelaaaW.PrintWords Go.Proofs.YtflkefabbdelaaaW.PrintLast Go.Proofs.YtflkefabbdelaaaW.PrintMore
attribute [local go_sem] max2_int min2_int max_two min_two max_three min_three max_four min_four   -- for this text's walks alone
set_option linter.unusedVariables false
set_option linter.unusedSimpArgs false

/-! ### broadsheetref01_Bits: function 26 -/
def broadsheetref01_Bits.j0 : Nat → Int → Int → Bool → Option (Int × Int)
  | 0, _, _, _ => none
  | k + 1, x0, x6, x31 => if x31 = true then (some (0, 7)) else (if x0 ≥ 0 then (some (IntKind.u64.wrap (x0), 0)) else (some (IntKind.u64.wrap (x6 + (IntKind.u64.wrap ((IntKind.u64.wrap (x6 - 1)) - (IntKind.u64.wrap (wrap64 (-(wrap64 (x0 + 1)))))))), 0)))
def broadsheetref01_Bits.f (k : Nat) (a0 : Int) (a1 : Int) : Option (Int × Int) := (broadsheetref01_Sized.f a1).bind fun t109 => (if t109 = true then ((broadsheetref01_half.f k a1).bind fun t110 => (if a0 ≥ 0 then (if (IntKind.u64.wrap (a0)) ≥ t110 then (broadsheetref01_Bits.j0 k a0 t110 true) else (if a0 < 0 then (broadsheetref01_Bits.j0 k a0 t110 (decide ((IntKind.u64.wrap (wrap64 (-(wrap64 (a0 + 1))))) ≥ t110))) else (broadsheetref01_Bits.j0 k a0 t110 false))) else (if a0 < 0 then (broadsheetref01_Bits.j0 k a0 t110 (decide ((IntKind.u64.wrap (wrap64 (-(wrap64 (a0 + 1))))) ≥ t110))) else (broadsheetref01_Bits.j0 k a0 t110 false)))) else (some (0, 4)))
theorem broadsheetref01_Bits.mono_l : ∀ k, (∀ y0 y1 y2, LeO (broadsheetref01_Bits.j0 k y0 y1 y2) (broadsheetref01_Bits.j0 (k + 1) y0 y1 y2))
  | 0 => fun _ _ _ r h => by simp [broadsheetref01_Bits.j0] at h
  | k + 1 => by
    have ih0 := broadsheetref01_Bits.mono_l k
    · intro y0 y1 y2
      unfold broadsheetref01_Bits.j0
      repeat' first
      | (with_reducible exact ih0 _ _ _)
      | (with_reducible exact broadsheetref01_half.mono _ _)
      | (with_reducible exact LeO.refl _)
      | (with_reducible exact LeO.none _)
      | (with_reducible refine LeO.ite ?_ ?_)
      | (with_reducible refine LeO.bind ?_ (fun _ => ?_))
      | exact ih0 _ _ _
      | exact broadsheetref01_half.mono _ _
      | exact LeO.none _
      | refine LeO.ite ?_ ?_
      | refine LeO.bind ?_ (fun _ => ?_)
theorem broadsheetref01_Bits.mono : ∀ a0 a1 k, LeO (broadsheetref01_Bits.f k a0 a1) (broadsheetref01_Bits.f (k + 1) a0 a1) := by
  intro a0 a1 k
  have ih0 := broadsheetref01_Bits.mono_l k
  unfold broadsheetref01_Bits.f
  repeat' first
      | (with_reducible exact ih0 _ _ _)
      | (with_reducible exact broadsheetref01_half.mono _ _)
      | (with_reducible exact LeO.refl _)
      | (with_reducible exact LeO.none _)
      | (with_reducible refine LeO.ite ?_ ?_)
      | (with_reducible refine LeO.bind ?_ (fun _ => ?_))
      | exact ih0 _ _ _
      | exact broadsheetref01_half.mono _ _
      | exact LeO.none _
      | refine LeO.ite ?_ ?_
      | refine LeO.bind ?_ (fun _ => ?_)
set_option maxHeartbeats 8000000 in
set_option maxRecDepth 100000 in
theorem broadsheetref01_Bits.calls (k : Nat) (a0 : Int) (a1 : Int) (r1 : Int) (r2 : Int) (w : World) (h : broadsheetref01_Bits.f k a0 a1 = some (r1, r2)) :
    Calls Try.prog 26 #[.int .i64 a0, .int .i64 a1] w fun e w' => e = .returned (.tuple #[.int .u64 r1, .int .i64 r2]) ∧ Drawn0 w w' := by
  have H : ((broadsheetref01_Sized.f a1).bind fun t109 => (if t109 = true then ((broadsheetref01_half.f k a1).bind fun t110 => (if a0 ≥ 0 then (if (IntKind.u64.wrap (a0)) ≥ t110 then (broadsheetref01_Bits.j0 k a0 t110 true) else (if a0 < 0 then (broadsheetref01_Bits.j0 k a0 t110 (decide ((IntKind.u64.wrap (wrap64 (-(wrap64 (a0 + 1))))) ≥ t110))) else (broadsheetref01_Bits.j0 k a0 t110 false))) else (if a0 < 0 then (broadsheetref01_Bits.j0 k a0 t110 (decide ((IntKind.u64.wrap (wrap64 (-(wrap64 (a0 + 1))))) ≥ t110))) else (broadsheetref01_Bits.j0 k a0 t110 false)))) else (some (0, 4)))) = some (r1, r2) := h
  clear h
  replace H := Option.bind_eq_some_iff.mp H
  obtain ⟨t109, A30, H⟩ := H
  replace H : (if t109 = true then ((broadsheetref01_half.f k a1).bind fun t110 => (if a0 ≥ 0 then (if (IntKind.u64.wrap (a0)) ≥ t110 then (broadsheetref01_Bits.j0 k a0 t110 true) else (if a0 < 0 then (broadsheetref01_Bits.j0 k a0 t110 (decide ((IntKind.u64.wrap (wrap64 (-(wrap64 (a0 + 1))))) ≥ t110))) else (broadsheetref01_Bits.j0 k a0 t110 false))) else (if a0 < 0 then (broadsheetref01_Bits.j0 k a0 t110 (decide ((IntKind.u64.wrap (wrap64 (-(wrap64 (a0 + 1))))) ≥ t110))) else (broadsheetref01_Bits.j0 k a0 t110 false)))) else (some (0, 4))) = some (r1, r2) := H
  have A3 := Aside0.mk A30
  clear A30
  by_cases c4 : t109 = true
  · subst c4
    have H1 : ((broadsheetref01_half.f k a1).bind fun t110 => (if a0 ≥ 0 then (if (IntKind.u64.wrap (a0)) ≥ t110 then (broadsheetref01_Bits.j0 k a0 t110 true) else (if a0 < 0 then (broadsheetref01_Bits.j0 k a0 t110 (decide ((IntKind.u64.wrap (wrap64 (-(wrap64 (a0 + 1))))) ≥ t110))) else (broadsheetref01_Bits.j0 k a0 t110 false))) else (if a0 < 0 then (broadsheetref01_Bits.j0 k a0 t110 (decide ((IntKind.u64.wrap (wrap64 (-(wrap64 (a0 + 1))))) ≥ t110))) else (broadsheetref01_Bits.j0 k a0 t110 false)))) = some (r1, r2) := by rw [if_pos rfl] at H; exact H
    clear H
    have H := H1
    clear H1
    replace H := Option.bind_eq_some_iff.mp H
    obtain ⟨t110, A50, H⟩ := H
    replace H : (if a0 ≥ 0 then (if (IntKind.u64.wrap (a0)) ≥ t110 then (broadsheetref01_Bits.j0 k a0 t110 true) else (if a0 < 0 then (broadsheetref01_Bits.j0 k a0 t110 (decide ((IntKind.u64.wrap (wrap64 (-(wrap64 (a0 + 1))))) ≥ t110))) else (broadsheetref01_Bits.j0 k a0 t110 false))) else (if a0 < 0 then (broadsheetref01_Bits.j0 k a0 t110 (decide ((IntKind.u64.wrap (wrap64 (-(wrap64 (a0 + 1))))) ≥ t110))) else (broadsheetref01_Bits.j0 k a0 t110 false))) = some (r1, r2) := H
    have A5 := Aside0.mk A50
    clear A50
    have HC6 := Aside0.mk H
    clear H
    go_enter Try.func26, Try.ntmps26
    go_upto_region 4 with (first | ((with_reducible refine gate_callee (f := 36) rfl ?_); refine goesL_ (some 8) rfl rfl Try.func36 (by kernel_rfl) rfl #[.int .i64 a1] rfl (by (try simp only [List.map_toArray, List.map_cons, List.map_nil]); first | done | rfl | (simp only [List.length_drop, List.length_take]; rfl)) ?_; (with_reducible refine (broadsheetref01_Sized.calls a1 true _ A3.out).mono ?_); rintro e w' ⟨rfl, ⟨nd, rfl⟩⟩; refine ⟨_, rfl, ?_⟩) | ((with_reducible refine gate_callee (f := 37) rfl ?_); refine goesL_ (some 11) rfl rfl Try.func37 (by kernel_rfl) rfl #[.int .i64 a1] rfl (by (try simp only [List.map_toArray, List.map_cons, List.map_nil]); first | done | rfl | (simp only [List.length_drop, List.length_take]; rfl)) ?_; (with_reducible refine (broadsheetref01_half.calls k a1 t110 _ A5.out).mono ?_); rintro e w' ⟨rfl, ⟨nd, rfl⟩⟩; refine ⟨_, rfl, ?_⟩))
    (try simp only [Act.put, List.setIfInBounds_toArray, List.set_cons_zero, List.set_cons_succ])
    go_cut [31] (fun v31 wc => ∃ (kq : Nat) (x31_5 : Bool), v31 = .bool x31_5 ∧ Aside0 (broadsheetref01_Bits.j0 kq a0 t110 x31_5 = some (r1, r2)) ∧ Aside0 (kq ≤ k) ∧ Drawn0 w wc)
    case first =>
      have H := HC6.out
      clear HC6
      by_cases c7 : a0 ≥ 0
      · rw [if_pos c7] at H
        have c7b0 : decide (0 ≤ a0) = true := decide_eq_true c7
        clear c7
        (first | rw [c7b0] | (simp only [i64_w, i32_w]; rw [c7b0]) | skip)
        by_cases c8 : (IntKind.u64.wrap (a0)) ≥ t110
        · rw [if_pos c8] at H
          have c8b0 : decide (t110 ≤ (IntKind.u64.wrap (a0))) = true := decide_eq_true c8
          clear c8
          have H' := Aside0.mk H
          clear H
          go_wp2
          go_meet
          case rel => exact ⟨_, (true), (by first | rfl | (simp; done) | (simp [*]; done)), H', ⟨by first | omega | exact Nat.le_refl _⟩, by repeat (first | exact Drawn0.refl _ | apply Drawn0.step)⟩
        · rw [if_neg c8] at H
          have c8b0 : decide (t110 ≤ (IntKind.u64.wrap (a0))) = false := decide_eq_false c8
          clear c8
          by_cases c9 : a0 < 0
          · rw [if_pos c9] at H
            have c9b0 : decide (a0 < 0) = true := decide_eq_true c9
            clear c9
            have H' := Aside0.mk H
            clear H
            go_wp2
            go_meet
            case rel => exact ⟨_, (decide ((IntKind.u64.wrap (wrap64 (-(wrap64 (a0 + 1))))) ≥ t110)), (by first | rfl | (simp; done) | (simp [*]; done)), H', ⟨by first | omega | exact Nat.le_refl _⟩, by repeat (first | exact Drawn0.refl _ | apply Drawn0.step)⟩
          · rw [if_neg c9] at H
            have c9b0 : decide (a0 < 0) = false := decide_eq_false c9
            clear c9
            have H' := Aside0.mk H
            clear H
            go_wp2
            go_meet
            case rel => exact ⟨_, (false), (by first | rfl | (simp; done) | (simp [*]; done)), H', ⟨by first | omega | exact Nat.le_refl _⟩, by repeat (first | exact Drawn0.refl _ | apply Drawn0.step)⟩
      · rw [if_neg c7] at H
        have c7b0 : decide (0 ≤ a0) = false := decide_eq_false c7
        clear c7
        (first | rw [c7b0] | (simp only [i64_w, i32_w]; rw [c7b0]) | skip)
        by_cases c10 : a0 < 0
        · rw [if_pos c10] at H
          have c10b0 : decide (a0 < 0) = true := decide_eq_true c10
          clear c10
          have H' := Aside0.mk H
          clear H
          go_wp2
          go_meet
          case rel => exact ⟨_, (decide ((IntKind.u64.wrap (wrap64 (-(wrap64 (a0 + 1))))) ≥ t110)), (by first | rfl | (simp; done) | (simp [*]; done)), H', ⟨by first | omega | exact Nat.le_refl _⟩, by repeat (first | exact Drawn0.refl _ | apply Drawn0.step)⟩
        · rw [if_neg c10] at H
          have c10b0 : decide (a0 < 0) = false := decide_eq_false c10
          clear c10
          have H' := Aside0.mk H
          clear H
          go_wp2
          go_meet
          case rel => exact ⟨_, (false), (by first | rfl | (simp; done) | (simp [*]; done)), H', ⟨by first | omega | exact Nat.le_refl _⟩, by repeat (first | exact Drawn0.refl _ | apply Drawn0.step)⟩
    case rest =>
      clear HC6
      try clear c1
      try clear c2
      try clear p2
      try clear c3
      try clear c4
      try clear p6
      try clear c7
      try clear c7b0
      try clear c8
      try clear c8b0
      try clear c9
      try clear c9b0
      try clear c10
      try clear c10b0
      obtain ⟨kq, x31_5, rfl, HA, HJ5, ⟨mc5, rfl⟩⟩ := hcut
      cases kq with
      | zero => exact absurd HA.out (by simp [broadsheetref01_Bits.j0])
      | succ kj5 =>
        have H := HA.out
        clear HA
        simp only [broadsheetref01_Bits.j0] at H
        by_cases c11 : x31_5 = true
        · subst c11
          have H1 : (some (0, 7)) = some (r1, r2) := by rw [if_pos rfl] at H; exact H
          clear H
          have H := H1
          clear H1
          simp only [Option.some.injEq, Prod.mk.injEq] at H
          obtain ⟨rfl, rfl⟩ := H
          go_wp2
          go_ret2
          exact ⟨by first | rfl | (simp; done) | (simp [*]; done), by repeat (first | exact Drawn0.refl _ | apply Drawn0.step)⟩
        · replace c11 := Bool.eq_false_iff.mpr c11
          subst c11
          have H1 : (if a0 ≥ 0 then (some (IntKind.u64.wrap (a0), 0)) else (some (IntKind.u64.wrap (t110 + (IntKind.u64.wrap ((IntKind.u64.wrap (t110 - 1)) - (IntKind.u64.wrap (wrap64 (-(wrap64 (a0 + 1)))))))), 0))) = some (r1, r2) := by rw [if_neg (show ¬ (false = true) by decide)] at H; exact H
          clear H
          have H := H1
          clear H1
          by_cases c12 : a0 ≥ 0
          · rw [if_pos c12] at H
            have c12b0 : decide (0 ≤ a0) = true := decide_eq_true c12
            clear c12
            simp only [Option.some.injEq, Prod.mk.injEq] at H
            obtain ⟨rfl, rfl⟩ := H
            go_wp2
            go_ret2
            exact ⟨by first | rfl | (simp; done) | (simp [*]; done), by repeat (first | exact Drawn0.refl _ | apply Drawn0.step)⟩
          · rw [if_neg c12] at H
            have c12b0 : decide (0 ≤ a0) = false := decide_eq_false c12
            clear c12
            simp only [Option.some.injEq, Prod.mk.injEq] at H
            obtain ⟨rfl, rfl⟩ := H
            go_wp2
            go_ret2
            exact ⟨by first | rfl | (simp; done) | (simp [*]; done), by repeat (first | exact Drawn0.refl _ | apply Drawn0.step)⟩
  · replace c4 := Bool.eq_false_iff.mpr c4
    subst c4
    have H1 : (some (0, 4)) = some (r1, r2) := by rw [if_neg (show ¬ (false = true) by decide)] at H; exact H
    clear H
    have H := H1
    clear H1
    simp only [Option.some.injEq, Prod.mk.injEq] at H
    obtain ⟨rfl, rfl⟩ := H
    go_enter Try.func26, Try.ntmps26
    go_wp2_with (first | ((with_reducible refine gate_callee (f := 36) rfl ?_); refine goesL_ (some 8) rfl rfl Try.func36 (by kernel_rfl) rfl #[.int .i64 a1] rfl (by (try simp only [List.map_toArray, List.map_cons, List.map_nil]); first | done | rfl | (simp only [List.length_drop, List.length_take]; rfl)) ?_; (with_reducible refine (broadsheetref01_Sized.calls a1 false _ A3.out).mono ?_); rintro e w' ⟨rfl, ⟨nd, rfl⟩⟩; refine ⟨_, rfl, ?_⟩))
    go_ret2
    exact ⟨by first | rfl | (simp; done) | (simp [*]; done), by repeat (first | exact Drawn0.refl _ | apply Drawn0.step)⟩

/-! ### broadsheetref05_May: function 13 -/
def broadsheetref05_May.f (k : Nat) (a0 : Int) (a1 : Int) : Option (Bool) := if a0 = 1 then (some (decide (a1 < 2))) else ((broadsheetref05_Number.f a0).bind fun t111 => (if t111 = true then ((broadsheetref05_Signed.f a0).bind fun t112 => (if t112 = true then ((broadsheetref05_Size.f k a0).bind fun t113 => ((broadsheetref01_Bits.f k (wrap64 (a1)) t113).bind fun bt114 => (some (bt114.2 == 0)))) else ((broadsheetref05_Low.f k a0 a1).bind fun t116 => (some (t116 == a1))))) else (some false)))
theorem broadsheetref05_May.mono : ∀ a0 a1 k, LeO (broadsheetref05_May.f k a0 a1) (broadsheetref05_May.f (k + 1) a0 a1) := by
  intro a0 a1 k
  unfold broadsheetref05_May.f
  repeat' first
      | (with_reducible exact broadsheetref01_Bits.mono _ _ _)
      | (with_reducible exact broadsheetref05_Low.mono _ _ _)
      | (with_reducible exact broadsheetref05_Size.mono _ _)
      | (with_reducible exact LeO.refl _)
      | (with_reducible exact LeO.none _)
      | (with_reducible refine LeO.ite ?_ ?_)
      | (with_reducible refine LeO.bind ?_ (fun _ => ?_))
      | exact broadsheetref01_Bits.mono _ _ _
      | exact broadsheetref05_Low.mono _ _ _
      | exact broadsheetref05_Size.mono _ _
      | exact LeO.none _
      | refine LeO.ite ?_ ?_
      | refine LeO.bind ?_ (fun _ => ?_)
set_option maxHeartbeats 8000000 in
set_option maxRecDepth 100000 in
theorem broadsheetref05_May.calls (k : Nat) (a0 : Int) (a1 : Int) (r : Bool) (w : World) (h : broadsheetref05_May.f k a0 a1 = some r) :
    Calls Try.prog 13 #[.int .i64 a0, .int .u64 a1] w fun e w' => e = .returned (.bool r) ∧ Drawn0 w w' := by
  have H : (if a0 = 1 then (some (decide (a1 < 2))) else ((broadsheetref05_Number.f a0).bind fun t111 => (if t111 = true then ((broadsheetref05_Signed.f a0).bind fun t112 => (if t112 = true then ((broadsheetref05_Size.f k a0).bind fun t113 => ((broadsheetref01_Bits.f k (wrap64 (a1)) t113).bind fun bt114 => (some (bt114.2 == 0)))) else ((broadsheetref05_Low.f k a0 a1).bind fun t116 => (some (t116 == a1))))) else (some false)))) = some r := h
  clear h
  by_cases c3 : a0 = 1
  · rw [if_pos c3] at H
    have c3b0 : (a0 == 1) = true := beq_iff_eq.mpr c3
    have c3b1 : (a0 != 1) = false := bne_eq_false_iff_eq.mpr c3
    clear c3
    obtain rfl := Option.some.inj H
    go_enter Try.func13, Try.ntmps13
    go_wp2
    go_ret
    exact ⟨by first | rfl | (simp; done) | (simp [*]; done), by repeat (first | exact Drawn0.refl _ | apply Drawn0.step)⟩
  · rw [if_neg c3] at H
    have c3b0 : (a0 == 1) = false := beq_eq_false_iff_ne.mpr c3
    have c3b1 : (a0 != 1) = true := bne_iff_ne.mpr c3
    replace H := Option.bind_eq_some_iff.mp H
    obtain ⟨t111, A40, H⟩ := H
    replace H : (if t111 = true then ((broadsheetref05_Signed.f a0).bind fun t112 => (if t112 = true then ((broadsheetref05_Size.f k a0).bind fun t113 => ((broadsheetref01_Bits.f k (wrap64 (a1)) t113).bind fun bt114 => (some (bt114.2 == 0)))) else ((broadsheetref05_Low.f k a0 a1).bind fun t116 => (some (t116 == a1))))) else (some false)) = some r := H
    have A4 := Aside0.mk A40
    clear A40
    by_cases c5 : t111 = true
    · subst c5
      have H1 : ((broadsheetref05_Signed.f a0).bind fun t112 => (if t112 = true then ((broadsheetref05_Size.f k a0).bind fun t113 => ((broadsheetref01_Bits.f k (wrap64 (a1)) t113).bind fun bt114 => (some (bt114.2 == 0)))) else ((broadsheetref05_Low.f k a0 a1).bind fun t116 => (some (t116 == a1))))) = some r := by rw [if_pos rfl] at H; exact H
      clear H
      have H := H1
      clear H1
      replace H := Option.bind_eq_some_iff.mp H
      obtain ⟨t112, A60, H⟩ := H
      replace H : (if t112 = true then ((broadsheetref05_Size.f k a0).bind fun t113 => ((broadsheetref01_Bits.f k (wrap64 (a1)) t113).bind fun bt114 => (some (bt114.2 == 0)))) else ((broadsheetref05_Low.f k a0 a1).bind fun t116 => (some (t116 == a1)))) = some r := H
      have A6 := Aside0.mk A60
      clear A60
      by_cases c7 : t112 = true
      · subst c7
        have H1 : ((broadsheetref05_Size.f k a0).bind fun t113 => ((broadsheetref01_Bits.f k (wrap64 (a1)) t113).bind fun bt114 => (some (bt114.2 == 0)))) = some r := by rw [if_pos rfl] at H; exact H
        clear H
        have H := H1
        clear H1
        replace H := Option.bind_eq_some_iff.mp H
        obtain ⟨t113, A80, H⟩ := H
        replace H : ((broadsheetref01_Bits.f k (wrap64 (a1)) t113).bind fun bt114 => (some (bt114.2 == 0))) = some r := H
        have A8 := Aside0.mk A80
        clear A80
        replace H := Option.bind_eq_some_iff.mp H
        obtain ⟨⟨t114, t115⟩, A90, H⟩ := H
        replace H : (some (t115 == 0)) = some r := H
        have A9 := Aside0.mk A90
        clear A90
        obtain rfl := Option.some.inj H
        go_enter Try.func13, Try.ntmps13
        go_wp2_with (first | ((with_reducible refine gate_callee (f := 7) rfl ?_); refine goesL_ (some 12) rfl rfl Try.func7 (by kernel_rfl) rfl #[.int .i64 a0] rfl (by (try simp only [List.map_toArray, List.map_cons, List.map_nil]); first | done | rfl | (simp only [List.length_drop, List.length_take]; rfl)) ?_; (with_reducible refine (broadsheetref05_Number.calls a0 true _ A4.out).mono ?_); rintro e w' ⟨rfl, ⟨nd, rfl⟩⟩; refine ⟨_, rfl, ?_⟩) | ((with_reducible refine gate_callee (f := 11) rfl ?_); refine goesL_ (some 15) rfl rfl Try.func11 (by kernel_rfl) rfl #[.int .i64 a0] rfl (by (try simp only [List.map_toArray, List.map_cons, List.map_nil]); first | done | rfl | (simp only [List.length_drop, List.length_take]; rfl)) ?_; (with_reducible refine (broadsheetref05_Signed.calls a0 true _ A6.out).mono ?_); rintro e w' ⟨rfl, ⟨nd, rfl⟩⟩; refine ⟨_, rfl, ?_⟩) | ((with_reducible refine gate_callee (f := 9) rfl ?_); refine goesL_ (some 20) rfl rfl Try.func9 (by kernel_rfl) rfl #[.int .i64 a0] rfl (by (try simp only [List.map_toArray, List.map_cons, List.map_nil]); first | done | rfl | (simp only [List.length_drop, List.length_take]; rfl)) ?_; (with_reducible refine (broadsheetref05_Size.calls k a0 t113 _ A8.out).mono ?_); rintro e w' ⟨rfl, ⟨nd, rfl⟩⟩; refine ⟨_, rfl, ?_⟩) | ((with_reducible refine gate_callee (f := 26) rfl ?_); refine goesL_ (some 21) rfl rfl Try.func26 (by kernel_rfl) rfl #[.int .i64 (wrap64 (a1)), .int .i64 t113] rfl (by (try simp only [List.map_toArray, List.map_cons, List.map_nil]); first | done | rfl | (simp only [List.length_drop, List.length_take]; rfl)) ?_; (with_reducible refine (broadsheetref01_Bits.calls k (wrap64 (a1)) t113 t114 t115 _ A9.out).mono ?_); rintro e w' ⟨rfl, ⟨nd, rfl⟩⟩; refine ⟨_, rfl, ?_⟩))
        go_ret
        exact ⟨by first | rfl | (simp; done) | (simp [*]; done), by repeat (first | exact Drawn0.refl _ | apply Drawn0.step)⟩
      · replace c7 := Bool.eq_false_iff.mpr c7
        subst c7
        have H1 : ((broadsheetref05_Low.f k a0 a1).bind fun t116 => (some (t116 == a1))) = some r := by rw [if_neg (show ¬ (false = true) by decide)] at H; exact H
        clear H
        have H := H1
        clear H1
        replace H := Option.bind_eq_some_iff.mp H
        obtain ⟨t116, A100, H⟩ := H
        replace H : (some (t116 == a1)) = some r := H
        have A10 := Aside0.mk A100
        clear A100
        obtain rfl := Option.some.inj H
        go_enter Try.func13, Try.ntmps13
        go_wp2_with (first | ((with_reducible refine gate_callee (f := 7) rfl ?_); refine goesL_ (some 12) rfl rfl Try.func7 (by kernel_rfl) rfl #[.int .i64 a0] rfl (by (try simp only [List.map_toArray, List.map_cons, List.map_nil]); first | done | rfl | (simp only [List.length_drop, List.length_take]; rfl)) ?_; (with_reducible refine (broadsheetref05_Number.calls a0 true _ A4.out).mono ?_); rintro e w' ⟨rfl, ⟨nd, rfl⟩⟩; refine ⟨_, rfl, ?_⟩) | ((with_reducible refine gate_callee (f := 11) rfl ?_); refine goesL_ (some 15) rfl rfl Try.func11 (by kernel_rfl) rfl #[.int .i64 a0] rfl (by (try simp only [List.map_toArray, List.map_cons, List.map_nil]); first | done | rfl | (simp only [List.length_drop, List.length_take]; rfl)) ?_; (with_reducible refine (broadsheetref05_Signed.calls a0 false _ A6.out).mono ?_); rintro e w' ⟨rfl, ⟨nd, rfl⟩⟩; refine ⟨_, rfl, ?_⟩) | ((with_reducible refine gate_callee (f := 15) rfl ?_); refine goesL_ (some 28) rfl rfl Try.func15 (by kernel_rfl) rfl #[.int .i64 a0, .int .u64 a1] rfl (by (try simp only [List.map_toArray, List.map_cons, List.map_nil]); first | done | rfl | (simp only [List.length_drop, List.length_take]; rfl)) ?_; (with_reducible refine (broadsheetref05_Low.calls k a0 a1 t116 _ A10.out).mono ?_); rintro e w' ⟨rfl, ⟨nd, rfl⟩⟩; refine ⟨_, rfl, ?_⟩))
        go_ret
        exact ⟨by first | rfl | (simp; done) | (simp [*]; done), by repeat (first | exact Drawn0.refl _ | apply Drawn0.step)⟩
    · replace c5 := Bool.eq_false_iff.mpr c5
      subst c5
      have H1 : (some false) = some r := by rw [if_neg (show ¬ (false = true) by decide)] at H; exact H
      clear H
      have H := H1
      clear H1
      obtain rfl := Option.some.inj H
      go_enter Try.func13, Try.ntmps13
      go_wp2_with (first | ((with_reducible refine gate_callee (f := 7) rfl ?_); refine goesL_ (some 12) rfl rfl Try.func7 (by kernel_rfl) rfl #[.int .i64 a0] rfl (by (try simp only [List.map_toArray, List.map_cons, List.map_nil]); first | done | rfl | (simp only [List.length_drop, List.length_take]; rfl)) ?_; (with_reducible refine (broadsheetref05_Number.calls a0 false _ A4.out).mono ?_); rintro e w' ⟨rfl, ⟨nd, rfl⟩⟩; refine ⟨_, rfl, ?_⟩))
      go_ret
      exact ⟨by first | rfl | (simp; done) | (simp [*]; done), by repeat (first | exact Drawn0.refl _ | apply Drawn0.step)⟩

/-! ### broadsheetref01_Sign: function 29 -/
def broadsheetref01_Sign.f (k : Nat) (a0 : Int) (a1 : Int) : Option (Int) := (broadsheetref01_Sized.f a1).bind fun t117 => (if t117 = true then ((broadsheetref01_Low.f k a0 a1).bind fun t118 => ((broadsheetref01_half.f k a1).bind fun t119 => (if t118 < t119 then (some (wrap64 (t118))) else (some (wrap64 ((wrap64 ((wrap64 (IntKind.u64.wrap (t118 - t119))) - (wrap64 (IntKind.u64.wrap (t119 - 1))))) - 1)))))) else (some 0))
theorem broadsheetref01_Sign.mono : ∀ a0 a1 k, LeO (broadsheetref01_Sign.f k a0 a1) (broadsheetref01_Sign.f (k + 1) a0 a1) := by
  intro a0 a1 k
  unfold broadsheetref01_Sign.f
  repeat' first
      | (with_reducible exact broadsheetref01_Low.mono _ _ _)
      | (with_reducible exact broadsheetref01_half.mono _ _)
      | (with_reducible exact LeO.refl _)
      | (with_reducible exact LeO.none _)
      | (with_reducible refine LeO.ite ?_ ?_)
      | (with_reducible refine LeO.bind ?_ (fun _ => ?_))
      | exact broadsheetref01_Low.mono _ _ _
      | exact broadsheetref01_half.mono _ _
      | exact LeO.none _
      | refine LeO.ite ?_ ?_
      | refine LeO.bind ?_ (fun _ => ?_)
set_option maxHeartbeats 8000000 in
set_option maxRecDepth 100000 in
theorem broadsheetref01_Sign.calls (k : Nat) (a0 : Int) (a1 : Int) (r : Int) (w : World) (h : broadsheetref01_Sign.f k a0 a1 = some r) :
    Calls Try.prog 29 #[.int .u64 a0, .int .i64 a1] w fun e w' => e = .returned (.int .i64 r) ∧ Drawn0 w w' := by
  have H : ((broadsheetref01_Sized.f a1).bind fun t117 => (if t117 = true then ((broadsheetref01_Low.f k a0 a1).bind fun t118 => ((broadsheetref01_half.f k a1).bind fun t119 => (if t118 < t119 then (some (wrap64 (t118))) else (some (wrap64 ((wrap64 ((wrap64 (IntKind.u64.wrap (t118 - t119))) - (wrap64 (IntKind.u64.wrap (t119 - 1))))) - 1)))))) else (some 0))) = some r := h
  clear h
  replace H := Option.bind_eq_some_iff.mp H
  obtain ⟨t117, A30, H⟩ := H
  replace H : (if t117 = true then ((broadsheetref01_Low.f k a0 a1).bind fun t118 => ((broadsheetref01_half.f k a1).bind fun t119 => (if t118 < t119 then (some (wrap64 (t118))) else (some (wrap64 ((wrap64 ((wrap64 (IntKind.u64.wrap (t118 - t119))) - (wrap64 (IntKind.u64.wrap (t119 - 1))))) - 1)))))) else (some 0)) = some r := H
  have A3 := Aside0.mk A30
  clear A30
  by_cases c4 : t117 = true
  · subst c4
    have H1 : ((broadsheetref01_Low.f k a0 a1).bind fun t118 => ((broadsheetref01_half.f k a1).bind fun t119 => (if t118 < t119 then (some (wrap64 (t118))) else (some (wrap64 ((wrap64 ((wrap64 (IntKind.u64.wrap (t118 - t119))) - (wrap64 (IntKind.u64.wrap (t119 - 1))))) - 1)))))) = some r := by rw [if_pos rfl] at H; exact H
    clear H
    have H := H1
    clear H1
    replace H := Option.bind_eq_some_iff.mp H
    obtain ⟨t118, A50, H⟩ := H
    replace H : ((broadsheetref01_half.f k a1).bind fun t119 => (if t118 < t119 then (some (wrap64 (t118))) else (some (wrap64 ((wrap64 ((wrap64 (IntKind.u64.wrap (t118 - t119))) - (wrap64 (IntKind.u64.wrap (t119 - 1))))) - 1))))) = some r := H
    have A5 := Aside0.mk A50
    clear A50
    replace H := Option.bind_eq_some_iff.mp H
    obtain ⟨t119, A60, H⟩ := H
    replace H : (if t118 < t119 then (some (wrap64 (t118))) else (some (wrap64 ((wrap64 ((wrap64 (IntKind.u64.wrap (t118 - t119))) - (wrap64 (IntKind.u64.wrap (t119 - 1))))) - 1)))) = some r := H
    have A6 := Aside0.mk A60
    clear A60
    by_cases c7 : t118 < t119
    · rw [if_pos c7] at H
      have c7b0 : decide (t118 < t119) = true := decide_eq_true c7
      clear c7
      obtain rfl := Option.some.inj H
      go_enter Try.func29, Try.ntmps29
      go_wp2_with (first | ((with_reducible refine gate_callee (f := 36) rfl ?_); refine goesL_ (some 7) rfl rfl Try.func36 (by kernel_rfl) rfl #[.int .i64 a1] rfl (by (try simp only [List.map_toArray, List.map_cons, List.map_nil]); first | done | rfl | (simp only [List.length_drop, List.length_take]; rfl)) ?_; (with_reducible refine (broadsheetref01_Sized.calls a1 true _ A3.out).mono ?_); rintro e w' ⟨rfl, ⟨nd, rfl⟩⟩; refine ⟨_, rfl, ?_⟩) | ((with_reducible refine gate_callee (f := 27) rfl ?_); refine goesL_ (some 11) rfl rfl Try.func27 (by kernel_rfl) rfl #[.int .u64 a0, .int .i64 a1] rfl (by (try simp only [List.map_toArray, List.map_cons, List.map_nil]); first | done | rfl | (simp only [List.length_drop, List.length_take]; rfl)) ?_; (with_reducible refine (broadsheetref01_Low.calls k a0 a1 t118 _ A5.out).mono ?_); rintro e w' ⟨rfl, ⟨nd, rfl⟩⟩; refine ⟨_, rfl, ?_⟩) | ((with_reducible refine gate_callee (f := 37) rfl ?_); refine goesL_ (some 13) rfl rfl Try.func37 (by kernel_rfl) rfl #[.int .i64 a1] rfl (by (try simp only [List.map_toArray, List.map_cons, List.map_nil]); first | done | rfl | (simp only [List.length_drop, List.length_take]; rfl)) ?_; (with_reducible refine (broadsheetref01_half.calls k a1 t119 _ A6.out).mono ?_); rintro e w' ⟨rfl, ⟨nd, rfl⟩⟩; refine ⟨_, rfl, ?_⟩))
      go_ret
      exact ⟨by first | rfl | (simp; done) | (simp [*]; done), by repeat (first | exact Drawn0.refl _ | apply Drawn0.step)⟩
    · rw [if_neg c7] at H
      have c7b0 : decide (t118 < t119) = false := decide_eq_false c7
      clear c7
      obtain rfl := Option.some.inj H
      go_enter Try.func29, Try.ntmps29
      go_wp2_with (first | ((with_reducible refine gate_callee (f := 36) rfl ?_); refine goesL_ (some 7) rfl rfl Try.func36 (by kernel_rfl) rfl #[.int .i64 a1] rfl (by (try simp only [List.map_toArray, List.map_cons, List.map_nil]); first | done | rfl | (simp only [List.length_drop, List.length_take]; rfl)) ?_; (with_reducible refine (broadsheetref01_Sized.calls a1 true _ A3.out).mono ?_); rintro e w' ⟨rfl, ⟨nd, rfl⟩⟩; refine ⟨_, rfl, ?_⟩) | ((with_reducible refine gate_callee (f := 27) rfl ?_); refine goesL_ (some 11) rfl rfl Try.func27 (by kernel_rfl) rfl #[.int .u64 a0, .int .i64 a1] rfl (by (try simp only [List.map_toArray, List.map_cons, List.map_nil]); first | done | rfl | (simp only [List.length_drop, List.length_take]; rfl)) ?_; (with_reducible refine (broadsheetref01_Low.calls k a0 a1 t118 _ A5.out).mono ?_); rintro e w' ⟨rfl, ⟨nd, rfl⟩⟩; refine ⟨_, rfl, ?_⟩) | ((with_reducible refine gate_callee (f := 37) rfl ?_); refine goesL_ (some 13) rfl rfl Try.func37 (by kernel_rfl) rfl #[.int .i64 a1] rfl (by (try simp only [List.map_toArray, List.map_cons, List.map_nil]); first | done | rfl | (simp only [List.length_drop, List.length_take]; rfl)) ?_; (with_reducible refine (broadsheetref01_half.calls k a1 t119 _ A6.out).mono ?_); rintro e w' ⟨rfl, ⟨nd, rfl⟩⟩; refine ⟨_, rfl, ?_⟩))
      go_ret
      exact ⟨by first | rfl | (simp; done) | (simp [*]; done), by repeat (first | exact Drawn0.refl _ | apply Drawn0.step)⟩
  · replace c4 := Bool.eq_false_iff.mpr c4
    subst c4
    have H1 : (some 0) = some r := by rw [if_neg (show ¬ (false = true) by decide)] at H; exact H
    clear H
    have H := H1
    clear H1
    obtain rfl := Option.some.inj H
    go_enter Try.func29, Try.ntmps29
    go_wp2_with (first | ((with_reducible refine gate_callee (f := 36) rfl ?_); refine goesL_ (some 7) rfl rfl Try.func36 (by kernel_rfl) rfl #[.int .i64 a1] rfl (by (try simp only [List.map_toArray, List.map_cons, List.map_nil]); first | done | rfl | (simp only [List.length_drop, List.length_take]; rfl)) ?_; (with_reducible refine (broadsheetref01_Sized.calls a1 false _ A3.out).mono ?_); rintro e w' ⟨rfl, ⟨nd, rfl⟩⟩; refine ⟨_, rfl, ?_⟩))
    go_ret
    exact ⟨by first | rfl | (simp; done) | (simp [*]; done), by repeat (first | exact Drawn0.refl _ | apply Drawn0.step)⟩

/-! ### broadsheetref05_Up: function 17 -/
def broadsheetref05_Up.f (k : Nat) (a0 : Int) (a1 : Int) : Option (Int) := (broadsheetref05_Signed.f a0).bind fun t120 => (if t120 = true then ((broadsheetref05_Size.f k a0).bind fun t121 => ((broadsheetref01_Sign.f k a1 t121).bind fun t122 => (some (IntKind.u64.wrap (t122))))) else ((broadsheetref05_Low.f k a0 a1).bind fun t123 => (some t123)))
theorem broadsheetref05_Up.mono : ∀ a0 a1 k, LeO (broadsheetref05_Up.f k a0 a1) (broadsheetref05_Up.f (k + 1) a0 a1) := by
  intro a0 a1 k
  unfold broadsheetref05_Up.f
  repeat' first
      | (with_reducible exact broadsheetref01_Sign.mono _ _ _)
      | (with_reducible exact broadsheetref05_Low.mono _ _ _)
      | (with_reducible exact broadsheetref05_Size.mono _ _)
      | (with_reducible exact LeO.refl _)
      | (with_reducible exact LeO.none _)
      | (with_reducible refine LeO.ite ?_ ?_)
      | (with_reducible refine LeO.bind ?_ (fun _ => ?_))
      | exact broadsheetref01_Sign.mono _ _ _
      | exact broadsheetref05_Low.mono _ _ _
      | exact broadsheetref05_Size.mono _ _
      | exact LeO.none _
      | refine LeO.ite ?_ ?_
      | refine LeO.bind ?_ (fun _ => ?_)
set_option maxHeartbeats 8000000 in
set_option maxRecDepth 100000 in
theorem broadsheetref05_Up.calls (k : Nat) (a0 : Int) (a1 : Int) (r : Int) (w : World) (h : broadsheetref05_Up.f k a0 a1 = some r) :
    Calls Try.prog 17 #[.int .i64 a0, .int .u64 a1] w fun e w' => e = .returned (.int .u64 r) ∧ Drawn0 w w' := by
  have H : ((broadsheetref05_Signed.f a0).bind fun t120 => (if t120 = true then ((broadsheetref05_Size.f k a0).bind fun t121 => ((broadsheetref01_Sign.f k a1 t121).bind fun t122 => (some (IntKind.u64.wrap (t122))))) else ((broadsheetref05_Low.f k a0 a1).bind fun t123 => (some t123)))) = some r := h
  clear h
  replace H := Option.bind_eq_some_iff.mp H
  obtain ⟨t120, A30, H⟩ := H
  replace H : (if t120 = true then ((broadsheetref05_Size.f k a0).bind fun t121 => ((broadsheetref01_Sign.f k a1 t121).bind fun t122 => (some (IntKind.u64.wrap (t122))))) else ((broadsheetref05_Low.f k a0 a1).bind fun t123 => (some t123))) = some r := H
  have A3 := Aside0.mk A30
  clear A30
  by_cases c4 : t120 = true
  · subst c4
    have H1 : ((broadsheetref05_Size.f k a0).bind fun t121 => ((broadsheetref01_Sign.f k a1 t121).bind fun t122 => (some (IntKind.u64.wrap (t122))))) = some r := by rw [if_pos rfl] at H; exact H
    clear H
    have H := H1
    clear H1
    replace H := Option.bind_eq_some_iff.mp H
    obtain ⟨t121, A50, H⟩ := H
    replace H : ((broadsheetref01_Sign.f k a1 t121).bind fun t122 => (some (IntKind.u64.wrap (t122)))) = some r := H
    have A5 := Aside0.mk A50
    clear A50
    replace H := Option.bind_eq_some_iff.mp H
    obtain ⟨t122, A60, H⟩ := H
    replace H : (some (IntKind.u64.wrap (t122))) = some r := H
    have A6 := Aside0.mk A60
    clear A60
    obtain rfl := Option.some.inj H
    go_enter Try.func17, Try.ntmps17
    go_wp2_with (first | ((with_reducible refine gate_callee (f := 11) rfl ?_); refine goesL_ (some 6) rfl rfl Try.func11 (by kernel_rfl) rfl #[.int .i64 a0] rfl (by (try simp only [List.map_toArray, List.map_cons, List.map_nil]); first | done | rfl | (simp only [List.length_drop, List.length_take]; rfl)) ?_; (with_reducible refine (broadsheetref05_Signed.calls a0 true _ A3.out).mono ?_); rintro e w' ⟨rfl, ⟨nd, rfl⟩⟩; refine ⟨_, rfl, ?_⟩) | ((with_reducible refine gate_callee (f := 9) rfl ?_); refine goesL_ (some 9) rfl rfl Try.func9 (by kernel_rfl) rfl #[.int .i64 a0] rfl (by (try simp only [List.map_toArray, List.map_cons, List.map_nil]); first | done | rfl | (simp only [List.length_drop, List.length_take]; rfl)) ?_; (with_reducible refine (broadsheetref05_Size.calls k a0 t121 _ A5.out).mono ?_); rintro e w' ⟨rfl, ⟨nd, rfl⟩⟩; refine ⟨_, rfl, ?_⟩) | ((with_reducible refine gate_callee (f := 29) rfl ?_); refine goesL_ (some 10) rfl rfl Try.func29 (by kernel_rfl) rfl #[.int .u64 a1, .int .i64 t121] rfl (by (try simp only [List.map_toArray, List.map_cons, List.map_nil]); first | done | rfl | (simp only [List.length_drop, List.length_take]; rfl)) ?_; (with_reducible refine (broadsheetref01_Sign.calls k a1 t121 t122 _ A6.out).mono ?_); rintro e w' ⟨rfl, ⟨nd, rfl⟩⟩; refine ⟨_, rfl, ?_⟩))
    go_ret
    exact ⟨by first | rfl | (simp; done) | (simp [*]; done), by repeat (first | exact Drawn0.refl _ | apply Drawn0.step)⟩
  · replace c4 := Bool.eq_false_iff.mpr c4
    subst c4
    have H1 : ((broadsheetref05_Low.f k a0 a1).bind fun t123 => (some t123)) = some r := by rw [if_neg (show ¬ (false = true) by decide)] at H; exact H
    clear H
    have H := H1
    clear H1
    replace H := Option.bind_eq_some_iff.mp H
    obtain ⟨t123, A70, H⟩ := H
    replace H : (some t123) = some r := H
    have A7 := Aside0.mk A70
    clear A70
    obtain rfl := Option.some.inj H
    go_enter Try.func17, Try.ntmps17
    go_wp2_with (first | ((with_reducible refine gate_callee (f := 11) rfl ?_); refine goesL_ (some 6) rfl rfl Try.func11 (by kernel_rfl) rfl #[.int .i64 a0] rfl (by (try simp only [List.map_toArray, List.map_cons, List.map_nil]); first | done | rfl | (simp only [List.length_drop, List.length_take]; rfl)) ?_; (with_reducible refine (broadsheetref05_Signed.calls a0 false _ A3.out).mono ?_); rintro e w' ⟨rfl, ⟨nd, rfl⟩⟩; refine ⟨_, rfl, ?_⟩) | ((with_reducible refine gate_callee (f := 15) rfl ?_); refine goesL_ (some 14) rfl rfl Try.func15 (by kernel_rfl) rfl #[.int .i64 a0, .int .u64 a1] rfl (by (try simp only [List.map_toArray, List.map_cons, List.map_nil]); first | done | rfl | (simp only [List.length_drop, List.length_take]; rfl)) ?_; (with_reducible refine (broadsheetref05_Low.calls k a0 a1 t123 _ A7.out).mono ?_); rintro e w' ⟨rfl, ⟨nd, rfl⟩⟩; refine ⟨_, rfl, ?_⟩))
    go_ret
    exact ⟨by first | rfl | (simp; done) | (simp [*]; done), by repeat (first | exact Drawn0.refl _ | apply Drawn0.step)⟩

-- NOT PRINTED: function 21 (prim_Datum)

-- NOT PRINTED: function 19 (prim_Of)

-- NOT PRINTED: function 18 (broadsheetlaw05_awake)

-- NOT PRINTED: function 3 (broadsheetlaw05_PrimKinds)

end Go.Proofs.Ytflkefabbdelaaa.PPrimKinds
