import Derived.Test.YtimalojaiaofkaaPScriptPutsx0
import Derived.Test.YtimalojaiaofkaaPScriptPutsx1

namespace Go.Proofs.Ytimalojaiaofkaa.PScriptPuts
open Go.RowKit Go.Proofs.YtimalojaiaofkaaW.PrintWords Go.Proofs.YtimalojaiaofkaaW.PrintLast Go.Proofs.YtimalojaiaofkaaW.PrintMore
attribute [local go_sem] max2_int min2_int max_two min_two max_three min_three max_four min_four   -- for this text's walks alone
set_option linter.unusedVariables false
set_option linter.unusedSimpArgs false

/-! ### broadsheetref45_number: function 64 -/
def broadsheetref45_number.f (k : Nat) (a0 : Int) (a1 : Int) : Option (ByteArray) := (broadsheetref01_Put.f k a0 a1).bind fun bt126 => (some bt126.1)
theorem broadsheetref45_number.mono : ∀ a0 a1 k, LeO (broadsheetref45_number.f k a0 a1) (broadsheetref45_number.f (k + 1) a0 a1) := by
  intro a0 a1 k
  unfold broadsheetref45_number.f
  repeat' first
      | (with_reducible exact broadsheetref01_Put.mono _ _ _)
      | (with_reducible exact LeO.refl _)
      | (with_reducible exact LeO.none _)
      | (with_reducible refine LeO.ite ?_ ?_)
      | (with_reducible refine LeO.bind ?_ (fun _ => ?_))
      | exact broadsheetref01_Put.mono _ _ _
      | exact LeO.none _
      | refine LeO.ite ?_ ?_
      | refine LeO.bind ?_ (fun _ => ?_)
set_option maxHeartbeats 8000000 in
set_option maxRecDepth 100000 in
theorem broadsheetref45_number.calls (k : Nat) (a0 : Int) (a1 : Int) (r : ByteArray) (w : World) (h : broadsheetref45_number.f k a0 a1 = some r) :
    Calls Try.prog 64 #[.int .u64 a0, .int .i64 a1] w fun e w' => e = .returned (.string r) ∧ Below w.heap.size w w' := by
  have HB := Aside0.mk (Below.refl w.heap.size w)
  have H : ((broadsheetref01_Put.f k a0 a1).bind fun bt126 => (some bt126.1)) = some r := h
  clear h
  replace H := Option.bind_eq_some_iff.mp H
  obtain ⟨⟨t126, t127⟩, A30, H⟩ := H
  replace H : (some t126) = some r := H
  have A3 := Aside0.mk A30
  clear A30
  obtain rfl := Option.some.inj H
  go_enter Try.func64, Try.ntmps64
  go_wp2_with (first | ((with_reducible refine gate_callee (f := 87) rfl ?_); refine goesL_ (some 10) rfl rfl Try.func87 (by kernel_rfl) rfl #[.int .u64 a0, .int .i64 a1] rfl (by (try simp only [List.map_toArray, List.map_cons, List.map_nil]); first | done | rfl | (simp only [List.length_drop, List.length_take]; rfl)) ?_; (with_reducible refine (broadsheetref01_Put.calls k a0 a1 t126 t127 _ A3.out).mono ?_); rintro e w4 ⟨rfl, hb⟩; refine ⟨_, rfl, ?_⟩; have n0_ := Aside0.mk (below_step (by repeat (first | (with_reducible first | exact HB.out | apply below_alloc | apply pw_below_drewN | apply below_drew1) | exact HB.out)) hb); clear HB; have HB := n0_; clear n0_; (try clear hb); (try clear hb2); (try clear hk); (try clear hi)))
  go_ret
  exact ⟨by first | rfl | (simp [errW_none, errW_some] <;> rfl) | (simp [*, errW_none, errW_some] <;> rfl), by repeat (first | (with_reducible first | exact HB.out | apply below_alloc | apply pw_below_drewN | apply below_drew1) | exact HB.out)⟩

/-! ### broadsheetref01_half: function 105 -/
def broadsheetref01_half.l0 : Nat → Int → Int → Int → Option (Int)
  | 0, _, _, _ => none
  | k + 1, x0, x3, x4 => if x4 < x0 then (broadsheetref01_half.l0 k x0 (IntKind.u64.wrap (x3 * 256)) (wrap64 (x4 + 1))) else (some x3)
def broadsheetref01_half.f (k : Nat) (a0 : Int) : Option (Int) := broadsheetref01_half.l0 k a0 128 1
theorem broadsheetref01_half.mono_l : ∀ k, (∀ y0 y1 y2, LeO (broadsheetref01_half.l0 k y0 y1 y2) (broadsheetref01_half.l0 (k + 1) y0 y1 y2))
  | 0 => fun _ _ _ r h => by simp [broadsheetref01_half.l0] at h
  | k + 1 => by
    have ih0 := broadsheetref01_half.mono_l k
    · intro y0 y1 y2
      unfold broadsheetref01_half.l0
      repeat' first
      | (with_reducible exact ih0 _ _ _)
      | (with_reducible exact LeO.refl _)
      | (with_reducible exact LeO.none _)
      | (with_reducible refine LeO.ite ?_ ?_)
      | (with_reducible refine LeO.bind ?_ (fun _ => ?_))
      | exact ih0 _ _ _
      | exact LeO.none _
      | refine LeO.ite ?_ ?_
      | refine LeO.bind ?_ (fun _ => ?_)
theorem broadsheetref01_half.mono : ∀ a0 k, LeO (broadsheetref01_half.f k a0) (broadsheetref01_half.f (k + 1) a0) := by
  intro a0 k
  have ih0 := broadsheetref01_half.mono_l k
  unfold broadsheetref01_half.f
  repeat' first
      | (with_reducible exact ih0 _ _ _)
      | (with_reducible exact LeO.refl _)
      | (with_reducible exact LeO.none _)
      | (with_reducible refine LeO.ite ?_ ?_)
      | (with_reducible refine LeO.bind ?_ (fun _ => ?_))
      | exact ih0 _ _ _
      | exact LeO.none _
      | refine LeO.ite ?_ ?_
      | refine LeO.bind ?_ (fun _ => ?_)
set_option maxHeartbeats 8000000 in
set_option maxRecDepth 100000 in
theorem broadsheetref01_half.calls (k : Nat) (a0 : Int) (r : Int) (w : World) (h : broadsheetref01_half.f k a0 = some r) :
    Calls Try.prog 105 #[.int .i64 a0] w fun e w' => e = .returned (.int .u64 r) ∧ Drawn0 w w' := by
  have H : (broadsheetref01_half.l0 k a0 128 1) = some r := h
  clear h
  have H' := Aside0.mk H
  clear H
  go_enter Try.func105, Try.ntmps105
  go_wp2
  go_loopg [3, 4] k (fun kq v3 v4 w' => ∃ (x3_1 : Int) (x4_1 : Int), v3 = .int .u64 x3_1 ∧ v4 = .int .i64 x4_1 ∧ Aside0 (broadsheetref01_half.l0 kq a0 x3_1 x4_1 = some r) ∧ Aside0 (kq ≤ k) ∧ Drawn0 w w')
  case atStart => exact ⟨(128), (1), (by first | rfl | (simp; done) | (simp [*]; done)), (by first | rfl | (simp; done) | (simp [*]; done)), H', ⟨Nat.le_refl _⟩, by repeat (first | exact Drawn0.refl _ | apply Drawn0.step)⟩
  case round =>
    clear H'
    try clear c1
    obtain ⟨x3_1, x4_1, rfl, rfl, HA, HK1, ⟨m1, rfl⟩⟩ := hrel
    cases gk with
    | zero => exact absurd HA.out (by simp [broadsheetref01_half.l0])
    | succ k1 =>
      have H := HA.out
      clear HA
      simp only [broadsheetref01_half.l0] at H
      by_cases c2 : x4_1 < a0
      · rw [if_pos c2] at H
        have c2b0 : decide (x4_1 < a0) = true := decide_eq_true c2
        clear c2
        have H' := Aside0.mk H
        clear H
        go_wp2
        go_roundg k1
        case measure => have := HK1.out; omega
        case rel => exact ⟨(IntKind.u64.wrap (x3_1 * 256)), (wrap64 (x4_1 + 1)), (by first | rfl | (simp; done) | (simp [*]; done)), (by first | rfl | (simp; done) | (simp [*]; done)), H', ⟨by have := HK1.out; omega⟩, by repeat (first | exact Drawn0.refl _ | apply Drawn0.step)⟩
      · rw [if_neg c2] at H
        have c2b0 : decide (x4_1 < a0) = false := decide_eq_false c2
        clear c2
        obtain rfl := Option.some.inj H
        go_wp2
        go_ret
        exact ⟨by first | rfl | (simp; done) | (simp [*]; done), by repeat (first | exact Drawn0.refl _ | apply Drawn0.step)⟩

/-! ### broadsheetref01_Bits: function 88 -/
def broadsheetref01_Bits.j0 : Nat → Int → Int → Bool → Option (Int × Int)
  | 0, _, _, _ => none
  | k + 1, x0, x6, x31 => if x31 = true then (some (0, 7)) else (if x0 ≥ 0 then (some (IntKind.u64.wrap (x0), 0)) else (some (IntKind.u64.wrap (x6 + (IntKind.u64.wrap ((IntKind.u64.wrap (x6 - 1)) - (IntKind.u64.wrap (wrap64 (-(wrap64 (x0 + 1)))))))), 0)))
def broadsheetref01_Bits.f (k : Nat) (a0 : Int) (a1 : Int) : Option (Int × Int) := (broadsheetref01_Sized.f a1).bind fun t128 => (if t128 = true then ((broadsheetref01_half.f k a1).bind fun t129 => (if a0 ≥ 0 then (if (IntKind.u64.wrap (a0)) ≥ t129 then (broadsheetref01_Bits.j0 k a0 t129 true) else (if a0 < 0 then (broadsheetref01_Bits.j0 k a0 t129 (decide ((IntKind.u64.wrap (wrap64 (-(wrap64 (a0 + 1))))) ≥ t129))) else (broadsheetref01_Bits.j0 k a0 t129 false))) else (if a0 < 0 then (broadsheetref01_Bits.j0 k a0 t129 (decide ((IntKind.u64.wrap (wrap64 (-(wrap64 (a0 + 1))))) ≥ t129))) else (broadsheetref01_Bits.j0 k a0 t129 false)))) else (some (0, 4)))
theorem broadsheetref01_Bits.mono_l : ∀ k, (∀ y0 y1 y2, LeO (broadsheetref01_Bits.j0 k y0 y1 y2) (broadsheetref01_Bits.j0 (k + 1) y0 y1 y2))
  | 0 => fun _ _ _ r h => by simp [broadsheetref01_Bits.j0] at h
  | k + 1 => by
    have ih0 := broadsheetref01_Bits.mono_l k
    · intro y0 y1 y2
      unfold broadsheetref01_Bits.j0
      repeat' first
      | (with_reducible exact ih0 _ _ _)
      | (with_reducible exact broadsheetref01_half.mono _ _)
      | (with_reducible exact LeO.refl _)
      | (with_reducible exact LeO.none _)
      | (with_reducible refine LeO.ite ?_ ?_)
      | (with_reducible refine LeO.bind ?_ (fun _ => ?_))
      | exact ih0 _ _ _
      | exact broadsheetref01_half.mono _ _
      | exact LeO.none _
      | refine LeO.ite ?_ ?_
      | refine LeO.bind ?_ (fun _ => ?_)
theorem broadsheetref01_Bits.mono : ∀ a0 a1 k, LeO (broadsheetref01_Bits.f k a0 a1) (broadsheetref01_Bits.f (k + 1) a0 a1) := by
  intro a0 a1 k
  have ih0 := broadsheetref01_Bits.mono_l k
  unfold broadsheetref01_Bits.f
  repeat' first
      | (with_reducible exact ih0 _ _ _)
      | (with_reducible exact broadsheetref01_half.mono _ _)
      | (with_reducible exact LeO.refl _)
      | (with_reducible exact LeO.none _)
      | (with_reducible refine LeO.ite ?_ ?_)
      | (with_reducible refine LeO.bind ?_ (fun _ => ?_))
      | exact ih0 _ _ _
      | exact broadsheetref01_half.mono _ _
      | exact LeO.none _
      | refine LeO.ite ?_ ?_
      | refine LeO.bind ?_ (fun _ => ?_)
set_option maxHeartbeats 8000000 in
set_option maxRecDepth 100000 in
theorem broadsheetref01_Bits.calls (k : Nat) (a0 : Int) (a1 : Int) (r1 : Int) (r2 : Int) (w : World) (h : broadsheetref01_Bits.f k a0 a1 = some (r1, r2)) :
    Calls Try.prog 88 #[.int .i64 a0, .int .i64 a1] w fun e w' => e = .returned (.tuple #[.int .u64 r1, .int .i64 r2]) ∧ Drawn0 w w' := by
  have H : ((broadsheetref01_Sized.f a1).bind fun t128 => (if t128 = true then ((broadsheetref01_half.f k a1).bind fun t129 => (if a0 ≥ 0 then (if (IntKind.u64.wrap (a0)) ≥ t129 then (broadsheetref01_Bits.j0 k a0 t129 true) else (if a0 < 0 then (broadsheetref01_Bits.j0 k a0 t129 (decide ((IntKind.u64.wrap (wrap64 (-(wrap64 (a0 + 1))))) ≥ t129))) else (broadsheetref01_Bits.j0 k a0 t129 false))) else (if a0 < 0 then (broadsheetref01_Bits.j0 k a0 t129 (decide ((IntKind.u64.wrap (wrap64 (-(wrap64 (a0 + 1))))) ≥ t129))) else (broadsheetref01_Bits.j0 k a0 t129 false)))) else (some (0, 4)))) = some (r1, r2) := h
  clear h
  replace H := Option.bind_eq_some_iff.mp H
  obtain ⟨t128, A30, H⟩ := H
  replace H : (if t128 = true then ((broadsheetref01_half.f k a1).bind fun t129 => (if a0 ≥ 0 then (if (IntKind.u64.wrap (a0)) ≥ t129 then (broadsheetref01_Bits.j0 k a0 t129 true) else (if a0 < 0 then (broadsheetref01_Bits.j0 k a0 t129 (decide ((IntKind.u64.wrap (wrap64 (-(wrap64 (a0 + 1))))) ≥ t129))) else (broadsheetref01_Bits.j0 k a0 t129 false))) else (if a0 < 0 then (broadsheetref01_Bits.j0 k a0 t129 (decide ((IntKind.u64.wrap (wrap64 (-(wrap64 (a0 + 1))))) ≥ t129))) else (broadsheetref01_Bits.j0 k a0 t129 false)))) else (some (0, 4))) = some (r1, r2) := H
  have A3 := Aside0.mk A30
  clear A30
  by_cases c4 : t128 = true
  · subst c4
    have H1 : ((broadsheetref01_half.f k a1).bind fun t129 => (if a0 ≥ 0 then (if (IntKind.u64.wrap (a0)) ≥ t129 then (broadsheetref01_Bits.j0 k a0 t129 true) else (if a0 < 0 then (broadsheetref01_Bits.j0 k a0 t129 (decide ((IntKind.u64.wrap (wrap64 (-(wrap64 (a0 + 1))))) ≥ t129))) else (broadsheetref01_Bits.j0 k a0 t129 false))) else (if a0 < 0 then (broadsheetref01_Bits.j0 k a0 t129 (decide ((IntKind.u64.wrap (wrap64 (-(wrap64 (a0 + 1))))) ≥ t129))) else (broadsheetref01_Bits.j0 k a0 t129 false)))) = some (r1, r2) := by rw [if_pos rfl] at H; exact H
    clear H
    have H := H1
    clear H1
    replace H := Option.bind_eq_some_iff.mp H
    obtain ⟨t129, A50, H⟩ := H
    replace H : (if a0 ≥ 0 then (if (IntKind.u64.wrap (a0)) ≥ t129 then (broadsheetref01_Bits.j0 k a0 t129 true) else (if a0 < 0 then (broadsheetref01_Bits.j0 k a0 t129 (decide ((IntKind.u64.wrap (wrap64 (-(wrap64 (a0 + 1))))) ≥ t129))) else (broadsheetref01_Bits.j0 k a0 t129 false))) else (if a0 < 0 then (broadsheetref01_Bits.j0 k a0 t129 (decide ((IntKind.u64.wrap (wrap64 (-(wrap64 (a0 + 1))))) ≥ t129))) else (broadsheetref01_Bits.j0 k a0 t129 false))) = some (r1, r2) := H
    have A5 := Aside0.mk A50
    clear A50
    have HC6 := Aside0.mk H
    clear H
    go_enter Try.func88, Try.ntmps88
    go_upto_region 4 with (first | ((with_reducible refine gate_callee (f := 103) rfl ?_); refine goesL_ (some 8) rfl rfl Try.func103 (by kernel_rfl) rfl #[.int .i64 a1] rfl (by (try simp only [List.map_toArray, List.map_cons, List.map_nil]); first | done | rfl | (simp only [List.length_drop, List.length_take]; rfl)) ?_; (with_reducible refine (broadsheetref01_Sized.calls a1 true _ A3.out).mono ?_); rintro e w' ⟨rfl, ⟨nd, rfl⟩⟩; refine ⟨_, rfl, ?_⟩) | ((with_reducible refine gate_callee (f := 105) rfl ?_); refine goesL_ (some 11) rfl rfl Try.func105 (by kernel_rfl) rfl #[.int .i64 a1] rfl (by (try simp only [List.map_toArray, List.map_cons, List.map_nil]); first | done | rfl | (simp only [List.length_drop, List.length_take]; rfl)) ?_; (with_reducible refine (broadsheetref01_half.calls k a1 t129 _ A5.out).mono ?_); rintro e w' ⟨rfl, ⟨nd, rfl⟩⟩; refine ⟨_, rfl, ?_⟩))
    (try simp only [Act.put, List.setIfInBounds_toArray, List.set_cons_zero, List.set_cons_succ])
    go_cut [31] (fun v31 wc => ∃ (kq : Nat) (x31_5 : Bool), v31 = .bool x31_5 ∧ Aside0 (broadsheetref01_Bits.j0 kq a0 t129 x31_5 = some (r1, r2)) ∧ Aside0 (kq ≤ k) ∧ Drawn0 w wc)
    case first =>
      have H := HC6.out
      clear HC6
      by_cases c7 : a0 ≥ 0
      · rw [if_pos c7] at H
        have c7b0 : decide (0 ≤ a0) = true := decide_eq_true c7
        clear c7
        (first | rw [c7b0] | (simp only [i64_w, i32_w]; rw [c7b0]) | skip)
        by_cases c8 : (IntKind.u64.wrap (a0)) ≥ t129
        · rw [if_pos c8] at H
          have c8b0 : decide (t129 ≤ (IntKind.u64.wrap (a0))) = true := decide_eq_true c8
          clear c8
          have H' := Aside0.mk H
          clear H
          go_wp2
          go_meet
          case rel => exact ⟨_, (true), (by first | rfl | (simp; done) | (simp [*]; done)), H', ⟨by first | omega | exact Nat.le_refl _⟩, by repeat (first | exact Drawn0.refl _ | apply Drawn0.step)⟩
        · rw [if_neg c8] at H
          have c8b0 : decide (t129 ≤ (IntKind.u64.wrap (a0))) = false := decide_eq_false c8
          clear c8
          by_cases c9 : a0 < 0
          · rw [if_pos c9] at H
            have c9b0 : decide (a0 < 0) = true := decide_eq_true c9
            clear c9
            have H' := Aside0.mk H
            clear H
            go_wp2
            go_meet
            case rel => exact ⟨_, (decide ((IntKind.u64.wrap (wrap64 (-(wrap64 (a0 + 1))))) ≥ t129)), (by first | rfl | (simp; done) | (simp [*]; done)), H', ⟨by first | omega | exact Nat.le_refl _⟩, by repeat (first | exact Drawn0.refl _ | apply Drawn0.step)⟩
          · rw [if_neg c9] at H
            have c9b0 : decide (a0 < 0) = false := decide_eq_false c9
            clear c9
            have H' := Aside0.mk H
            clear H
            go_wp2
            go_meet
            case rel => exact ⟨_, (false), (by first | rfl | (simp; done) | (simp [*]; done)), H', ⟨by first | omega | exact Nat.le_refl _⟩, by repeat (first | exact Drawn0.refl _ | apply Drawn0.step)⟩
      · rw [if_neg c7] at H
        have c7b0 : decide (0 ≤ a0) = false := decide_eq_false c7
        clear c7
        (first | rw [c7b0] | (simp only [i64_w, i32_w]; rw [c7b0]) | skip)
        by_cases c10 : a0 < 0
        · rw [if_pos c10] at H
          have c10b0 : decide (a0 < 0) = true := decide_eq_true c10
          clear c10
          have H' := Aside0.mk H
          clear H
          go_wp2
          go_meet
          case rel => exact ⟨_, (decide ((IntKind.u64.wrap (wrap64 (-(wrap64 (a0 + 1))))) ≥ t129)), (by first | rfl | (simp; done) | (simp [*]; done)), H', ⟨by first | omega | exact Nat.le_refl _⟩, by repeat (first | exact Drawn0.refl _ | apply Drawn0.step)⟩
        · rw [if_neg c10] at H
          have c10b0 : decide (a0 < 0) = false := decide_eq_false c10
          clear c10
          have H' := Aside0.mk H
          clear H
          go_wp2
          go_meet
          case rel => exact ⟨_, (false), (by first | rfl | (simp; done) | (simp [*]; done)), H', ⟨by first | omega | exact Nat.le_refl _⟩, by repeat (first | exact Drawn0.refl _ | apply Drawn0.step)⟩
    case rest =>
      clear HC6
      try clear c1
      try clear p2
      try clear c4
      try clear p6
      try clear c7
      try clear c7b0
      try clear c8
      try clear c8b0
      try clear c9
      try clear c9b0
      try clear c10
      try clear c10b0
      obtain ⟨kq, x31_5, rfl, HA, HJ5, ⟨mc5, rfl⟩⟩ := hcut
      cases kq with
      | zero => exact absurd HA.out (by simp [broadsheetref01_Bits.j0])
      | succ kj5 =>
        have H := HA.out
        clear HA
        simp only [broadsheetref01_Bits.j0] at H
        by_cases c11 : x31_5 = true
        · subst c11
          have H1 : (some (0, 7)) = some (r1, r2) := by rw [if_pos rfl] at H; exact H
          clear H
          have H := H1
          clear H1
          simp only [Option.some.injEq, Prod.mk.injEq] at H
          obtain ⟨rfl, rfl⟩ := H
          go_wp2
          go_ret2
          exact ⟨by first | rfl | (simp; done) | (simp [*]; done), by repeat (first | exact Drawn0.refl _ | apply Drawn0.step)⟩
        · replace c11 := Bool.eq_false_iff.mpr c11
          subst c11
          have H1 : (if a0 ≥ 0 then (some (IntKind.u64.wrap (a0), 0)) else (some (IntKind.u64.wrap (t129 + (IntKind.u64.wrap ((IntKind.u64.wrap (t129 - 1)) - (IntKind.u64.wrap (wrap64 (-(wrap64 (a0 + 1)))))))), 0))) = some (r1, r2) := by rw [if_neg (show ¬ (false = true) by decide)] at H; exact H
          clear H
          have H := H1
          clear H1
          by_cases c12 : a0 ≥ 0
          · rw [if_pos c12] at H
            have c12b0 : decide (0 ≤ a0) = true := decide_eq_true c12
            clear c12
            simp only [Option.some.injEq, Prod.mk.injEq] at H
            obtain ⟨rfl, rfl⟩ := H
            go_wp2
            go_ret2
            exact ⟨by first | rfl | (simp; done) | (simp [*]; done), by repeat (first | exact Drawn0.refl _ | apply Drawn0.step)⟩
          · rw [if_neg c12] at H
            have c12b0 : decide (0 ≤ a0) = false := decide_eq_false c12
            clear c12
            simp only [Option.some.injEq, Prod.mk.injEq] at H
            obtain ⟨rfl, rfl⟩ := H
            go_wp2
            go_ret2
            exact ⟨by first | rfl | (simp; done) | (simp [*]; done), by repeat (first | exact Drawn0.refl _ | apply Drawn0.step)⟩
  · replace c4 := Bool.eq_false_iff.mpr c4
    subst c4
    have H1 : (some (0, 4)) = some (r1, r2) := by rw [if_neg (show ¬ (false = true) by decide)] at H; exact H
    clear H
    have H := H1
    clear H1
    simp only [Option.some.injEq, Prod.mk.injEq] at H
    obtain ⟨rfl, rfl⟩ := H
    go_enter Try.func88, Try.ntmps88
    go_wp2_with (first | ((with_reducible refine gate_callee (f := 103) rfl ?_); refine goesL_ (some 8) rfl rfl Try.func103 (by kernel_rfl) rfl #[.int .i64 a1] rfl (by (try simp only [List.map_toArray, List.map_cons, List.map_nil]); first | done | rfl | (simp only [List.length_drop, List.length_take]; rfl)) ?_; (with_reducible refine (broadsheetref01_Sized.calls a1 false _ A3.out).mono ?_); rintro e w' ⟨rfl, ⟨nd, rfl⟩⟩; refine ⟨_, rfl, ?_⟩))
    go_ret2
    exact ⟨by first | rfl | (simp; done) | (simp [*]; done), by repeat (first | exact Drawn0.refl _ | apply Drawn0.step)⟩


end Go.Proofs.Ytimalojaiaofkaa.PScriptPuts
