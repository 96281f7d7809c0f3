import Derived.Test.YtimalojaiaofkaaPScriptPutsx0
import Derived.Test.YtimalojaiaofkaaSqScriptBack6
set_option linter.unusedVariables false
set_option linter.unusedSimpArgs false
namespace Go.Proofs.Ytimalojaiaofkaa.PScriptPuts
open Go.RowKit Go.Proofs.YtimalojaiaofkaaW.PrintWords Go.Proofs.YtimalojaiaofkaaW.PrintLast Go.Proofs.YtimalojaiaofkaaW.PrintMore
attribute [local go_sem] max2_int min2_int max_two min_two max_three min_three max_four min_four   -- for this text's walks alone

/-! ### broadsheetref45_Put: function 23 -/
mutual
def broadsheetref45_Put.l0 : Nat → List (S41) → ByteArray → Int → Option (ByteArray × Int)
  | 0, _, _, _ => none
  | k + 1, x0, x4, x5 => if x5 < (x0.length : Int) then (if 0 ≤ x5 then (if (((rd_T41 x0 x5).f0).length : Int) > 255 then (some ((⟨#[]⟩ : ByteArray), 3)) else ((broadsheetref45_number.f k (IntKind.u64.wrap ((((rd_T41 x0 x5).f0).length : Int))) 1).bind fun t139 => (if x4.size + t139.size ≤ 9223372036854775807 then (broadsheetref45_Put.l1 k x0 (x4 ++ t139) x5 0) else (none)))) else (none)) else (some (x4, 0))
def broadsheetref45_Put.l1 : Nat → List (S41) → ByteArray → Int → Int → Option (ByteArray × Int)
  | 0, _, _, _, _ => none
  | k + 1, x0, x4, x5, x6 => if 0 ≤ x5 then (if x5 < (x0.length : Int) then (if x6 < (((rd_T41 x0 x5).f0).length : Int) then (if 0 ≤ x6 then ((broadsheetref45_act.f k ((rd_T43 ((rd_T41 x0 x5).f0) x6).f0) ((rd_T43 ((rd_T41 x0 x5).f0) x6).f1) ((rd_T43 ((rd_T41 x0 x5).f0) x6).f2)).bind fun bt143 => (if bt143.2 = 0 then (if x4.size + bt143.1.size ≤ 9223372036854775807 then (broadsheetref45_Put.l1 k x0 (x4 ++ bt143.1) x5 (wrap64 (x6 + 1))) else (none)) else (some ((⟨#[]⟩ : ByteArray), bt143.2)))) else (none)) else (broadsheetref45_Put.l0 k x0 x4 (wrap64 (x5 + 1)))) else (none)) else (none)
end
def broadsheetref45_Put.f (k : Nat) (l0 : List (S41)) : Option (ByteArray × Int) := if (l0.length : Int) > 1024 then (some ((⟨#[]⟩ : ByteArray), 3)) else (broadsheetref45_Put.l0 k l0 (⟨#[]⟩ : ByteArray) 0)
theorem broadsheetref45_Put.mono_l : ∀ k, (∀ y0 y1 y2, LeO (broadsheetref45_Put.l0 k y0 y1 y2) (broadsheetref45_Put.l0 (k + 1) y0 y1 y2)) ∧ (∀ y0 y1 y2 y3, LeO (broadsheetref45_Put.l1 k y0 y1 y2 y3) (broadsheetref45_Put.l1 (k + 1) y0 y1 y2 y3))
  | 0 => ⟨fun _ _ _ r h => by simp [broadsheetref45_Put.l0] at h, fun _ _ _ _ r h => by simp [broadsheetref45_Put.l1] at h⟩
  | k + 1 => by
    obtain ⟨ih0, ih1⟩ := broadsheetref45_Put.mono_l k
    refine ⟨?_, ?_⟩
    · intro y0 y1 y2
      unfold broadsheetref45_Put.l0
      repeat' first
      | (with_reducible exact ih0 _ _ _)
      | (with_reducible exact ih1 _ _ _ _)
      | (with_reducible exact broadsheetref45_act.mono _ _ _ _)
      | (with_reducible exact broadsheetref45_number.mono _ _ _)
      | (with_reducible exact LeO.refl _)
      | (with_reducible exact LeO.none _)
      | (with_reducible refine LeO.ite ?_ ?_)
      | (with_reducible refine LeO.bind ?_ (fun _ => ?_))
      | exact ih0 _ _ _
      | exact ih1 _ _ _ _
      | exact broadsheetref45_act.mono _ _ _ _
      | exact broadsheetref45_number.mono _ _ _
      | exact LeO.none _
      | refine LeO.ite ?_ ?_
      | refine LeO.bind ?_ (fun _ => ?_)
    · intro y0 y1 y2 y3
      unfold broadsheetref45_Put.l1
      repeat' first
      | (with_reducible exact ih0 _ _ _)
      | (with_reducible exact ih1 _ _ _ _)
      | (with_reducible exact broadsheetref45_act.mono _ _ _ _)
      | (with_reducible exact broadsheetref45_number.mono _ _ _)
      | (with_reducible exact LeO.refl _)
      | (with_reducible exact LeO.none _)
      | (with_reducible refine LeO.ite ?_ ?_)
      | (with_reducible refine LeO.bind ?_ (fun _ => ?_))
      | exact ih0 _ _ _
      | exact ih1 _ _ _ _
      | exact broadsheetref45_act.mono _ _ _ _
      | exact broadsheetref45_number.mono _ _ _
      | exact LeO.none _
      | refine LeO.ite ?_ ?_
      | refine LeO.bind ?_ (fun _ => ?_)
theorem broadsheetref45_Put.mono : ∀ a0 k, LeO (broadsheetref45_Put.f k a0) (broadsheetref45_Put.f (k + 1) a0) := by
  intro a0 k
  obtain ⟨ih0, ih1⟩ := broadsheetref45_Put.mono_l k
  unfold broadsheetref45_Put.f
  repeat' first
      | (with_reducible exact ih0 _ _ _)
      | (with_reducible exact ih1 _ _ _ _)
      | (with_reducible exact broadsheetref45_act.mono _ _ _ _)
      | (with_reducible exact broadsheetref45_number.mono _ _ _)
      | (with_reducible exact LeO.refl _)
      | (with_reducible exact LeO.none _)
      | (with_reducible refine LeO.ite ?_ ?_)
      | (with_reducible refine LeO.bind ?_ (fun _ => ?_))
      | exact ih0 _ _ _
      | exact ih1 _ _ _ _
      | exact broadsheetref45_act.mono _ _ _ _
      | exact broadsheetref45_number.mono _ _ _
      | exact LeO.none _
      | refine LeO.ite ?_ ?_
      | refine LeO.bind ?_ (fun _ => ?_)
set_option maxHeartbeats 8000000 in
set_option maxRecDepth 100000 in
theorem broadsheetref45_Put.calls (k : Nat) (A0 : Option Addr) (c0 : Nat) (l0 : List (S41)) (r1 : ByteArray) (r2 : Int) (w : World) (hr0 : Kd.C k41 w A0 l0.length l0) (hc0 : l0.length ≤ c0) (h : broadsheetref45_Put.f k l0 = some (r1, r2)) :
    Calls Try.prog 23 #[.slice A0 l0.length c0] w fun e w' => e = .returned (.tuple #[.string r1, .int .i64 r2]) ∧ Below w.heap.size w w' := by
  have hu43 := Try.underlying43
  have HR0 := Aside0.mk hr0
  have HC0 := Aside0.mk hc0
  clear hr0 hc0
  have HB := Aside0.mk (Below.refl w.heap.size w)
  have H : (if (l0.length : Int) > 1024 then (some ((⟨#[]⟩ : ByteArray), 3)) else (broadsheetref45_Put.l0 k l0 (⟨#[]⟩ : ByteArray) 0)) = some (r1, r2) := h
  clear h
  by_cases c2 : (l0.length : Int) > 1024
  · rw [if_pos c2] at H
    have c2b0 : decide (1024 < (l0.length : Int)) = true := decide_eq_true c2
    have c2b1 : decide (1024 < l0.length) = true := decide_eq_true (by omega)
    clear c2
    simp only [Option.some.injEq, Prod.mk.injEq] at H
    obtain ⟨rfl, rfl⟩ := H
    go_enter Try.func23, Try.ntmps23
    go_wp2
    go_ret2
    exact ⟨by first | rfl | (simp [errW_none, errW_some] <;> rfl) | (simp [*, errW_none, errW_some] <;> rfl), by repeat (first | (with_reducible first | exact HB.out | apply below_alloc | apply pw_below_drewN | apply below_drew1) | exact HB.out)⟩
  · rw [if_neg c2] at H
    have c2b0 : decide (1024 < (l0.length : Int)) = false := decide_eq_false c2
    have c2b1 : decide (1024 < l0.length) = false := decide_eq_false (by omega)
    clear c2
    have H' := Aside0.mk H
    clear H
    go_enter Try.func23, Try.ntmps23
    go_wp2
    go_loopg [4, 5] k (fun kq v4 v5 w' => ∃ (x4_1 : ByteArray) (x5_1 : Int), v4 = .string x4_1 ∧ v5 = .int .i64 x5_1 ∧ Aside0 (broadsheetref45_Put.l0 kq l0 x4_1 x5_1 = some (r1, r2)) ∧ Aside0 (kq ≤ k) ∧ Aside0 (Below w.heap.size w w'))
    case atStart => exact ⟨((⟨#[]⟩ : ByteArray)), (0), (by first | rfl | (simp; done) | (simp [*]; done)), (by first | rfl | (simp; done) | (simp [*]; done)), H', ⟨Nat.le_refl _⟩, ⟨by repeat (first | (with_reducible first | exact HB.out | apply below_alloc | apply pw_below_drewN | apply below_drew1) | exact HB.out)⟩⟩
    case round =>
      clear H'
      try clear c2
      try clear c2b0
      try clear c2b1
      try clear p2
      obtain ⟨x4_1, x5_1, rfl, rfl, HA, HK1, HB⟩ := hrel
      cases gk with
      | zero => exact absurd HA.out (by simp [broadsheetref45_Put.l0])
      | succ k1 =>
        have H := HA.out
        clear HA
        simp only [broadsheetref45_Put.l0] at H
        by_cases c3 : x5_1 < (l0.length : Int)
        · rw [if_pos c3] at H
          have c3b0 : decide (x5_1 < (l0.length : Int)) = true := decide_eq_true c3
          clear c3
          by_cases c4 : 0 ≤ x5_1
          · rw [if_pos c4] at H
            have c4b0 : decide (0 ≤ x5_1) = true := decide_eq_true c4
            clear c4
            by_cases c5 : (((rd_T41 l0 x5_1).f0).length : Int) > 255
            · rw [if_pos c5] at H
              have c5b0 : decide (255 < (((rd_T41 l0 x5_1).f0).length : Int)) = true := decide_eq_true c5
              have c5b1 : decide (255 < ((rd_T41 l0 x5_1).f0).length) = true := decide_eq_true (by omega)
              clear c5
              simp only [Option.some.injEq, Prod.mk.injEq] at H
              obtain ⟨rfl, rfl⟩ := H
              have p137 : 0 ≤ (x5_1 : Int) := of_decide_eq_true (by first | (with_reducible assumption) | assumption)
              have q137 : x5_1 < (l0.length : Int) := of_decide_eq_true (by first | (with_reducible assumption) | assumption)
              obtain ⟨ad137, A137_0, c137_0, e137, hx137_0, hl137_0, hi137_0⟩ := at_T41 HR0.out x5_1 p137 q137
              cases e137
              replace hx137_0 := (HB.out.cell (World.block_lt_of_cell? w _ hx137_0)).trans hx137_0
              have HR137_0 := Aside0.mk hi137_0
              have HC137_0 := Aside0.mk hl137_0
              clear hi137_0 hl137_0
              replace p137 := eq_true p137
              replace q137 := eq_true q137
              go_wp2
              go_ret2
              exact ⟨by first | rfl | (simp [errW_none, errW_some] <;> rfl) | (simp [*, errW_none, errW_some] <;> rfl), by repeat (first | (with_reducible first | exact HB.out | apply below_alloc | apply pw_below_drewN | apply below_drew1) | exact HB.out)⟩
            · rw [if_neg c5] at H
              have c5b0 : decide (255 < (((rd_T41 l0 x5_1).f0).length : Int)) = false := decide_eq_false c5
              have c5b1 : decide (255 < ((rd_T41 l0 x5_1).f0).length) = false := decide_eq_false (by omega)
              clear c5
              replace H := Option.bind_eq_some_iff.mp H
              obtain ⟨t139, A60, H⟩ := H
              replace H : (if x4_1.size + t139.size ≤ 9223372036854775807 then (broadsheetref45_Put.l1 k1 l0 (x4_1 ++ t139) x5_1 0) else (none)) = some (r1, r2) := H
              have A6 := Aside0.mk A60
              clear A60
              by_cases c7 : x4_1.size + t139.size ≤ 9223372036854775807
              · rw [if_pos c7] at H
                have c7b0 := eq_true c7
                have c7b1 : decide (x4_1.size + t139.size ≤ 9223372036854775807) = true := decide_eq_true c7
                try have c7b2 : (9223372036854775807 < x4_1.size + t139.size) = False := eq_false (Nat.not_lt.2 c7)
                have H' := Aside0.mk H
                clear H
                have p137 : 0 ≤ (x5_1 : Int) := of_decide_eq_true (by first | (with_reducible assumption) | assumption)
                have q137 : x5_1 < (l0.length : Int) := of_decide_eq_true (by first | (with_reducible assumption) | assumption)
                obtain ⟨ad137, A137_0, c137_0, e137, hx137_0, hl137_0, hi137_0⟩ := at_T41 HR0.out x5_1 p137 q137
                cases e137
                replace hx137_0 := (HB.out.cell (World.block_lt_of_cell? w _ hx137_0)).trans hx137_0
                have HR137_0 := Aside0.mk hi137_0
                have HC137_0 := Aside0.mk hl137_0
                clear hi137_0 hl137_0
                replace p137 := eq_true p137
                replace q137 := eq_true q137
                have p138 : 0 ≤ (x5_1 : Int) := of_decide_eq_true (by first | (with_reducible assumption) | assumption)
                have q138 : x5_1 < (l0.length : Int) := of_decide_eq_true (by first | (with_reducible assumption) | assumption)
                obtain ⟨ad138, A138_0, c138_0, e138, hx138_0, hl138_0, hi138_0⟩ := at_T41 HR0.out x5_1 p138 q138
                obtain rfl : ad137 = ad138 := (by injection e138)
                replace hx138_0 := (HB.out.cell (World.block_lt_of_cell? w _ hx138_0)).trans hx138_0
                have HR138_0 := Aside0.mk hi138_0
                have HC138_0 := Aside0.mk hl138_0
                clear hi138_0 hl138_0
                replace p138 := eq_true p138
                replace q138 := eq_true q138
                have ea_ := Option.some.inj (hx137_0.symm.trans hx138_0)
                injection ea_ with ea_ en_ ec_
                subst ea_
                subst ec_
                clear en_
                go_wp2_with (first | ((with_reducible refine gate_callee (f := 64) rfl ?_); refine goesL_ (some 33) rfl rfl Try.func64 (by kernel_rfl) rfl #[.int .u64 (IntKind.u64.wrap ((((rd_T41 l0 x5_1).f0).length : Int))), .int .i64 1] rfl (by (try simp only [List.map_toArray, List.map_cons, List.map_nil]); first | done | rfl | (simp only [List.length_drop, List.length_take]; rfl)) ?_; (with_reducible refine (broadsheetref45_number.calls k1 (IntKind.u64.wrap ((((rd_T41 l0 x5_1).f0).length : Int))) 1 t139 _ A6.out).mono ?_); rintro e w8 ⟨rfl, hb⟩; refine ⟨_, rfl, ?_⟩; have n0_ := Aside0.mk (below_step (by repeat (first | (with_reducible first | exact HB.out | apply below_alloc | apply pw_below_drewN | apply below_drew1) | exact HB.out)) hb); clear HB; have HB := n0_; clear n0_; (try clear hb); (try clear hb2); (try clear hk); (try clear hi)))
                go_loopg [4, 6] k1 (fun kq v4 v6 w' => ∃ (x4_2 : ByteArray) (x6_2 : Int), v4 = .string x4_2 ∧ v6 = .int .i64 x6_2 ∧ Aside0 (broadsheetref45_Put.l1 kq l0 x4_2 x5_1 x6_2 = some (r1, r2)) ∧ Aside0 (kq ≤ k1) ∧ Aside0 (Below w.heap.size w w'))
                case atStart => exact ⟨(x4_1 ++ t139), (0), (by first | rfl | (simp; done) | (simp [*]; done)), (by first | rfl | (simp; done) | (simp [*]; done)), H', ⟨Nat.le_refl _⟩, ⟨by repeat (first | (with_reducible first | exact HB.out | apply below_alloc | apply pw_below_drewN | apply below_drew1) | exact HB.out)⟩⟩
                case round =>
                  clear H'
                  try clear c1
                  try clear p1
                  try clear q1
                  try clear hx1
                  try clear c2
                  try clear c2b0
                  try clear c2b1
                  try clear p2
                  try clear c3
                  try clear c3b0
                  try clear c4
                  try clear c4b0
                  try clear c5
                  try clear c5b0
                  try clear c5b1
                  try clear c6
                  try clear c7
                  try clear c7b0
                  try clear c7b1
                  try clear c7b2
                  try clear hx137_0
                  try clear hx138_0
                  try clear p137
                  try clear p138
                  try clear p2
                  try clear q137
                  try clear q138
                  obtain ⟨x4_2, x6_2, rfl, rfl, HA, HK2, HB⟩ := hrel
                  cases gk with
                  | zero => exact absurd HA.out (by simp [broadsheetref45_Put.l1])
                  | succ k2 =>
                    have H := HA.out
                    clear HA
                    simp only [broadsheetref45_Put.l1] at H
                    by_cases c9 : 0 ≤ x5_1
                    · rw [if_pos c9] at H
                      have c9b0 : decide (0 ≤ x5_1) = true := decide_eq_true c9
                      clear c9
                      by_cases c10 : x5_1 < (l0.length : Int)
                      · rw [if_pos c10] at H
                        have c10b0 : decide (x5_1 < (l0.length : Int)) = true := decide_eq_true c10
                        clear c10
                        by_cases c11 : x6_2 < (((rd_T41 l0 x5_1).f0).length : Int)
                        · rw [if_pos c11] at H
                          have c11b0 : decide (x6_2 < (((rd_T41 l0 x5_1).f0).length : Int)) = true := decide_eq_true c11
                          clear c11
                          by_cases c12 : 0 ≤ x6_2
                          · rw [if_pos c12] at H
                            have c12b0 : decide (0 ≤ x6_2) = true := decide_eq_true c12
                            clear c12
                            replace H := Option.bind_eq_some_iff.mp H
                            obtain ⟨⟨t143, t144⟩, A130, H⟩ := H
                            replace H : (if t144 = 0 then (if x4_2.size + t143.size ≤ 9223372036854775807 then (broadsheetref45_Put.l1 k2 l0 (x4_2 ++ t143) x5_1 (wrap64 (x6_2 + 1))) else (none)) else (some ((⟨#[]⟩ : ByteArray), t144))) = some (r1, r2) := H
                            have A13 := Aside0.mk A130
                            clear A130
                            by_cases c14 : t144 = 0
                            · rw [if_pos c14] at H
                              have c14b0 : (t144 == 0) = true := beq_iff_eq.mpr c14
                              have c14b1 : (t144 != 0) = false := bne_eq_false_iff_eq.mpr c14
                              clear c14
                              by_cases c15 : x4_2.size + t143.size ≤ 9223372036854775807
                              · rw [if_pos c15] at H
                                have c15b0 := eq_true c15
                                have c15b1 : decide (x4_2.size + t143.size ≤ 9223372036854775807) = true := decide_eq_true c15
                                try have c15b2 : (9223372036854775807 < x4_2.size + t143.size) = False := eq_false (Nat.not_lt.2 c15)
                                have H' := Aside0.mk H
                                clear H
                                have p140 : 0 ≤ (x5_1 : Int) := of_decide_eq_true (by first | (with_reducible assumption) | assumption)
                                have q140 : x5_1 < (l0.length : Int) := of_decide_eq_true (by first | (with_reducible assumption) | assumption)
                                obtain ⟨ad140, A140_0, c140_0, e140, hx140_0, hl140_0, hi140_0⟩ := at_T41 HR0.out x5_1 p140 q140
                                obtain rfl : ad137 = ad140 := (by injection e140)
                                replace hx140_0 := (HB.out.cell (World.block_lt_of_cell? w _ hx140_0)).trans hx140_0
                                have HR140_0 := Aside0.mk hi140_0
                                have HC140_0 := Aside0.mk hl140_0
                                clear hi140_0 hl140_0
                                replace p140 := eq_true p140
                                replace q140 := eq_true q140
                                have p141 : 0 ≤ (x5_1 : Int) := of_decide_eq_true (by first | (with_reducible assumption) | assumption)
                                have q141 : x5_1 < (l0.length : Int) := of_decide_eq_true (by first | (with_reducible assumption) | assumption)
                                obtain ⟨ad141, A141_0, c141_0, e141, hx141_0, hl141_0, hi141_0⟩ := at_T41 HR0.out x5_1 p141 q141
                                obtain rfl : ad137 = ad141 := (by injection e141)
                                replace hx141_0 := (HB.out.cell (World.block_lt_of_cell? w _ hx141_0)).trans hx141_0
                                have HR141_0 := Aside0.mk hi141_0
                                have HC141_0 := Aside0.mk hl141_0
                                clear hi141_0 hl141_0
                                replace p141 := eq_true p141
                                replace q141 := eq_true q141
                                have ea_ := Option.some.inj (hx140_0.symm.trans hx141_0)
                                injection ea_ with ea_ en_ ec_
                                subst ea_
                                subst ec_
                                clear en_
                                have p142 : 0 ≤ (x6_2 : Int) := of_decide_eq_true (by first | (with_reducible assumption) | assumption)
                                have q142 : x6_2 < (((rd_T41 l0 x5_1).f0).length : Int) := of_decide_eq_true (by first | (with_reducible assumption) | assumption)
                                obtain ⟨ad142, e142, hx142_0, hx142_1, hx142_2⟩ := at_T43 HR141_0.out x6_2 p142 q142
                                cases e142
                                replace hx142_0 := (HB.out.cell (World.block_lt_of_cell? w _ hx142_0)).trans hx142_0
                                replace hx142_1 := (HB.out.cell (World.block_lt_of_cell? w _ hx142_1)).trans hx142_1
                                replace hx142_2 := (HB.out.cell (World.block_lt_of_cell? w _ hx142_2)).trans hx142_2
                                replace p142 := eq_true p142
                                replace q142 := eq_true q142
                                go_wp2_with (first | ((with_reducible refine gate_callee (f := 65) rfl ?_); refine goesL_ (some 54) rfl rfl Try.func65 (by kernel_rfl) rfl #[.agg #[.int .i64 ((rd_T43 ((rd_T41 l0 x5_1).f0) x6_2).f0), .int .i64 ((rd_T43 ((rd_T41 l0 x5_1).f0) x6_2).f1), .string ((rd_T43 ((rd_T41 l0 x5_1).f0) x6_2).f2)]] rfl (by (try simp only [List.map_toArray, List.map_cons, List.map_nil]); first | done | rfl | (simp only [List.length_drop, List.length_take]; rfl)) ?_; (with_reducible refine (broadsheetref45_act.calls k2 ((rd_T43 ((rd_T41 l0 x5_1).f0) x6_2).f0) ((rd_T43 ((rd_T41 l0 x5_1).f0) x6_2).f1) ((rd_T43 ((rd_T41 l0 x5_1).f0) x6_2).f2) t143 t144 _ A13.out).mono ?_); rintro e w16 ⟨rfl, hb⟩; refine ⟨_, rfl, ?_⟩; have n0_ := Aside0.mk (below_step (by repeat (first | (with_reducible first | exact HB.out | apply below_alloc | apply pw_below_drewN | apply below_drew1) | exact HB.out)) hb); clear HB; have HB := n0_; clear n0_; (try clear hb); (try clear hb2); (try clear hk); (try clear hi)))
                                go_roundg k2
                                case measure => have := HK1.out; have := HK2.out; omega
                                case rel => exact ⟨(x4_2 ++ t143), (wrap64 (x6_2 + 1)), (by first | rfl | (simp; done) | (simp [*]; done)), (by first | rfl | (simp; done) | (simp [*]; done)), H', ⟨by have := HK1.out; have := HK2.out; omega⟩, ⟨by repeat (first | (with_reducible first | exact HB.out | apply below_alloc | apply pw_below_drewN | apply below_drew1) | exact HB.out)⟩⟩
                              · rw [if_neg c15] at H
                                exact absurd H (by simp)
                            · rw [if_neg c14] at H
                              have c14b0 : (t144 == 0) = false := beq_eq_false_iff_ne.mpr c14
                              have c14b1 : (t144 != 0) = true := bne_iff_ne.mpr c14
                              simp only [Option.some.injEq, Prod.mk.injEq] at H
                              obtain ⟨rfl, rfl⟩ := H
                              have p140 : 0 ≤ (x5_1 : Int) := of_decide_eq_true (by first | (with_reducible assumption) | assumption)
                              have q140 : x5_1 < (l0.length : Int) := of_decide_eq_true (by first | (with_reducible assumption) | assumption)
                              obtain ⟨ad140, A140_0, c140_0, e140, hx140_0, hl140_0, hi140_0⟩ := at_T41 HR0.out x5_1 p140 q140
                              obtain rfl : ad137 = ad140 := (by injection e140)
                              replace hx140_0 := (HB.out.cell (World.block_lt_of_cell? w _ hx140_0)).trans hx140_0
                              have HR140_0 := Aside0.mk hi140_0
                              have HC140_0 := Aside0.mk hl140_0
                              clear hi140_0 hl140_0
                              replace p140 := eq_true p140
                              replace q140 := eq_true q140
                              have p141 : 0 ≤ (x5_1 : Int) := of_decide_eq_true (by first | (with_reducible assumption) | assumption)
                              have q141 : x5_1 < (l0.length : Int) := of_decide_eq_true (by first | (with_reducible assumption) | assumption)
                              obtain ⟨ad141, A141_0, c141_0, e141, hx141_0, hl141_0, hi141_0⟩ := at_T41 HR0.out x5_1 p141 q141
                              obtain rfl : ad137 = ad141 := (by injection e141)
                              replace hx141_0 := (HB.out.cell (World.block_lt_of_cell? w _ hx141_0)).trans hx141_0
                              have HR141_0 := Aside0.mk hi141_0
                              have HC141_0 := Aside0.mk hl141_0
                              clear hi141_0 hl141_0
                              replace p141 := eq_true p141
                              replace q141 := eq_true q141
                              have ea_ := Option.some.inj (hx140_0.symm.trans hx141_0)
                              injection ea_ with ea_ en_ ec_
                              subst ea_
                              subst ec_
                              clear en_
                              have p142 : 0 ≤ (x6_2 : Int) := of_decide_eq_true (by first | (with_reducible assumption) | assumption)
                              have q142 : x6_2 < (((rd_T41 l0 x5_1).f0).length : Int) := of_decide_eq_true (by first | (with_reducible assumption) | assumption)
                              obtain ⟨ad142, e142, hx142_0, hx142_1, hx142_2⟩ := at_T43 HR141_0.out x6_2 p142 q142
                              cases e142
                              replace hx142_0 := (HB.out.cell (World.block_lt_of_cell? w _ hx142_0)).trans hx142_0
                              replace hx142_1 := (HB.out.cell (World.block_lt_of_cell? w _ hx142_1)).trans hx142_1
                              replace hx142_2 := (HB.out.cell (World.block_lt_of_cell? w _ hx142_2)).trans hx142_2
                              replace p142 := eq_true p142
                              replace q142 := eq_true q142
                              go_wp2_with (first | ((with_reducible refine gate_callee (f := 65) rfl ?_); refine goesL_ (some 54) rfl rfl Try.func65 (by kernel_rfl) rfl #[.agg #[.int .i64 ((rd_T43 ((rd_T41 l0 x5_1).f0) x6_2).f0), .int .i64 ((rd_T43 ((rd_T41 l0 x5_1).f0) x6_2).f1), .string ((rd_T43 ((rd_T41 l0 x5_1).f0) x6_2).f2)]] rfl (by (try simp only [List.map_toArray, List.map_cons, List.map_nil]); first | done | rfl | (simp only [List.length_drop, List.length_take]; rfl)) ?_; (with_reducible refine (broadsheetref45_act.calls k2 ((rd_T43 ((rd_T41 l0 x5_1).f0) x6_2).f0) ((rd_T43 ((rd_T41 l0 x5_1).f0) x6_2).f1) ((rd_T43 ((rd_T41 l0 x5_1).f0) x6_2).f2) t143 t144 _ A13.out).mono ?_); rintro e w17 ⟨rfl, hb⟩; refine ⟨_, rfl, ?_⟩; have n0_ := Aside0.mk (below_step (by repeat (first | (with_reducible first | exact HB.out | apply below_alloc | apply pw_below_drewN | apply below_drew1) | exact HB.out)) hb); clear HB; have HB := n0_; clear n0_; (try clear hb); (try clear hb2); (try clear hk); (try clear hi)))
                              go_ret2
                              exact ⟨by first | rfl | (simp [errW_none, errW_some] <;> rfl) | (simp [*, errW_none, errW_some] <;> rfl), by repeat (first | (with_reducible first | exact HB.out | apply below_alloc | apply pw_below_drewN | apply below_drew1) | exact HB.out)⟩
                          · rw [if_neg c12] at H
                            exact absurd H (by simp)
                        · rw [if_neg c11] at H
                          have c11b0 : decide (x6_2 < (((rd_T41 l0 x5_1).f0).length : Int)) = false := decide_eq_false c11
                          clear c11
                          have H' := Aside0.mk H
                          clear H
                          have p140 : 0 ≤ (x5_1 : Int) := of_decide_eq_true (by first | (with_reducible assumption) | assumption)
                          have q140 : x5_1 < (l0.length : Int) := of_decide_eq_true (by first | (with_reducible assumption) | assumption)
                          obtain ⟨ad140, A140_0, c140_0, e140, hx140_0, hl140_0, hi140_0⟩ := at_T41 HR0.out x5_1 p140 q140
                          obtain rfl : ad137 = ad140 := (by injection e140)
                          replace hx140_0 := (HB.out.cell (World.block_lt_of_cell? w _ hx140_0)).trans hx140_0
                          have HR140_0 := Aside0.mk hi140_0
                          have HC140_0 := Aside0.mk hl140_0
                          clear hi140_0 hl140_0
                          replace p140 := eq_true p140
                          replace q140 := eq_true q140
                          go_wp2
                          go_roundg k2
                          case measure => have := HK1.out; have := HK2.out; omega
                          case rel => exact ⟨(x4_2), (wrap64 (x5_1 + 1)), (by first | rfl | (simp; done) | (simp [*]; done)), (by first | rfl | (simp; done) | (simp [*]; done)), H', ⟨by have := HK1.out; have := HK2.out; omega⟩, ⟨by repeat (first | (with_reducible first | exact HB.out | apply below_alloc | apply pw_below_drewN | apply below_drew1) | exact HB.out)⟩⟩
                      · rw [if_neg c10] at H
                        exact absurd H (by simp)
                    · rw [if_neg c9] at H
                      exact absurd H (by simp)
              · rw [if_neg c7] at H
                exact absurd H (by simp)
          · rw [if_neg c4] at H
            exact absurd H (by simp)
        · rw [if_neg c3] at H
          have c3b0 : decide (x5_1 < (l0.length : Int)) = false := decide_eq_false c3
          clear c3
          simp only [Option.some.injEq, Prod.mk.injEq] at H
          obtain ⟨rfl, rfl⟩ := H
          go_wp2
          go_ret2
          exact ⟨by first | rfl | (simp [errW_none, errW_some] <;> rfl) | (simp [*, errW_none, errW_some] <;> rfl), by repeat (first | (with_reducible first | exact HB.out | apply below_alloc | apply pw_below_drewN | apply below_drew1) | exact HB.out)⟩

/-! ### broadsheetref45_Plain: function 25 -/
def broadsheetref45_Plain.f (a0_0 : Int) (a0_1 : Int) (a0_2 : ByteArray) : Option (Int × Int × ByteArray) := if a0_0 = 1 then (some (a0_0, a0_1, a0_2)) else (if a0_0 = 2 then (some (2, 0, a0_2)) else (some (a0_0, 0, (⟨#[]⟩ : ByteArray))))
set_option maxHeartbeats 8000000 in
set_option maxRecDepth 100000 in
theorem broadsheetref45_Plain.calls (a0_0 : Int) (a0_1 : Int) (a0_2 : ByteArray) (r1 : Int) (r2 : Int) (r3 : ByteArray) (w : World) (h : broadsheetref45_Plain.f a0_0 a0_1 a0_2 = some (r1, r2, r3)) :
    Calls Try.prog 25 #[.agg #[.int .i64 a0_0, .int .i64 a0_1, .string a0_2]] w fun e w' => e = .returned (.agg #[.int .i64 r1, .int .i64 r2, .string r3]) ∧ Below w.heap.size w w' := by
  have hu43 := Try.underlying43
  have HB := Aside0.mk (Below.refl w.heap.size w)
  have H : (if a0_0 = 1 then (some (a0_0, a0_1, a0_2)) else (if a0_0 = 2 then (some (2, 0, a0_2)) else (some (a0_0, 0, (⟨#[]⟩ : ByteArray))))) = some (r1, r2, r3) := h
  clear h
  by_cases c2 : a0_0 = 1
  · rw [if_pos c2] at H
    have c2b0 : (a0_0 == 1) = true := beq_iff_eq.mpr c2
    have c2b1 : (a0_0 != 1) = false := bne_eq_false_iff_eq.mpr c2
    clear c2
    simp only [Option.some.injEq, Prod.mk.injEq] at H
    obtain ⟨rfl, rfl, rfl⟩ := H
    go_enter Try.func25, Try.ntmps25
    go_wp2_with (first | ((with_reducible refine gate_dst (N := 1) rfl ?_); refine box_event ?hg (N := 1) ?hd (cs := #[.int .i64 a0_0, .int .i64 a0_1, .string a0_2]) (t := 43) ?hr ?_; (case hd => rfl); (case hg => rfl); (case hr => first | (go_simp; done) | (go_simp; rfl)); intro gb148 hg w3 hbox hb; have n0_ := Aside0.mk (below_step (by repeat (first | (with_reducible first | exact HB.out | apply below_alloc | apply pw_below_drewN | apply below_drew1) | exact HB.out)) hb); have n1_ := Aside0.mk (hbox); have n2_ := Aside0.mk ((by rw [hg]; exact (below_size (by repeat (first | (with_reducible first | exact HB.out | apply below_alloc | apply pw_below_drewN | apply below_drew1) | exact HB.out))) : w.heap.size ≤ gb148)); have n3_ := Aside0.mk ((by rw [hg]; exact (below_size (by repeat (first | (with_reducible first | exact HB.out | apply below_alloc | apply pw_below_drewN | apply below_drew1) | exact HB.out))) : w.heap.size ≤ gb148)); clear HB; have HB := n0_; have BK148 := n1_; have GW148 := n2_; have GE148 := n3_; clear n0_ n1_ n2_ n3_; clear hb hbox hg) | ((with_reducible refine gate_dst (N := 2) rfl ?_); refine box_event ?hg (N := 2) ?hd (cs := #[.int .i64 0, .int .i64 0, .string (⟨#[]⟩ : ByteArray)]) (t := 43) ?hr ?_; (case hd => rfl); (case hg => rfl); (case hr => first | (go_simp; done) | (go_simp; rfl)); intro gb149 hg w4 hbox hb; have n0_ := Aside0.mk (blk_below (g := gb148) (o := .cells #[.int .i64 a0_0, .int .i64 a0_1, .string a0_2] 43 (0, 0)) (by (with_reducible repeat (first | refine blk_drewN ?_ _ | refine blk_drew ?_ | refine blk_alloc ?_ _)); exact BK148.out) hb); have n1_ := Aside0.mk (below_step (by repeat (first | (with_reducible first | exact HB.out | apply below_alloc | apply pw_below_drewN | apply below_drew1 | refine below_set ?_ GE148.out) | exact HB.out)) hb); have n2_ := Aside0.mk (hbox); have n3_ := Aside0.mk ((by rw [hg]; exact (below_size (by repeat (first | (with_reducible first | exact HB.out | apply below_alloc | apply pw_below_drewN | apply below_drew1 | refine below_set ?_ GE148.out) | exact HB.out))) : w.heap.size ≤ gb149)); have n4_ := Aside0.mk ((by rw [hg]; exact (below_size (by repeat (first | (with_reducible first | exact HB.out | apply below_alloc | apply pw_below_drewN | apply below_drew1 | refine below_set ?_ GE148.out) | exact HB.out))) : w.heap.size ≤ gb149)); have n5_ := Aside0.mk ((by rw [hg]; exact Nat.ne_of_lt (blk_lt (g := gb148) (o := .cells #[.int .i64 a0_0, .int .i64 a0_1, .string a0_2] 43 (0, 0)) (by (with_reducible repeat (first | refine blk_drewN ?_ _ | refine blk_drew ?_ | refine blk_alloc ?_ _)); exact BK148.out)) : gb148 ≠ gb149)); have n6_ := Aside0.mk ((by rw [hg]; exact Nat.ne_of_gt (blk_lt (g := gb148) (o := .cells #[.int .i64 a0_0, .int .i64 a0_1, .string a0_2] 43 (0, 0)) (by (with_reducible repeat (first | refine blk_drewN ?_ _ | refine blk_drew ?_ | refine blk_alloc ?_ _)); exact BK148.out)) : gb149 ≠ gb148)); clear BK148; clear HB; have BK148 := n0_; have HB := n1_; have BK149 := n2_; have GW149 := n3_; have GE149 := n4_; have NB148_149 := n5_; have NB149_148 := n6_; clear n0_ n1_ n2_ n3_ n4_ n5_ n6_; clear hb hbox hg; have hnb5 := NB148_149.out; have hnc5 := NB149_148.out; have hcz6_0 : w4.cell? ⟨gb148, 0, none⟩ = some (.int .i64 a0_0) := (blk_cell BK148.out 0).trans rfl; have hcz6_1 : w4.cell? ⟨gb148, 1, none⟩ = some (.int .i64 a0_1) := (blk_cell BK148.out 1).trans rfl; have hcz6_2 : w4.cell? ⟨gb148, 2, none⟩ = some (.string a0_2) := (blk_cell BK148.out 2).trans rfl; have hfz6_0 := blk_frozen BK148.out 0; have hfz6_1 := blk_frozen BK148.out 1; have hfz6_2 := blk_frozen BK148.out 2; have hcz7_0 : w4.cell? ⟨gb149, 0, none⟩ = some (.int .i64 0) := (blk_cell BK149.out 0).trans rfl; have hcz7_1 : w4.cell? ⟨gb149, 1, none⟩ = some (.int .i64 0) := (blk_cell BK149.out 1).trans rfl; have hcz7_2 : w4.cell? ⟨gb149, 2, none⟩ = some (.string (⟨#[]⟩ : ByteArray)) := (blk_cell BK149.out 2).trans rfl; have hfz7_0 := blk_frozen BK149.out 0; have hfz7_1 := blk_frozen BK149.out 1; have hfz7_2 := blk_frozen BK149.out 2))
    refine bodyPost_ret (results_cell_row rfl _ _ gb149 43 #[.int .i64 a0_0, .int .i64 a0_1, .string a0_2] (0, 0) _ rfl (by (with_reducible repeat (first | refine blk_drewN ?_ _ | refine blk_drew ?_ | refine blk_alloc ?_ _)); refine blk_put (cs := #[.int .i64 a0_0, .int .i64 a0_1, .string (⟨#[]⟩ : ByteArray)]) ?_ 2 _ rfl; (with_reducible repeat (first | refine blk_drewN ?_ _ | refine blk_drew ?_ | refine blk_alloc ?_ _)); refine blk_put (cs := #[.int .i64 a0_0, .int .i64 0, .string (⟨#[]⟩ : ByteArray)]) ?_ 1 _ rfl; (with_reducible repeat (first | refine blk_drewN ?_ _ | refine blk_drew ?_ | refine blk_alloc ?_ _)); refine blk_put (cs := #[.int .i64 0, .int .i64 0, .string (⟨#[]⟩ : ByteArray)]) ?_ 0 _ rfl; (with_reducible repeat (first | refine blk_drewN ?_ _ | refine blk_drew ?_ | refine blk_alloc ?_ _)); exact BK149.out) Try.underlying43 rfl (by kernel_rfl)) rfl ?_
    exact ⟨by first | rfl | (simp [errW_none, errW_some] <;> rfl) | (simp [*, errW_none, errW_some] <;> rfl), by repeat (first | (with_reducible first | exact HB.out | apply below_alloc | apply pw_below_drewN | apply below_drew1 | refine below_set ?_ GE148.out | refine below_set ?_ GE149.out) | exact HB.out)⟩
  · rw [if_neg c2] at H
    have c2b0 : (a0_0 == 1) = false := beq_eq_false_iff_ne.mpr c2
    have c2b1 : (a0_0 != 1) = true := bne_iff_ne.mpr c2
    by_cases c8 : a0_0 = 2
    · rw [if_pos c8] at H
      have c8b0 : (a0_0 == 2) = true := beq_iff_eq.mpr c8
      have c8b1 : (a0_0 != 2) = false := bne_eq_false_iff_eq.mpr c8
      clear c8
      simp only [Option.some.injEq, Prod.mk.injEq] at H
      obtain ⟨rfl, rfl, rfl⟩ := H
      go_enter Try.func25, Try.ntmps25
      go_wp2_with (first | ((with_reducible refine gate_dst (N := 1) rfl ?_); refine box_event ?hg (N := 1) ?hd (cs := #[.int .i64 a0_0, .int .i64 a0_1, .string a0_2]) (t := 43) ?hr ?_; (case hd => rfl); (case hg => rfl); (case hr => first | (go_simp; done) | (go_simp; rfl)); intro gb148 hg w9 hbox hb; have n0_ := Aside0.mk (below_step (by repeat (first | (with_reducible first | exact HB.out | apply below_alloc | apply pw_below_drewN | apply below_drew1) | exact HB.out)) hb); have n1_ := Aside0.mk (hbox); have n2_ := Aside0.mk ((by rw [hg]; exact (below_size (by repeat (first | (with_reducible first | exact HB.out | apply below_alloc | apply pw_below_drewN | apply below_drew1) | exact HB.out))) : w.heap.size ≤ gb148)); have n3_ := Aside0.mk ((by rw [hg]; exact (below_size (by repeat (first | (with_reducible first | exact HB.out | apply below_alloc | apply pw_below_drewN | apply below_drew1) | exact HB.out))) : w.heap.size ≤ gb148)); clear HB; have HB := n0_; have BK148 := n1_; have GW148 := n2_; have GE148 := n3_; clear n0_ n1_ n2_ n3_; clear hb hbox hg) | ((with_reducible refine gate_dst (N := 2) rfl ?_); refine box_event ?hg (N := 2) ?hd (cs := #[.int .i64 0, .int .i64 0, .string (⟨#[]⟩ : ByteArray)]) (t := 43) ?hr ?_; (case hd => rfl); (case hg => rfl); (case hr => first | (go_simp; done) | (go_simp; rfl)); intro gb149 hg w10 hbox hb; have n0_ := Aside0.mk (blk_below (g := gb148) (o := .cells #[.int .i64 a0_0, .int .i64 a0_1, .string a0_2] 43 (0, 0)) (by (with_reducible repeat (first | refine blk_drewN ?_ _ | refine blk_drew ?_ | refine blk_alloc ?_ _)); exact BK148.out) hb); have n1_ := Aside0.mk (below_step (by repeat (first | (with_reducible first | exact HB.out | apply below_alloc | apply pw_below_drewN | apply below_drew1 | refine below_set ?_ GE148.out) | exact HB.out)) hb); have n2_ := Aside0.mk (hbox); have n3_ := Aside0.mk ((by rw [hg]; exact (below_size (by repeat (first | (with_reducible first | exact HB.out | apply below_alloc | apply pw_below_drewN | apply below_drew1 | refine below_set ?_ GE148.out) | exact HB.out))) : w.heap.size ≤ gb149)); have n4_ := Aside0.mk ((by rw [hg]; exact (below_size (by repeat (first | (with_reducible first | exact HB.out | apply below_alloc | apply pw_below_drewN | apply below_drew1 | refine below_set ?_ GE148.out) | exact HB.out))) : w.heap.size ≤ gb149)); have n5_ := Aside0.mk ((by rw [hg]; exact Nat.ne_of_lt (blk_lt (g := gb148) (o := .cells #[.int .i64 a0_0, .int .i64 a0_1, .string a0_2] 43 (0, 0)) (by (with_reducible repeat (first | refine blk_drewN ?_ _ | refine blk_drew ?_ | refine blk_alloc ?_ _)); exact BK148.out)) : gb148 ≠ gb149)); have n6_ := Aside0.mk ((by rw [hg]; exact Nat.ne_of_gt (blk_lt (g := gb148) (o := .cells #[.int .i64 a0_0, .int .i64 a0_1, .string a0_2] 43 (0, 0)) (by (with_reducible repeat (first | refine blk_drewN ?_ _ | refine blk_drew ?_ | refine blk_alloc ?_ _)); exact BK148.out)) : gb149 ≠ gb148)); clear BK148; clear HB; have BK148 := n0_; have HB := n1_; have BK149 := n2_; have GW149 := n3_; have GE149 := n4_; have NB148_149 := n5_; have NB149_148 := n6_; clear n0_ n1_ n2_ n3_ n4_ n5_ n6_; clear hb hbox hg; have hnb11 := NB148_149.out; have hnc11 := NB149_148.out; have hcz12_0 : w10.cell? ⟨gb148, 0, none⟩ = some (.int .i64 a0_0) := (blk_cell BK148.out 0).trans rfl; have hcz12_1 : w10.cell? ⟨gb148, 1, none⟩ = some (.int .i64 a0_1) := (blk_cell BK148.out 1).trans rfl; have hcz12_2 : w10.cell? ⟨gb148, 2, none⟩ = some (.string a0_2) := (blk_cell BK148.out 2).trans rfl; have hfz12_0 := blk_frozen BK148.out 0; have hfz12_1 := blk_frozen BK148.out 1; have hfz12_2 := blk_frozen BK148.out 2; have hcz13_0 : w10.cell? ⟨gb149, 0, none⟩ = some (.int .i64 0) := (blk_cell BK149.out 0).trans rfl; have hcz13_1 : w10.cell? ⟨gb149, 1, none⟩ = some (.int .i64 0) := (blk_cell BK149.out 1).trans rfl; have hcz13_2 : w10.cell? ⟨gb149, 2, none⟩ = some (.string (⟨#[]⟩ : ByteArray)) := (blk_cell BK149.out 2).trans rfl; have hfz13_0 := blk_frozen BK149.out 0; have hfz13_1 := blk_frozen BK149.out 1; have hfz13_2 := blk_frozen BK149.out 2))
      refine bodyPost_ret (results_cell_row rfl _ _ gb149 43 #[.int .i64 2, .int .i64 0, .string a0_2] (0, 0) _ rfl (by (with_reducible repeat (first | refine blk_drewN ?_ _ | refine blk_drew ?_ | refine blk_alloc ?_ _)); refine blk_put (cs := #[.int .i64 2, .int .i64 0, .string (⟨#[]⟩ : ByteArray)]) ?_ 2 _ rfl; (with_reducible repeat (first | refine blk_drewN ?_ _ | refine blk_drew ?_ | refine blk_alloc ?_ _)); refine blk_put (cs := #[.int .i64 2, .int .i64 0, .string (⟨#[]⟩ : ByteArray)]) ?_ 1 _ rfl; (with_reducible repeat (first | refine blk_drewN ?_ _ | refine blk_drew ?_ | refine blk_alloc ?_ _)); refine blk_put (cs := #[.int .i64 0, .int .i64 0, .string (⟨#[]⟩ : ByteArray)]) ?_ 0 _ rfl; (with_reducible repeat (first | refine blk_drewN ?_ _ | refine blk_drew ?_ | refine blk_alloc ?_ _)); exact BK149.out) Try.underlying43 rfl (by kernel_rfl)) rfl ?_
      exact ⟨by first | rfl | (simp [errW_none, errW_some] <;> rfl) | (simp [*, errW_none, errW_some] <;> rfl), by repeat (first | (with_reducible first | exact HB.out | apply below_alloc | apply pw_below_drewN | apply below_drew1 | refine below_set ?_ GE148.out | refine below_set ?_ GE149.out) | exact HB.out)⟩
    · rw [if_neg c8] at H
      have c8b0 : (a0_0 == 2) = false := beq_eq_false_iff_ne.mpr c8
      have c8b1 : (a0_0 != 2) = true := bne_iff_ne.mpr c8
      simp only [Option.some.injEq, Prod.mk.injEq] at H
      obtain ⟨rfl, rfl, rfl⟩ := H
      go_enter Try.func25, Try.ntmps25
      go_wp2_with (first | ((with_reducible refine gate_dst (N := 1) rfl ?_); refine box_event ?hg (N := 1) ?hd (cs := #[.int .i64 a0_0, .int .i64 a0_1, .string a0_2]) (t := 43) ?hr ?_; (case hd => rfl); (case hg => rfl); (case hr => first | (go_simp; done) | (go_simp; rfl)); intro gb148 hg w14 hbox hb; have n0_ := Aside0.mk (below_step (by repeat (first | (with_reducible first | exact HB.out | apply below_alloc | apply pw_below_drewN | apply below_drew1) | exact HB.out)) hb); have n1_ := Aside0.mk (hbox); have n2_ := Aside0.mk ((by rw [hg]; exact (below_size (by repeat (first | (with_reducible first | exact HB.out | apply below_alloc | apply pw_below_drewN | apply below_drew1) | exact HB.out))) : w.heap.size ≤ gb148)); have n3_ := Aside0.mk ((by rw [hg]; exact (below_size (by repeat (first | (with_reducible first | exact HB.out | apply below_alloc | apply pw_below_drewN | apply below_drew1) | exact HB.out))) : w.heap.size ≤ gb148)); clear HB; have HB := n0_; have BK148 := n1_; have GW148 := n2_; have GE148 := n3_; clear n0_ n1_ n2_ n3_; clear hb hbox hg) | ((with_reducible refine gate_dst (N := 2) rfl ?_); refine box_event ?hg (N := 2) ?hd (cs := #[.int .i64 0, .int .i64 0, .string (⟨#[]⟩ : ByteArray)]) (t := 43) ?hr ?_; (case hd => rfl); (case hg => rfl); (case hr => first | (go_simp; done) | (go_simp; rfl)); intro gb149 hg w15 hbox hb; have n0_ := Aside0.mk (blk_below (g := gb148) (o := .cells #[.int .i64 a0_0, .int .i64 a0_1, .string a0_2] 43 (0, 0)) (by (with_reducible repeat (first | refine blk_drewN ?_ _ | refine blk_drew ?_ | refine blk_alloc ?_ _)); exact BK148.out) hb); have n1_ := Aside0.mk (below_step (by repeat (first | (with_reducible first | exact HB.out | apply below_alloc | apply pw_below_drewN | apply below_drew1 | refine below_set ?_ GE148.out) | exact HB.out)) hb); have n2_ := Aside0.mk (hbox); have n3_ := Aside0.mk ((by rw [hg]; exact (below_size (by repeat (first | (with_reducible first | exact HB.out | apply below_alloc | apply pw_below_drewN | apply below_drew1 | refine below_set ?_ GE148.out) | exact HB.out))) : w.heap.size ≤ gb149)); have n4_ := Aside0.mk ((by rw [hg]; exact (below_size (by repeat (first | (with_reducible first | exact HB.out | apply below_alloc | apply pw_below_drewN | apply below_drew1 | refine below_set ?_ GE148.out) | exact HB.out))) : w.heap.size ≤ gb149)); have n5_ := Aside0.mk ((by rw [hg]; exact Nat.ne_of_lt (blk_lt (g := gb148) (o := .cells #[.int .i64 a0_0, .int .i64 a0_1, .string a0_2] 43 (0, 0)) (by (with_reducible repeat (first | refine blk_drewN ?_ _ | refine blk_drew ?_ | refine blk_alloc ?_ _)); exact BK148.out)) : gb148 ≠ gb149)); have n6_ := Aside0.mk ((by rw [hg]; exact Nat.ne_of_gt (blk_lt (g := gb148) (o := .cells #[.int .i64 a0_0, .int .i64 a0_1, .string a0_2] 43 (0, 0)) (by (with_reducible repeat (first | refine blk_drewN ?_ _ | refine blk_drew ?_ | refine blk_alloc ?_ _)); exact BK148.out)) : gb149 ≠ gb148)); clear BK148; clear HB; have BK148 := n0_; have HB := n1_; have BK149 := n2_; have GW149 := n3_; have GE149 := n4_; have NB148_149 := n5_; have NB149_148 := n6_; clear n0_ n1_ n2_ n3_ n4_ n5_ n6_; clear hb hbox hg; have hnb16 := NB148_149.out; have hnc16 := NB149_148.out; have hcz17_0 : w15.cell? ⟨gb148, 0, none⟩ = some (.int .i64 a0_0) := (blk_cell BK148.out 0).trans rfl; have hcz17_1 : w15.cell? ⟨gb148, 1, none⟩ = some (.int .i64 a0_1) := (blk_cell BK148.out 1).trans rfl; have hcz17_2 : w15.cell? ⟨gb148, 2, none⟩ = some (.string a0_2) := (blk_cell BK148.out 2).trans rfl; have hfz17_0 := blk_frozen BK148.out 0; have hfz17_1 := blk_frozen BK148.out 1; have hfz17_2 := blk_frozen BK148.out 2; have hcz18_0 : w15.cell? ⟨gb149, 0, none⟩ = some (.int .i64 0) := (blk_cell BK149.out 0).trans rfl; have hcz18_1 : w15.cell? ⟨gb149, 1, none⟩ = some (.int .i64 0) := (blk_cell BK149.out 1).trans rfl; have hcz18_2 : w15.cell? ⟨gb149, 2, none⟩ = some (.string (⟨#[]⟩ : ByteArray)) := (blk_cell BK149.out 2).trans rfl; have hfz18_0 := blk_frozen BK149.out 0; have hfz18_1 := blk_frozen BK149.out 1; have hfz18_2 := blk_frozen BK149.out 2))
      refine bodyPost_ret (results_cell_row rfl _ _ gb149 43 #[.int .i64 a0_0, .int .i64 0, .string (⟨#[]⟩ : ByteArray)] (0, 0) _ rfl (by (with_reducible repeat (first | refine blk_drewN ?_ _ | refine blk_drew ?_ | refine blk_alloc ?_ _)); refine blk_put (cs := #[.int .i64 a0_0, .int .i64 0, .string (⟨#[]⟩ : ByteArray)]) ?_ 2 _ rfl; (with_reducible repeat (first | refine blk_drewN ?_ _ | refine blk_drew ?_ | refine blk_alloc ?_ _)); refine blk_put (cs := #[.int .i64 a0_0, .int .i64 0, .string (⟨#[]⟩ : ByteArray)]) ?_ 1 _ rfl; (with_reducible repeat (first | refine blk_drewN ?_ _ | refine blk_drew ?_ | refine blk_alloc ?_ _)); refine blk_put (cs := #[.int .i64 0, .int .i64 0, .string (⟨#[]⟩ : ByteArray)]) ?_ 0 _ rfl; (with_reducible repeat (first | refine blk_drewN ?_ _ | refine blk_drew ?_ | refine blk_alloc ?_ _)); exact BK149.out) Try.underlying43 rfl (by kernel_rfl)) rfl ?_
      exact ⟨by first | rfl | (simp [errW_none, errW_some] <;> rfl) | (simp [*, errW_none, errW_some] <;> rfl), by repeat (first | (with_reducible first | exact HB.out | apply below_alloc | apply pw_below_drewN | apply below_drew1 | refine below_set ?_ GE148.out | refine below_set ?_ GE149.out) | exact HB.out)⟩

-- NOT PRINTED: function 5 (broadsheetlaw45_ScriptPuts)

end Go.Proofs.Ytimalojaiaofkaa.PScriptPuts
namespace Go.Proofs.Ytimalojaiaofkaa.Scr
open Go.RowKit Base Sp Flat Go.Proofs.YtimalojaiaofkaaW.PrintWords Go.Proofs.YtimalojaiaofkaaW.PrintLast Go.Proofs.YtimalojaiaofkaaW.PrintMore Wd Go.Proofs.Ytimalojaiaofkaa.PScriptPuts
theorem tx_list (s : ByteArray) : tx s.data.toList = s := by unfold tx; rw [Array.toArray_toList]
theorem tx_app (a b : List UInt8) : tx (a ++ b) = tx a ++ tx b := by
  apply ByteArray.ext
  simp [tx]
theorem tx_nbl (n s : Int) : tx (nbl n s) = nby (IntKind.u64.wrap n) s := tx_list _
theorem ae_ok {a : S43} (h : ae a = 0) : (a.f0 = 1 ∨ a.f0 = 2) ∧ a.f2.size ≤ 65535 := by
  unfold ae actE at h
  by_cases h1 : a.f0 ≠ 1 ∧ a.f0 ≠ 2
  · rw [if_pos h1] at h; exact absurd h (by decide)
  · rw [if_neg h1] at h
    by_cases h2 : a.f0 = 1 ∧ (bitv a.f1 4).2 ≠ 0
    · rw [if_pos h2] at h; exact absurd h (by decide)
    · rw [if_neg h2] at h
      by_cases h3 : 65535 < a.f2.size
      · rw [if_pos h3] at h; exact absurd h (by decide)
      · omega
theorem al_tx {a : S43} (h : ae a = 0) : actB a.f0 a.f1 a.f2 = tx (al a) := by
  obtain ⟨h1, h2⟩ := ae_ok h
  have hb := bitv_range a.f1
  unfold al abl actB actP
  rw [tx_app, tx_app, tx_list, tx_nbl, wrapu64 (by omega) (by omega)]
  by_cases hk : a.f0 = 1
  · rw [if_pos hk, if_pos hk, tx_app, tx_nbl, tx_nbl, wrapu64 (by omega) (by omega), wrapu64 (by omega) (by omega)]
  · rw [if_neg hk, if_neg hk, tx_nbl, wrapu64 (by omega) (by omega)]
theorem num_ev (n : Int) : Ev (fun k => broadsheetref45_number.f k (IntKind.u64.wrap n) 1) (nby (IntKind.u64.wrap n) 1) := by
  have h := u64_range n
  refine ⟨12, fun k hk => ?_⟩
  show (broadsheetref01_Put.f k (IntKind.u64.wrap n) 1).bind _ = _
  rw [Wd.rput_eq _ 1 k hk h.1 h.2]
  rfl
/-- The ranges of actions. -/
def Rng (a : S43) : Prop := -9223372036854775808 ≤ a.f1 ∧ a.f1 < 9223372036854775808 ∧ a.f2.size ≤ 140737488355328
theorem act_bad {a : S43} (hr : Rng a) (h : ae a ≠ 0) (k : Nat) : broadsheetref45_act.f k a.f0 a.f1 a.f2 = some (⟨#[]⟩, ae a) := by
  unfold broadsheetref45_act.f
  unfold Rng at hr
  rw [if_pos hr, ract_bad rfl h]
  rfl
theorem act_ok {a : S43} (hr : Rng a) (h : ae a = 0) (k : Nat) : broadsheetref45_act.f k a.f0 a.f1 a.f2 = some (tx (al a), 0) := by
  unfold broadsheetref45_act.f
  unfold Rng at hr
  rw [if_pos hr, ract_good h, al_tx h]
theorem rp_in (l : List S41) (i : Nat) (hi : i < l.length) (hl : l.length ≤ 1024) (hx : l[i].f0.length ≤ 255) (hr : ∀ a ∈ l[i].f0, Rng a) (R : ByteArray → ByteArray × Int)
    (hc : ∀ T : ByteArray, T.size ≤ (i + 1) * 20000000 → Ev (fun k => broadsheetref45_Put.l0 k l T (wrap64 ((i : Int) + 1))) (R T)) : ∀ (e j : Nat) (T : ByteArray), j + e = l[i].f0.length → T.size ≤ i * 20000000 + 8 + j * 70000 →
      Ev (fun k => broadsheetref45_Put.l1 k l T (i : Int) (j : Int)) (if acE (l[i].f0.drop j) ≠ 0 then (⟨#[]⟩, acE (l[i].f0.drop j)) else R (T ++ tx (acL (l[i].f0.drop j))))
  | 0, j, T, h, ht => by
    rw [List.drop_of_length_le (by omega)]
    have h1 : acE [] = 0 := rfl
    have h2 : T ++ tx (acL []) = T := by apply ByteArray.ext; simp [tx, acL]
    rw [if_neg (fun h => h h1), h2]
    refine Ev.step (fun k => ?_) (hc T (by omega))
    simp only [broadsheetref45_Put.l1]
    rw [if_pos (by omega), if_pos (by omega), rd41 l i hi, if_neg (by omega)]
  | e + 1, j, T, h, ht => by
    have hj : j < l[i].f0.length := by omega
    have hra := hr _ (List.getElem_mem hj)
    rw [List.drop_eq_getElem_cons hj, acE, acL]
    by_cases h0 : ae (l[i].f0[j]) = 0
    · have hz := al_len h0
      have hq : ¬ ae (l[i].f0[j]) ≠ 0 := fun h => h h0
      simp only [if_neg hq]
      rw [tx_app]
      have hsz : (tx (al (l[i].f0[j]))).size = (al (l[i].f0[j])).length := rfl
      have ih := rp_in l i hi hl hx hr R hc e (j + 1) (T ++ tx (al (l[i].f0[j]))) (by omega) (by rw [ByteArray.size_append, hsz]; omega)
      have hw : wrap64 ((j : Int) + 1) = ((j + 1 : Nat) : Int) := by unfold wrap64; omega
      rw [app_assoc] at ih
      refine Ev.step (fun k => ?_) ih
      simp only [broadsheetref45_Put.l1]
      rw [if_pos (by omega), if_pos (by omega), rd41 l i hi, if_pos (by omega), if_pos (by omega), rd43 _ j hj, act_ok hra h0, Option.bind_some, if_pos rfl, if_pos (by rw [hsz]; omega), hw]
    · simp only [if_pos h0]
      refine Ev.step (f := fun _ => some _) (fun k => ?_) (Ev.now _)
      simp only [broadsheetref45_Put.l1]
      rw [if_pos (by omega), if_pos (by omega), rd41 l i hi, if_pos (by omega), if_pos (by omega), rd43 _ j hj, act_bad hra h0, Option.bind_some, if_neg h0]
theorem e1 {i d n : Nat} (h : i + (d + 1) = n) : i + 1 + d = n := by omega
theorem sz1 {T N : ByteArray} {i : Nat} (h1 : T.size ≤ i * 20000000) (h2 : N.size ≤ 8) : (T ++ N).size ≤ i * 20000000 + 8 + 0 * 70000 := by rw [ByteArray.size_append]; omega
theorem sz2 {T N : ByteArray} {i n : Nat} (h1 : T.size ≤ i * 20000000) (h2 : N.size ≤ 8) (h3 : i < n) (h4 : n ≤ 1024) : T.size + N.size ≤ 9223372036854775807 := by omega
theorem rp_out (l : List S41) (hl : l.length ≤ 1024) (hr : ∀ x ∈ l, ∀ a ∈ x.f0, Rng a) : ∀ (d i : Nat) (T : ByteArray), i + d = l.length → T.size ≤ i * 20000000 →
      Ev (fun k => broadsheetref45_Put.l0 k l T (i : Int)) (if sE (l.drop i) ≠ 0 then (⟨#[]⟩, sE (l.drop i)) else (T ++ tx (sL (l.drop i)), 0))
  | 0, i, T, h, ht => by
    rw [List.drop_of_length_le (by omega)]
    have h1 : sE [] = 0 := rfl
    have h2 : T ++ tx (sL []) = T := by apply ByteArray.ext; simp [tx, sL]
    rw [if_neg (fun h => h h1), h2]
    refine Ev.step (f := fun _ => some _) (fun k => ?_) (Ev.now _)
    simp only [broadsheetref45_Put.l0]
    rw [if_neg (by omega)]
  | d + 1, i, T, h, ht => by
    have hi : i < l.length := by omega
    have hra := hr _ (List.getElem_mem hi)
    rw [List.drop_eq_getElem_cons hi, sE, sL]
    by_cases hx : 255 < l[i].f0.length
    · have h3 : tE l[i] = 3 := if_pos hx
      rw [h3, if_pos (show (3 : Int) ≠ 0 from by decide), if_pos (show (3 : Int) ≠ 0 from by decide)]
      refine Ev.step (f := fun _ => some _) (fun k => ?_) (Ev.now _)
      simp only [broadsheetref45_Put.l0]
      rw [if_pos (by omega), if_pos (by omega), rd41 l i hi, if_pos (by omega)]
    · have h3 : tE (l[i]'hi) = acE (l[i]'hi).f0 := if_neg hx
      have hw : wrap64 ((i : Int) + 1) = ((i + 1 : Nat) : Int) := by unfold wrap64; omega
      have hn := nby_size (IntKind.u64.wrap ((l[i]'hi).f0.length : Int)) 1 (by decide)
      have hin := rp_in l i hi hl (by omega) hra (fun T => if sE (l.drop (i + 1)) ≠ 0 then (⟨#[]⟩, sE (l.drop (i + 1))) else (T ++ tx (sL (l.drop (i + 1))), 0))
        (fun T hT => by rw [hw]; exact rp_out l hl hr d (i + 1) T (e1 h) hT) (l[i]'hi).f0.length 0 (T ++ nby (IntKind.u64.wrap ((l[i]'hi).f0.length : Int)) 1) (Nat.zero_add _) (sz1 ht hn)
      rw [List.drop_zero] at hin
      have he : (if (if tE (l[i]'hi) ≠ 0 then tE (l[i]'hi) else sE (l.drop (i + 1))) ≠ 0 then ((⟨#[]⟩ : ByteArray), if tE (l[i]'hi) ≠ 0 then tE (l[i]'hi) else sE (l.drop (i + 1))) else (T ++ tx (tL (l[i]'hi) ++ sL (l.drop (i + 1))), 0)) =
          (if acE (l[i]'hi).f0 ≠ 0 then (⟨#[]⟩, acE (l[i]'hi).f0) else (if sE (l.drop (i + 1)) ≠ 0 then (⟨#[]⟩, sE (l.drop (i + 1))) else (T ++ nby (IntKind.u64.wrap ((l[i]'hi).f0.length : Int)) 1 ++ tx (acL (l[i]'hi).f0) ++ tx (sL (l.drop (i + 1))), 0))) := by
        rw [h3]
        by_cases hq : acE (l[i]'hi).f0 = 0
        · have hq2 : ¬ acE (l[i]'hi).f0 ≠ 0 := fun h => h hq
          simp only [if_neg hq2]
          rw [tL, tx_app, tx_app, tx_nbl]
          rw [app_assoc, app_assoc, app_assoc]
        · simp only [if_pos hq]
      rw [he]
      refine Ev.step (fun k => ?_) (Ev.bind (num_ev ((l[i]'hi).f0.length : Int)) (f := fun k t => if T.size + t.size ≤ 9223372036854775807 then broadsheetref45_Put.l1 k l (T ++ t) (i : Int) 0 else none) ?_)
      · simp only [broadsheetref45_Put.l0]
        rw [if_pos (by omega), if_pos (by omega), rd41 l i hi, if_neg (by omega)]
      · simp only [if_pos (sz2 ht hn hi hl)]
        exact hin
theorem rp_ev (l : List S41) (hr : ∀ x ∈ l, ∀ a ∈ x.f0, Rng a) : Ev (fun k => broadsheetref45_Put.f k l) (sput l) := by
  unfold sput broadsheetref45_Put.f
  by_cases h : 1024 < l.length
  · rw [if_pos h]
    refine Ev.congr (f := fun _ => some _) (fun k => ?_) (Ev.now _)
    rw [if_pos (by omega)]
  · rw [if_neg h]
    have := rp_out l (by omega) hr l.length 0 ⟨#[]⟩ (by omega) (Nat.zero_le _)
    rw [List.drop_zero, empty_app] at this
    refine Ev.congr (fun k => ?_) this
    rw [if_neg (by omega)]
    rfl
theorem much_in (l : List S41) (i : Nat) (hi : i < l.length) (hc : ∀ n : Int, ∃ r, Ev (fun k => broadsheetlaw45_Much.l0 k l n (wrap64 ((i : Int) + 1))) r) : ∀ (e j : Nat) (n : Int), j + e = l[i].f0.length → ∃ r, Ev (fun k => broadsheetlaw45_Much.l1 k l n (i : Int) (j : Int)) r
  | 0, j, n, h => by
    obtain ⟨r, hr⟩ := hc n
    refine ⟨r, Ev.step (fun k => ?_) hr⟩
    simp only [broadsheetlaw45_Much.l1]
    rw [if_pos (by omega), if_pos (by omega), rd41 l i hi, if_neg (by omega)]
  | e + 1, j, n, h => by
    by_cases h4 : j < 400
    · have hw : wrap64 ((j : Int) + 1) = ((j + 1 : Nat) : Int) := by unfold wrap64; omega
      obtain ⟨r, hr⟩ := much_in l i hi hc e (j + 1) (mn (wrap64 (n + (((rd_T43 l[i].f0 (j : Int)).f2).size : Int))) 1048576) (by omega)
      refine ⟨r, Ev.step (fun k => ?_) hr⟩
      simp only [broadsheetlaw45_Much.l1]
      rw [if_pos (by omega), if_pos (by omega), rd41 l i hi, if_pos (by omega), if_pos (by omega), if_pos (by omega), hw]
    · obtain ⟨r, hr⟩ := hc n
      refine ⟨r, Ev.step (fun k => ?_) hr⟩
      simp only [broadsheetlaw45_Much.l1]
      rw [if_pos (by omega), if_pos (by omega), rd41 l i hi, if_pos (by omega), if_neg (by omega)]
theorem much_out (l : List S41) (hl : l.length ≤ 140737488355328) : ∀ (d i : Nat) (n : Int), i + d = l.length → ∃ r, Ev (fun k => broadsheetlaw45_Much.l0 k l n (i : Int)) r
  | 0, i, n, h => by
    refine ⟨_, Ev.step (f := fun _ => some (if (l.length : Int) > 1100 then true else (if n > 5000 then (if n < 65000 then true else (decide (n > 70000))) else (decide (n > 70000))))) (fun k => ?_) (Ev.now _)⟩
    simp only [broadsheetlaw45_Much.l0]
    rw [if_neg (by omega)]
    split
    · rfl
    · split
      · split <;> rfl
      · rfl
  | d + 1, i, n, h => by
    have hi : i < l.length := by omega
    have hw : wrap64 ((i : Int) + 1) = ((i + 1 : Nat) : Int) := by unfold wrap64; omega
    obtain ⟨r, hr⟩ := much_in l i hi (fun n => by rw [hw]; exact much_out l hl d (i + 1) n (by omega)) l[i].f0.length 0 (mn (wrap64 (n + (l[i].f0.length : Int))) 1048576) (by omega)
    refine ⟨r, Ev.step (fun k => ?_) hr⟩
    simp only [broadsheetlaw45_Much.l0]
    rw [if_pos (by omega), if_pos (by omega), rd41 l i hi]
    rfl
end Go.Proofs.Ytimalojaiaofkaa.Scr
namespace Go.Proofs.Ytimalojaiaofkaa.Scr
open Go.RowKit Base Sp Flat Go.Proofs.YtimalojaiaofkaaW.PrintWords Go.Proofs.YtimalojaiaofkaaW.PrintLast Go.Proofs.YtimalojaiaofkaaW.PrintMore Wd Go.Proofs.Ytimalojaiaofkaa.PScriptPuts
/-- An action without what its kind has not. -/
def plv (a : S43) : S43 := ⟨a.f0, if a.f0 = 1 then a.f1 else 0, if a.f0 = 1 ∨ a.f0 = 2 then a.f2 else ⟨#[]⟩⟩
theorem rplain (a : S43) (w : World) : Calls Try.prog 25 #[.agg #[.int .i64 a.f0, .int .i64 a.f1, .string a.f2]] w fun e w' => e = .returned (.agg #[.int .i64 (plv a).f0, .int .i64 (plv a).f1, .string (plv a).f2]) ∧ Below w.heap.size w w' := by
  refine broadsheetref45_Plain.calls _ _ _ _ _ _ w ?_
  unfold broadsheetref45_Plain.f plv
  by_cases h1 : a.f0 = 1
  · rw [if_pos h1, if_pos h1, if_pos (.inl h1)]
  · rw [if_neg h1, if_neg h1]
    by_cases h2 : a.f0 = 2
    · rw [if_pos h2, if_pos (.inr h2), h2]
    · rw [if_neg h2, if_neg (fun h => h.elim h1 h2)]
set_option maxRecDepth 20000 in
set_option maxHeartbeats 1000000 in
theorem plain1 (k a : Int) (s : ByteArray) (w : World)  : Calls Try.prog 24 #[.agg #[.int .i64 1, .int .i64 a, .string s]] w fun e w' => e = .returned (.agg #[.int .i64 1, .int .i64 a, .string s]) ∧ Below w.heap.size w w' := by
  have bb : Below w.heap.size w (((w.alloc (Obj.cells #[.int .i64 1, .int .i64 a, .string s] 43)).alloc (Obj.cells #[.int .i64 1, .int .i64 a, .string s] 43)).alloc (Obj.cells #[.int .i64 1, .int .i64 a, .string s] 43)) := (((Below.refl _ _).alloc (Nat.le_refl _) _).alloc (by simp) _).alloc (by simp; omega) _
  
  go_enter Try.func24, Try.ntmps24
  go_wp2
  exact bodyPost_ret (v := .agg #[.int .i64 1, .int .i64 a, .string s]) (by simp [results, Try.results24, go_sem]) rfl ⟨rfl, bb⟩
set_option maxRecDepth 20000 in
set_option maxHeartbeats 1000000 in
theorem plain2 (k a : Int) (s : ByteArray) (w : World)  : Calls Try.prog 24 #[.agg #[.int .i64 2, .int .i64 a, .string s]] w fun e w' => e = .returned (.agg #[.int .i64 2, .int .i64 0, .string s]) ∧ Below w.heap.size w w' := by
  have bb : Below w.heap.size w (((w.alloc (Obj.cells #[.int .i64 2, .int .i64 a, .string s] 43)).alloc (Obj.cells #[.int .i64 2, .int .i64 0, .string s] 43)).alloc (Obj.cells #[.int .i64 2, .int .i64 0, .string s] 43)) := (((Below.refl _ _).alloc (Nat.le_refl _) _).alloc (by simp) _).alloc (by simp; omega) _
  
  go_enter Try.func24, Try.ntmps24
  go_wp2
  exact bodyPost_ret (v := .agg #[.int .i64 2, .int .i64 0, .string s]) (by simp [results, Try.results24, go_sem]) rfl ⟨rfl, bb⟩
set_option maxRecDepth 20000 in
set_option maxHeartbeats 1000000 in
theorem plain3 (k a : Int) (s : ByteArray) (w : World) (h1 : (k == 1) = false) (h2 : (k == 2) = false) : Calls Try.prog 24 #[.agg #[.int .i64 k, .int .i64 a, .string s]] w fun e w' => e = .returned (.agg #[.int .i64 k, .int .i64 0, .string ⟨#[]⟩]) ∧ Below w.heap.size w w' := by
  have bb : Below w.heap.size w (((w.alloc (Obj.cells #[.int .i64 k, .int .i64 a, .string s] 43)).alloc (Obj.cells #[.int .i64 k, .int .i64 0, .string ⟨#[]⟩] 43)).alloc (Obj.cells #[.int .i64 k, .int .i64 0, .string ⟨#[]⟩] 43)) := (((Below.refl _ _).alloc (Nat.le_refl _) _).alloc (by simp) _).alloc (by simp; omega) _
  
  go_enter Try.func24, Try.ntmps24
  go_wp2
  exact bodyPost_ret (v := .agg #[.int .i64 k, .int .i64 0, .string ⟨#[]⟩]) (by simp [results, Try.results24, go_sem]) rfl ⟨rfl, bb⟩
theorem plain (a : S43) (w : World) : Calls Try.prog 24 #[.agg #[.int .i64 a.f0, .int .i64 a.f1, .string a.f2]] w fun e w' => e = .returned (.agg #[.int .i64 (plv a).f0, .int .i64 (plv a).f1, .string (plv a).f2]) ∧ Below w.heap.size w w' := by
  unfold plv
  obtain ⟨k, a, s⟩ := a
  dsimp only
  by_cases h1 : k = 1
  · subst h1
    rw [if_pos rfl, if_pos (.inl rfl)]
    exact plain1 1 a s w
  · rw [if_neg h1]
    by_cases h2 : k = 2
    · subst h2
      rw [if_pos (.inr rfl)]
      exact plain2 2 a s w
    · rw [if_neg (fun h => h.elim h1 h2)]
      exact plain3 k a s w (beq_eq_false_iff_ne.2 h1) (beq_eq_false_iff_ne.2 h2)
def lact : S43 := ⟨1, 2, ⟨#[97]⟩⟩
def lit : List S41 := [⟨[lact]⟩]
theorem one43 {w : World} {g : Nat} {t : TypeId} (h : w.heap[g]? = some (.cells #[.int .i64 1, .int .i64 2, .string ⟨#[97]⟩] t (0, 0))) : Kd.C k43 w (some ⟨g, 0, none⟩) [lact].length [lact] := by
  refine ⟨rfl, by decide, fun _ => ⟨⟨g, 0, none⟩, rfl, fun j p hj => ?_⟩⟩
  have hj3 : j < 1 := (List.getElem?_eq_some_iff.1 hj).1
  obtain rfl : j = 0 := by omega
  obtain rfl : p = lact := by simpa using hj.symm
  refine ⟨[.int .i64 1, .int .i64 2, .string ⟨#[97]⟩], rfl, k43_mk _ lact, fun i u hi => ?_⟩
  have hi2 : i < 3 := (List.getElem?_eq_some_iff.1 hi).1
  have hc : ∀ k, w.cell? ⟨g, k, none⟩ = _ := fun k => blk_cell h k
  match i, hi2, hi with
  | 0, _, hi => exact (hc 0).trans hi
  | 1, _, hi => exact (hc 1).trans hi
  | 2, _, hi => exact (hc 2).trans hi
theorem one41 {w : World} {g b : Nat} {t : TypeId} (h : w.heap[g]? = some (.cells #[.slice (some ⟨b, 0, none⟩) 1 1] t (0, 0))) (hb : Kd.C k43 w (some ⟨b, 0, none⟩) [lact].length [lact]) : Kd.C k41 w (some ⟨g, 0, none⟩) lit.length lit := by
  refine ⟨rfl, by decide, fun _ => ⟨⟨g, 0, none⟩, rfl, fun j p hj => ?_⟩⟩
  have hj3 : j < 1 := (List.getElem?_eq_some_iff.1 hj).1
  obtain rfl : j = 0 := by omega
  obtain rfl : p = ⟨[lact]⟩ := by simpa [lit] using hj.symm
  refine ⟨[.slice (some ⟨b, 0, none⟩) 1 1], rfl, k41_mk _ ⟨[lact]⟩ (by decide) hb, fun i u hi => ?_⟩
  have hi2 : i < 1 := (List.getElem?_eq_some_iff.1 hi).1
  obtain rfl : i = 0 := by omega
  exact (blk_cell h 0).trans hi
theorem lit_put : sput lit = (⟨#[1, 1, 2, 0, 0, 0, 1, 0, 97]⟩, 0) := by kernel_rfl
set_option maxRecDepth 20000 in
set_option maxHeartbeats 1000000 in
theorem awake (w : World) : Calls Try.prog 21 #[] w fun e w' => e = .returned (.bool true) ∧ Below w.heap.size w w' := by
  have hW := Lib.hid (show ∃ W, W = (w.alloc (Obj.cells #[.int .i64 1, .int .i64 2, .string ⟨#[97]⟩] 43)).alloc (Obj.cells #[.slice (some ⟨w.heap.size, 0, none⟩) 1 1] 41) from ⟨_, rfl⟩)
  have bb : Below w.heap.size w ((w.alloc (Obj.cells #[.int .i64 1, .int .i64 2, .string ⟨#[97]⟩] 43)).alloc (Obj.cells #[.slice (some ⟨w.heap.size, 0, none⟩) 1 1] 41)) := ((Below.refl _ _).alloc (Nat.le_refl _) _).alloc (by simp) _
  have g1 : ((w.alloc (Obj.cells #[.int .i64 1, .int .i64 2, .string ⟨#[97]⟩] 43)).alloc (Obj.cells #[.slice (some ⟨w.heap.size, 0, none⟩) 1 1] 41)).heap[w.heap.size]? = some (.cells #[.int .i64 1, .int .i64 2, .string ⟨#[97]⟩] 43 (0, 0)) := (Lib.alloc_old _ _ _ (by simp)).trans (heap_alloc_new _ _)
  have g2 : ((w.alloc (Obj.cells #[.int .i64 1, .int .i64 2, .string ⟨#[97]⟩] 43)).alloc (Obj.cells #[.slice (some ⟨w.heap.size, 0, none⟩) 1 1] 41)).heap[w.heap.size + 1]? = some (.cells #[.slice (some ⟨w.heap.size, 0, none⟩) 1 1] 41 (0, 0)) := by
    have := heap_alloc_new (w.alloc (Obj.cells #[.int .i64 1, .int .i64 2, .string ⟨#[97]⟩] 43)) (Obj.cells #[.slice (some ⟨w.heap.size, 0, none⟩) 1 1] 41)
    simpa using this
  have C1 := put (some ⟨w.heap.size + 1, 0, none⟩) 1 lit _ (one41 g2 (one43 g1)) (by
    intro x hx a ha
    obtain rfl : x = ⟨[lact]⟩ := by simpa [lit] using hx
    obtain rfl : a = lact := by simpa using ha
    decide)
  rw [lit_put] at C1
  clear hW g1 g2
  go_enter Try.func21, Try.ntmps21
  go_wp2_with fail
  refine C1.mono ?_
  rintro e w2 ⟨rfl, b2⟩
  clear C1
  go_wp2
  go_ret
  exact ⟨rfl, bstep bb b2⟩
end Go.Proofs.Ytimalojaiaofkaa.Scr
namespace Go.Proofs.Ytimalojaiaofkaa.PScriptTakes
open Go.RowKit Go.Proofs.YtimalojaiaofkaaW.PrintWords Go.Proofs.YtimalojaiaofkaaW.PrintLast Go.Proofs.YtimalojaiaofkaaW.PrintMore Go.Proofs.Ytimalojaiaofkaa Base Wd
theorem acts_len (b : ByteArray) : ∀ (n : Nat) (a : Int) (l : List S43), (acts b n a l).1.length ≤ l.length + n
  | 0, a, l => Nat.le_refl _
  | n + 1, a, l => by
    rw [acts]
    split
    · refine Nat.le_trans (acts_len b n _ _) ?_
      rw [List.length_append, List.length_singleton]
      omega
    · exact Nat.le_add_right _ _
theorem turns_len (b : ByteArray) : ∀ (d : Nat) (a : Int) (l : List S41), (∀ x ∈ l, x.f0.length ≤ 255) → (turns b d a l).1.length ≤ l.length + d ∧ ∀ x ∈ (turns b d a l).1, x.f0.length ≤ 255
  | 0, a, l, h => by
    rw [turns]
    split
    · exact ⟨Nat.zero_le _, fun x hx => by cases hx⟩
    · exact ⟨Nat.le_add_right _ _, h⟩
  | d + 1, a, l, h => by
    rw [turns]
    split
    · split
      · have hn := bt_range b a
        have := turns_len b d (acts b (bt b a).toNat (a + 1) []).2.1 (l ++ [⟨(acts b (bt b a).toNat (a + 1) []).1⟩]) (fun x hx => by
          rcases List.mem_append.1 hx with hx | hx
          · exact h x hx
          · rw [List.mem_singleton.1 hx]
            have := acts_len b (bt b a).toNat (a + 1) []
            simp only [List.length_nil] at this
            show (acts b (bt b a).toNat (a + 1) []).1.length ≤ 255
            omega)
        rw [List.length_append, List.length_singleton] at this
        exact ⟨by omega, this.2⟩
      · exact ⟨Nat.zero_le _, fun x hx => by cases hx⟩
    · exact ⟨Nat.le_add_right _ _, h⟩
theorem same1 (l : List S41) (hl : l.length ≤ 1024) (i : Nat) (hi : i < l.length) (hx : (rd_T41 l (i : Int)).f0.length ≤ 255) (hnext : Ev (fun k => broadsheetref45_Same.l0 k l l ((i + 1 : Nat) : Int)) true) :
    ∀ (d j : Nat), j + d = (rd_T41 l (i : Int)).f0.length → Ev (fun k => broadsheetref45_Same.l1 k l l (i : Int) (j : Int)) true
  | 0, j, h => by
    have hw : wrap64 ((i : Int) + 1) = ((i + 1 : Nat) : Int) := by unfold wrap64; omega
    refine Ev.step (fun k => ?_) hnext
    simp only [broadsheetref45_Same.l1]
    rw [if_pos (by omega), if_pos (by omega), if_neg (by omega), hw]
  | d + 1, j, h => by
    have hw : wrap64 ((j : Int) + 1) = ((j + 1 : Nat) : Int) := by unfold wrap64; omega
    refine Ev.step (fun k => ?_) (same1 l hl i hi hx hnext d (j + 1) (by omega))
    simp only [broadsheetref45_Same.l1]
    rw [if_pos (by omega), if_pos (by omega), if_pos (by omega), if_pos (by omega), if_pos (by omega), if_pos (by omega), hw, if_neg (by simp)]
theorem same0 (l : List S41) (hl : l.length ≤ 1024) (hx : ∀ x ∈ l, x.f0.length ≤ 255) : ∀ (d i : Nat), i + d = l.length → Ev (fun k => broadsheetref45_Same.l0 k l l (i : Int)) true
  | 0, i, h => by
    refine Ev.step (f := fun _ => some _) (fun k => ?_) (Ev.now _)
    simp only [broadsheetref45_Same.l0]
    rw [if_neg (by omega)]
  | d + 1, i, h => by
    have hi : i < l.length := by omega
    have he : rd_T41 l (i : Int) = l[i] := by unfold rd_T41; rw [Int.toNat_natCast, List.getD_eq_getElem?_getD, List.getElem?_eq_getElem hi]; rfl
    refine Ev.step (fun k => ?_) (same1 l hl i hi (by rw [he]; exact hx _ (List.getElem_mem hi)) (same0 l hl hx d (i + 1) (by omega)) _ 0 (Nat.zero_add _))
    simp only [broadsheetref45_Same.l0]
    rw [if_pos (by omega), if_pos (by omega), if_pos (by omega), if_pos trivial]
    rfl
theorem same_ev (l : List S41) (hl : l.length ≤ 1024) (hx : ∀ x ∈ l, x.f0.length ≤ 255) : Ev (fun k => broadsheetref45_Same.f k l l) true := by
  refine Ev.congr (fun k => ?_) (same0 l hl hx l.length 0 (Nat.zero_add _))
  unfold broadsheetref45_Same.f
  rw [if_pos rfl]
  rfl
set_option maxRecDepth 20000 in
set_option maxHeartbeats 1000000 in
theorem takes (b : ByteArray) (hb : b.size ≤ 140737488351232) (w : World) : Calls Try.prog 6 #[.string b] w fun e w' => e = .returned (.bool true) ∧ Below w.heap.size w w' := by
  have hlen := turns_len b 1024 0 [] (fun x hx => by cases hx)
  obtain ⟨k1, hr⟩ := (rtake_ev b (by omega)).rounds
  obtain ⟨k2, hs⟩ := (same_ev (turns b 1024 0 []).1 (by simpa using hlen.1) hlen.2).rounds
  have C1 := ptake b w (by omega)
  generalize turns b 1024 0 [] = r at *
  obtain ⟨r1, r2⟩ := r
  have C2 := fun w' => broadsheetref45_Take.calls k1 b r1 r2 w' hr
  dsimp only at C1 hs
  clear hr hlen
  by_cases hg : (b.size : Int) > 8000
  · clear C1 C2 hb
    go_enter Try.func6, Try.ntmps6
    go_wp2_with fail
    refine (Scr.awake _).mono ?_
    rintro e w1 ⟨rfl, b1⟩
    go_wp2
    go_ret
    exact ⟨rfl, b1⟩
  · clear hb
    go_enter Try.func6, Try.ntmps6
    go_wp2_with fail
    refine C1.mono ?_
    rintro e w1 ⟨v1, rfl, s1, b1⟩
    go_wp2_with fail
    refine (C2 _).mono ?_
    rintro e w2 ⟨v2, rfl, s2, b2⟩
    obtain ⟨A1, c1, rfl, l1, h1⟩ := Kd.S_reads (Kd.S_below s1 b2)
    obtain ⟨A2, c2, rfl, l2, h2⟩ := Kd.S_reads s2
    have C3 := broadsheetref45_Same.calls k2 A1 c1 r1 A2 c2 r1 true w2 h1 l1 h2 l2 hs
    clear s1 s2 h1 h2
    go_wp2_with fail
    refine C3.mono ?_
    rintro e w3 ⟨rfl, d3⟩
    go_wp2_with fail
    refine (Scr.awake _).mono ?_
    rintro e w4 ⟨rfl, b4⟩
    go_wp2
    go_ret
    exact ⟨rfl, bstep (bstep (bstep b1 b2) d3.below) b4⟩
end Go.Proofs.Ytimalojaiaofkaa.PScriptTakes
namespace Go.Proofs.Ytimalojaiaofkaa.Scr
open Go.RowKit Base Sp Flat Go.Proofs.YtimalojaiaofkaaW.PrintWords Go.Proofs.YtimalojaiaofkaaW.PrintLast Go.Proofs.YtimalojaiaofkaaW.PrintMore Wd Go.Proofs.Ytimalojaiaofkaa.PScriptPuts
theorem w_up2 {k n : Nat} (h : k < n) (h2 : n ≤ 140737488355328) : wrap64 ((k : Int) + 1) = ((k + 1 : Nat) : Int) := by unfold wrap64; omega
set_option maxRecDepth 20000 in
set_option maxHeartbeats 4000000 in
theorem puts (A : Option Addr) (cap : Nat) (l : List S41) (w : World) (hS : Kd.C k41 w A l.length l) (hc : l.length ≤ cap) (hl : l.length ≤ 140737488355328) (hr : ∀ x ∈ l, x.f0.length ≤ 140737488355328 ∧ ∀ a ∈ x.f0, Rng a) :
    Calls Try.prog 5 #[.slice A l.length cap] w fun e w' => e = .returned (.bool true) ∧ Below w.heap.size w w' := by
  obtain ⟨m, hm⟩ := much_out l hl l.length 0 0 (Nat.zero_add _)
  obtain ⟨k0, hm⟩ := hm.rounds
  have HM := broadsheetlaw45_Much.calls k0 A cap l m w hS hc hm
  have HP := fun w' (h : Below w.heap.size w w') => put A cap l w' (Kd.C_below hS h) (fun x hx a ha => ⟨((hr x hx).2 a ha).1, ((hr x hx).2 a ha).2.1⟩)
  obtain ⟨k1, h1⟩ := (rp_ev l (fun x hx => (hr x hx).2)).rounds
  have HQ := fun w' (h : Below w.heap.size w w') => broadsheetref45_Put.calls k1 A cap l (sput l).1 (sput l).2 w' (Kd.C_below hS h) hc h1
  have HL := Lib.hid hl
  have HR := Lib.hid hr
  have HC := Lib.hid hc
  clear hl hr hm h1 hc k0 k1
  generalize sput l = r at *
  obtain ⟨r1, r2⟩ := r
  dsimp only at HP HQ
  cases m with
  | true =>
    go_enter Try.func5, Try.ntmps5
    go_wp2_with fail
    refine HM.mono ?_
    rintro e w2 ⟨rfl, b2⟩
    go_wp2_with fail
    refine (awake _).mono ?_
    rintro e w3 ⟨rfl, b3⟩
    go_wp2
    go_ret
    exact ⟨rfl, bstep b2 b3⟩
  | false =>
    go_enter Try.func5, Try.ntmps5
    go_wp2_with fail
    refine HM.mono ?_
    rintro e w2 ⟨rfl, b2⟩
    go_wp2_with fail
    refine (HP _ b2).mono ?_
    rintro e w3 ⟨rfl, b3⟩
    have bb3 := bstep b2 b3
    go_wp2_with fail
    refine (HQ _ bb3).mono ?_
    rintro e w4 ⟨rfl, b4⟩
    have bb4 := bstep bb3 b4
    clear b2 b3 b4 bb3 HM HP HQ
    go_wp2
    go_loopw [7] (fun i wr => ∃ k : Nat, i = .int .i64 (k : Int) ∧ k ≤ l.length ∧ Below w.heap.size w wr) (fun i _ => (l.length - (intOf i).toNat))
    case atStart => exact ⟨0, rfl, Nat.zero_le _, bb4⟩
    case round =>
      clear bb4
      obtain ⟨k, rfl, hkl, bb⟩ := hrel
      have k0 : (0 : Int) ≤ (k : Int) := by omega
      by_cases hlt : k < l.length
      · have k2 : (k : Int) < (l.length : Int) := by omega
        obtain ⟨ad, A0, c0, rfl, hcw, hlc, hA⟩ := at_T41 hS (k : Int) k0 k2
        rw [rd41 l k hlt] at hcw hlc hA
        rw [Int.toNat_natCast] at hcw
        have hcr := cbel bb hcw (World.block_lt_of_cell? w _ hcw)
        have hwk := w_up2 hlt HL.out
        have hxl := Lib.hid (HR.out _ (List.getElem_mem hlt)).1
        have hlt2 := Lib.hid hlt
        generalize l[k] = x at *
        obtain ⟨x⟩ := x
        dsimp only at hcw hcr hlc hA hxl
        have HLC := Lib.hid hlc
        clear hlc hlt hkl
        go_wp2
        go_loopw [8] (fun i wr => ∃ j : Nat, i = .int .i64 (j : Int) ∧ j ≤ x.length ∧ Below w.heap.size w wr) (fun i _ => (x.length - (intOf i).toNat))
        case atStart => exact ⟨0, rfl, Nat.zero_le _, bb⟩
        case round =>
          rename World => w5
          clear bb hcr
          obtain ⟨j, rfl, hjl, bb⟩ := hrel
          have j0 : (0 : Int) ≤ (j : Int) := by omega
          have hcr := cbel bb hcw (World.block_lt_of_cell? w _ hcw)
          by_cases hjt : j < x.length
          · have j2 : (j : Int) < (x.length : Int) := by omega
            obtain ⟨ad2, rfl, d0, d1, d2⟩ := at_T43 (Kd.C_below hA bb) (j : Int) j0 j2
            rw [rd43 x j hjt] at d0 d1 d2
            rw [Int.toNat_natCast] at d0 d1 d2
            have hwj := w_up2 hjt hxl.out
            have hjt2 := Lib.hid hjt
            generalize x[j] = a at *
            have HP1 := fun w' => plain a w'
            have HP2 := fun w' => rplain a w'
            generalize plv a = pa at *
            obtain ⟨a0, a1, a2⟩ := a
            obtain ⟨p0, p1, p2⟩ := pa
            dsimp only at d0 d1 d2 HP1 HP2
            have hbk := World.block_lt_of_cell? w5 _ hcr
            have hbk2 := World.block_lt_of_cell? w5 _ d0
            clear hjl hjt
            go_wp2_with fail
            refine Reg.wp_plan (S := fun w' => w'.cell? (ad.add k) = some (.slice (some ad2) x.length c0) ∧ w'.cell? (ad2.add (j * 3)) = some (.int .i64 a0) ∧ w'.cell? ⟨(ad2.add (j * 3)).block, (ad2.add (j * 3)).off + 1, none⟩ = some (.int .i64 a1) ∧ w'.cell? ⟨(ad2.add (j * 3)).block, (ad2.add (j * 3)).off + 2, none⟩ = some (.string a2)) 19 (.fl 0 (.fl 1 (.fl 2 (.fl 3 (.fl 4 (.fl 5 (.fl 6 (.fl 7 (.fl 9 (.fl 10 (.fl 11 (.fl 12 (.fl 13 (.fl 14 (.fl 15 (.fl 16 (.one 8 (.one 17 (.fl 18 .done))))))))))))))))))) (by kernel_rfl) (by kernel_rfl) (by kernel_rfl) (by kernel_rfl) (fun _ _ _ d _ h => by cases d <;> exact h) ?_ (fun hHeld => ?_)
            · exact ⟨by simpa using hcr, by simpa using d0, by simpa using d1, by simpa using d2⟩
            refine Reg.G_on (o := { dst := some 38, op := Op.move (Operand.tmp 0), type := 35, pos := "law.go:37", after := #[], guard := Option.none }) (v := ?_) (by rfl) ?_ (fun wS hSw => ?_) ?_
            rotate_left
            · kernel_rfl
            · (try dsimp only at hSw); go_simp; (try with_reducible rfl)
            try simp only [Act.put, List.setIfInBounds_toArray, List.set_cons_zero, List.set_cons_succ]
            refine Reg.G_on (o := { dst := some 39, op := Op.move (Operand.tmp 7), type := 3, pos := "law.go:37", after := #[], guard := Option.none }) (v := ?_) (by rfl) ?_ (fun wS hSw => ?_) ?_
            rotate_left
            · kernel_rfl
            · (try dsimp only at hSw); go_simp; (try with_reducible rfl)
            try simp only [Act.put, List.setIfInBounds_toArray, List.set_cons_zero, List.set_cons_succ]
            refine Reg.G_on (o := { dst := some 40, op := Op.indexAddr 35 (Operand.tmp 38) (Operand.tmp 39), type := 0, pos := "law.go:37", after := #[{ on := 0, ground := Ground.data }, { on := 1, ground := Ground.data }], guard := Option.none }) (v := ?_) (by rfl) ?_ (fun wS hSw => ?_) ?_
            rotate_left
            · kernel_rfl
            · (try dsimp only at hSw); go_simp; (try with_reducible rfl)
            try simp only [Act.put, List.setIfInBounds_toArray, List.set_cons_zero, List.set_cons_succ]
            refine Reg.G_on (o := { dst := some 41, op := Op.fieldAddr 41 (Operand.tmp 40) 0, type := 0, pos := "law.go:37", after := #[{ on := 2, ground := Ground.data }], guard := Option.none }) (v := ?_) (by rfl) ?_ (fun wS hSw => ?_) ?_
            rotate_left
            · kernel_rfl
            · (try dsimp only at hSw); go_simp; (try with_reducible rfl)
            try simp only [Act.put, List.setIfInBounds_toArray, List.set_cons_zero, List.set_cons_succ]
            refine Reg.G_on (o := { dst := some 42, op := Op.load 39 (Operand.tmp 41), type := 39, pos := "law.go:37", after := #[{ on := 3, ground := Ground.data }], guard := Option.none }) (v := ?_) (by rfl) ?_ (fun wS hSw => ?_) ?_
            rotate_left
            · kernel_rfl
            · (try dsimp only at hSw); go_simp; (try with_reducible rfl)
            try simp only [Act.put, List.setIfInBounds_toArray, List.set_cons_zero, List.set_cons_succ]
            refine Reg.G_on (o := { dst := some 43, op := Op.move (Operand.tmp 8), type := 3, pos := "law.go:37", after := #[], guard := Option.none }) (v := ?_) (by rfl) ?_ (fun wS hSw => ?_) ?_
            rotate_left
            · kernel_rfl
            · (try dsimp only at hSw); go_simp; (try with_reducible rfl)
            try simp only [Act.put, List.setIfInBounds_toArray, List.set_cons_zero, List.set_cons_succ]
            refine Reg.G_on (o := { dst := some 44, op := Op.indexAddr 39 (Operand.tmp 42) (Operand.tmp 43), type := 0, pos := "law.go:37", after := #[{ on := 4, ground := Ground.data }, { on := 5, ground := Ground.data }], guard := Option.none }) (v := ?_) (by rfl) ?_ (fun wS hSw => ?_) ?_
            rotate_left
            · kernel_rfl
            · (try dsimp only at hSw); go_simp; (try with_reducible rfl)
            try simp only [Act.put, List.setIfInBounds_toArray, List.set_cons_zero, List.set_cons_succ]
            refine Reg.G_on (o := { dst := some 45, op := Op.load 43 (Operand.tmp 44), type := 43, pos := "law.go:37", after := #[{ on := 6, ground := Ground.data }], guard := Option.none }) (v := ?_) (by rfl) ?_ (fun wS hSw => ?_) ?_
            rotate_left
            · kernel_rfl
            · (try dsimp only at hSw); go_simp; (try with_reducible rfl)
            try simp only [Act.put, List.setIfInBounds_toArray, List.set_cons_zero, List.set_cons_succ]
            refine Reg.G_on (o := { dst := some 47, op := Op.move (Operand.tmp 0), type := 35, pos := "law.go:37", after := #[], guard := Option.none }) (v := ?_) (by rfl) ?_ (fun wS hSw => ?_) ?_
            rotate_left
            · kernel_rfl
            · (try dsimp only at hSw); go_simp; (try with_reducible rfl)
            try simp only [Act.put, List.setIfInBounds_toArray, List.set_cons_zero, List.set_cons_succ]
            refine Reg.G_on (o := { dst := some 48, op := Op.move (Operand.tmp 7), type := 3, pos := "law.go:37", after := #[], guard := Option.none }) (v := ?_) (by rfl) ?_ (fun wS hSw => ?_) ?_
            rotate_left
            · kernel_rfl
            · (try dsimp only at hSw); go_simp; (try with_reducible rfl)
            try simp only [Act.put, List.setIfInBounds_toArray, List.set_cons_zero, List.set_cons_succ]
            refine Reg.G_on (o := { dst := some 49, op := Op.indexAddr 35 (Operand.tmp 47) (Operand.tmp 48), type := 0, pos := "law.go:37", after := #[{ on := 9, ground := Ground.data }, { on := 10, ground := Ground.data }], guard := Option.none }) (v := ?_) (by rfl) ?_ (fun wS hSw => ?_) ?_
            rotate_left
            · kernel_rfl
            · (try dsimp only at hSw); go_simp; (try with_reducible rfl)
            try simp only [Act.put, List.setIfInBounds_toArray, List.set_cons_zero, List.set_cons_succ]
            refine Reg.G_on (o := { dst := some 50, op := Op.fieldAddr 41 (Operand.tmp 49) 0, type := 0, pos := "law.go:37", after := #[{ on := 11, ground := Ground.data }], guard := Option.none }) (v := ?_) (by rfl) ?_ (fun wS hSw => ?_) ?_
            rotate_left
            · kernel_rfl
            · (try dsimp only at hSw); go_simp; (try with_reducible rfl)
            try simp only [Act.put, List.setIfInBounds_toArray, List.set_cons_zero, List.set_cons_succ]
            refine Reg.G_on (o := { dst := some 51, op := Op.load 39 (Operand.tmp 50), type := 39, pos := "law.go:37", after := #[{ on := 12, ground := Ground.data }], guard := Option.none }) (v := ?_) (by rfl) ?_ (fun wS hSw => ?_) ?_
            rotate_left
            · kernel_rfl
            · (try dsimp only at hSw); go_simp; (try with_reducible rfl)
            try simp only [Act.put, List.setIfInBounds_toArray, List.set_cons_zero, List.set_cons_succ]
            refine Reg.G_on (o := { dst := some 52, op := Op.move (Operand.tmp 8), type := 3, pos := "law.go:37", after := #[], guard := Option.none }) (v := ?_) (by rfl) ?_ (fun wS hSw => ?_) ?_
            rotate_left
            · kernel_rfl
            · (try dsimp only at hSw); go_simp; (try with_reducible rfl)
            try simp only [Act.put, List.setIfInBounds_toArray, List.set_cons_zero, List.set_cons_succ]
            refine Reg.G_on (o := { dst := some 53, op := Op.indexAddr 39 (Operand.tmp 51) (Operand.tmp 52), type := 0, pos := "law.go:37", after := #[{ on := 13, ground := Ground.data }, { on := 14, ground := Ground.data }], guard := Option.none }) (v := ?_) (by rfl) ?_ (fun wS hSw => ?_) ?_
            rotate_left
            · kernel_rfl
            · (try dsimp only at hSw); go_simp; (try with_reducible rfl)
            try simp only [Act.put, List.setIfInBounds_toArray, List.set_cons_zero, List.set_cons_succ]
            refine Reg.G_on (o := { dst := some 54, op := Op.load 43 (Operand.tmp 53), type := 43, pos := "law.go:37", after := #[{ on := 15, ground := Ground.data }], guard := Option.none }) (v := ?_) (by rfl) ?_ (fun wS hSw => ?_) ?_
            rotate_left
            · kernel_rfl
            · (try dsimp only at hSw); go_simp; (try with_reducible rfl)
            try simp only [Act.put, List.setIfInBounds_toArray, List.set_cons_zero, List.set_cons_succ]
            refine Reg.G_step (o := { dst := some 46, op := Op.call { callee := Callee.value (Operand.func 24), args := #[Operand.tmp 45], argTypes := #[43] }, type := 43, pos := "law.go:37", after := #[{ on := 7, ground := Ground.data }], guard := Option.none }) (by rfl) ?_ (fun K hK => ?_)
            · kernel_rfl
            go_simp
            refine (HP1 _).mono ?_
            rintro e w' ⟨rfl, hb1⟩
            refine hK.out _ _ ?_ (fun hHeld => ?_)
            · exact ⟨cbel hb1 hHeld.1 hbk, cbel hb1 hHeld.2.1 hbk2, cbel hb1 hHeld.2.2.1 hbk2, cbel hb1 hHeld.2.2.2 hbk2⟩
            clear hK K
            try simp only [Act.put, List.setIfInBounds_toArray, List.set_cons_zero, List.set_cons_succ]
            skip
            refine Reg.G_step (o := { dst := some 55, op := Op.call { callee := Callee.value (Operand.func 25), args := #[Operand.tmp 54], argTypes := #[43] }, type := 43, pos := "law.go:37", after := #[{ on := 16, ground := Ground.data }, { on := 8, ground := Ground.chain }], guard := Option.none }) (by rfl) ?_ (fun K hK => ?_)
            · kernel_rfl
            go_simp
            refine (HP2 _).mono ?_
            rintro e w' ⟨rfl, hb2⟩
            refine hK.out _ _ ?_ (fun hHeld => ?_)
            · exact ⟨cbel hb2 hHeld.1 (Nat.lt_of_lt_of_le hbk hb1.size), cbel hb2 hHeld.2.1 (Nat.lt_of_lt_of_le hbk2 hb1.size), cbel hb2 hHeld.2.2.1 (Nat.lt_of_lt_of_le hbk2 hb1.size), cbel hb2 hHeld.2.2.2 (Nat.lt_of_lt_of_le hbk2 hb1.size)⟩
            clear hK K
            try simp only [Act.put, List.setIfInBounds_toArray, List.set_cons_zero, List.set_cons_succ]
            refine Reg.G_on (o := { dst := some 56, op := Op.binOp BinOp.neq 43 (Operand.tmp 46) (Operand.tmp 55) 43, type := 4, pos := "law.go:37", after := #[{ on := 8, ground := Ground.data }, { on := 17, ground := Ground.data }], guard := Option.none }) (v := ?_) (by rfl) ?_ (fun wS hSw => ?_) ?_
            rotate_left
            · kernel_rfl
            · (try dsimp only at hSw); go_simp; (try with_reducible rfl)
            try simp only [Act.put, List.setIfInBounds_toArray, List.set_cons_zero, List.set_cons_succ]
            refine Reg.G_done ?_
            have bbz := bstep (bstep bb.drew hb1) hb2
            clear hb1 hb2 HP1 HP2 hHeld bb hcr d0 d1 d2 hbk hbk2
            go_wp2
            rw [hwj]
            exact ⟨⟨j + 1, rfl, hjt2.out, bbz⟩, meas x.length j hjt2.out⟩
          · have hj : j = x.length := by omega
            subst hj
            clear hjt hjl
            go_wp2
            rw [hwk]
            exact ⟨⟨k + 1, rfl, hlt2.out, bb⟩, meas l.length k hlt2.out⟩
      · have hk : k = l.length := by omega
        subst hk
        clear hlt hkl
        go_wp2_with fail
        refine (awake _).mono ?_
        rintro e w9 ⟨rfl, b9⟩
        go_wp2
        go_ret
        exact ⟨rfl, bstep bb b9⟩
end Go.Proofs.Ytimalojaiaofkaa.Scr
