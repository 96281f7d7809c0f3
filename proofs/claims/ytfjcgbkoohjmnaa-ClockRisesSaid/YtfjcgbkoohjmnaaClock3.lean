import Derived.Test.YtfjcgbkoohjmnaaClock2
import Derived.Test.YtfjcgbkoohjmnaaRegion
set_option linter.unusedVariables false
set_option linter.unusedSimpArgs false
namespace Go.Proofs.Ytfjcgbkoohjmnaa.Clock
open Go.RowKit Base

theorem rise_over (n q : Int) (h : n ≤ q) : over q n (q - n) = true := by
  unfold over age; split <;> simp <;> omega
theorem rise_not (n q : Int) (h : n ≤ q) : over q n (q - n + 1) = false := by
  unfold over age; split <;> simp <;> omega
theorem rise_age (n q : Int) (h : n ≤ q) : age q n = q - n := by
  unfold age; split <;> omega

theorem over_later (x y t : Int) (h : over x y t = true) : over (x + 1) y t = true := by
  unfold over age at *
  rw [decide_eq_true_eq] at *
  split at h <;> split <;> omega

theorem over_b (a b f : Int) (r : Bool) (w : World) (ha : a < 18446744073709551616) (hb : 0 ≤ b) (hf0 : -9223372036854775808 ≤ f) (hf1 : f < 9223372036854775808) (h : over a b f = r) :
    Calls Try.prog 27 #[.int .u64 a, .int .u64 b, .int .i64 f] w fun e w' => e = .returned (.bool r) ∧ w = w' := by
  rw [← h]
  exact over_u a b f w ha hb hf0 hf1

set_option maxHeartbeats 1000000 in
theorem rises (n t x y : Int) (w : World) (h0 : 0 ≤ n) (h1 : n < 18446744073709551616) (ht0 : -9223372036854775808 ≤ t) (ht : t < 9223372036854775808)
    (x0 : 0 ≤ x) (x1 : x < 18446744073709551616) (y0 : 0 ≤ y) (y1 : y < 18446744073709551616) :
    Calls Try.prog 9 #[.int .u64 n, .int .i64 t, .agg #[.int .u64 x, .int .u64 y]] w fun e w' => e = .returned (.bool true) ∧ Below w.heap.size w w' := by
  go_enter Try.func9, Try.ntmps9
  go_wp2_with fail
  refine (new _ _).mono ?_
  rintro e w' ⟨rfl, rfl⟩
  go_wp2
  go_loopw [8, 9] (fun m i wr => ∃ k q : Int, 0 ≤ k ∧ k ≤ 1000 ∧ n ≤ q ∧ q - n ≤ k ∧ q < 18446744073709551616 ∧ m = .int .u64 (q - n) ∧ i = .int .i64 k ∧
      wr.cell? ⟨w.heap.size, 0, Option.none⟩ = some (.int .u64 x) ∧ wr.cell? ⟨w.heap.size, 1, Option.none⟩ = some (.int .u64 y) ∧
      wr.cell? ⟨w.heap.size + 1, 0, Option.none⟩ = some (.int .u64 q) ∧ wr.frozen? ⟨w.heap.size + 1, 0, Option.none⟩ = false ∧ Below w.heap.size w wr ∧ w.heap.size + 1 < wr.heap.size) (fun _ i _ => (1000 - intOf i).toNat)
  case atStart => exact ⟨0, n, by omega, by omega, by omega, by omega, h1, by simp, rfl, by simp, by simp, by simp, by simp, ((Below.refl _ _).alloc (Nat.le_refl _) _).alloc (by simp) _, by simp⟩
  case round =>
    obtain ⟨k, q, k0, k1, q0, q1, q2, rfl, rfl, hx, hy, hc, hf, hb, hs⟩ := hrel
    by_cases hlt : k < t ∧ k < 1000
    · obtain ⟨hl1, hl2⟩ := hlt
      by_cases hq : last q = true
      · have hq3 : (q != 18446744073709551615) = false := by rw [(last_iff q).1 hq]; rfl
        go_wp2_with fail
        refine (now q _ _ hc).mono ?_
        rintro e w' ⟨rfl, rfl⟩
        go_wp2_with fail
        refine (next_end q _ _ hc hq).mono ?_
        rintro e w' ⟨rfl, rfl⟩
        go_wp2_with fail
        refine (now q _ _ hc).mono ?_
        rintro e w' ⟨rfl, rfl⟩
        go_wp2
        go_roundw
        case rel => exact ⟨k + 1, q, by omega, by omega, by omega, by omega, q2, rfl, by go_num, hx, hy, hc, hf, hb, hs⟩
        case measure => simp [intOf]; omega
      · have hq' : last q = false := by simpa using hq
        have hne := (last_false q).1 hq'
        have hw : IntKind.u64.wrap (q - n + 1) = q - n + 1 := wrapu64 (by omega) (by omega)
        clear hq
        go_wp2_with fail
        refine (now q _ _ hc).mono ?_
        rintro e w' ⟨rfl, rfl⟩
        go_wp2_with fail
        refine (next_ok q _ _ (by omega) q2 hc hf hq').mono ?_
        rintro e w' ⟨rfl, rfl⟩
        go_wp2_with fail
        refine (now (q + 1) _ _ (World.cell?_setCell_same _ _ _ hc)).mono ?_
        rintro e w' ⟨rfl, rfl⟩
        go_wp2
        go_roundw
        case rel => exact ⟨k + 1, q + 1, by omega, by omega, by omega, by omega, by omega, by go_num, by go_num, cfar hx (by simp), cfar hy (by simp), csame hc, by simpa using hf, hb.setCell (by simp) _, by simpa using hs⟩
        case measure => simp [intOf]; omega
    · have e1 : IntKind.u64.wrap (q - n) = q - n := wrapu64 (by omega) (by omega)
      have e2 : IntKind.i64.wrap (q - n) = q - n := wrapi64 (by omega) (by omega)
      have e3 : IntKind.i64.wrap (q - n + 1) = q - n + 1 := wrapi64 (by omega) (by omega)
      have r1 := rise_age n q q0
      have r2 := rise_over n q q0
      have r3 := rise_not n q q0
      have hstop : Hid (¬ (k < t ∧ k < 1000)) := hlt
      clear hlt
      have hyw : ∀ o : Obj, (wr.alloc o).cell? ⟨w.heap.size, 1, Option.none⟩ = some (.int .u64 y) := fun o => cnew hy
      have stop2 : (k < t ∧ 1000 ≤ k) ∨ t ≤ k := by have := hstop.out; omega
      rcases stop2 with ⟨hkt, hk2⟩ | hkt
      all_goals
        go_wp2_with fail
        refine (now q _ _ hc).mono ?_
        rintro e w' ⟨rfl, rfl⟩
        go_wp2_with fail
        refine (now q _ _ hc).mono ?_
        rintro e w' ⟨rfl, rfl⟩
        go_wp2_with fail
        refine (age_u q n _ q2 h0).mono ?_
        rintro e w' ⟨rfl, rfl⟩
        go_wp2_with fail
        refine (now q _ _ hc).mono ?_
        rintro e w' ⟨rfl, rfl⟩
        go_wp2_with fail
        refine (over_u q n (q - n) _ q2 h0 (by omega) (by omega)).mono ?_
        rintro e w' ⟨rfl, rfl⟩
        go_wp2_with fail
        refine (now q _ _ hc).mono ?_
        rintro e w' ⟨rfl, rfl⟩
        go_wp2_with fail
        refine (over_u q n (q - n + 1) _ q2 h0 (by omega) (by omega)).mono ?_
        rintro e w' ⟨rfl, rfl⟩
        go_wp2_with fail
        refine (new _ _).mono ?_
        rintro e w' ⟨rfl, rfl⟩
        go_wp2_with fail
        by_cases ho : over x y t = true
        · by_cases hl : last x = true
          · refine Reg.wp_plan (S := fun w' => w'.cell? ⟨w.heap.size, 1, Option.none⟩ = some (.int .u64 y)) [(0, true), (2, true), (3, true), (4, true), (1, false), (5, false), (6, true), (7, true), (8, true), (9, false), (10, true), (11, true), (12, true), (13, true), (15, true), (16, true), (17, true), (14, false), (18, false), (19, true), (20, true), (21, false), (22, true), (23, true)] (by kernel_rfl) (by kernel_rfl) (by kernel_rfl) (by kernel_rfl) (fun _ _ _ d _ h => by cases d <;> exact h) ?_ (fun hHeld => ?_)
            · exact hyw _
            refine Reg.G_on (o := { dst := some 77, op := Op.move (Operand.tmp 11), type := 23, pos := "law.go:54", after := #[], guard := Option.none }) (v := ?_) (by rfl) ?_ (fun wS hSw => ?_) ?_
            rotate_left
            · kernel_rfl
            · (try dsimp only at hSw); go_simp; (try with_reducible rfl)
            try simp only [Act.put, List.setIfInBounds_toArray, List.set_cons_zero, List.set_cons_succ]
            refine Reg.G_on (o := { dst := some 79, op := Op.indexAddr 45 (Operand.tmp 5) (Operand.const (Value.int IntKind.i64 1)), type := 0, pos := "law.go:54", after := #[], guard := Option.none }) (v := ?_) (by rfl) ?_ (fun wS hSw => ?_) ?_
            rotate_left
            · kernel_rfl
            · (try dsimp only at hSw); go_simp; (try with_reducible rfl)
            try simp only [Act.put, List.setIfInBounds_toArray, List.set_cons_zero, List.set_cons_succ]
            refine Reg.G_on (o := { dst := some 80, op := Op.load 22 (Operand.tmp 79), type := 22, pos := "law.go:54", after := #[{ on := 2, ground := Ground.data }], guard := Option.none }) (v := ?_) (by rfl) ?_ (fun wS hSw => ?_) ?_
            rotate_left
            · kernel_rfl
            · (try dsimp only at hSw); go_simp; (try with_reducible rfl)
            try simp only [Act.put, List.setIfInBounds_toArray, List.set_cons_zero, List.set_cons_succ]
            refine Reg.G_on (o := { dst := some 81, op := Op.move (Operand.tmp 1), type := 3, pos := "law.go:54", after := #[], guard := Option.none }) (v := ?_) (by rfl) ?_ (fun wS hSw => ?_) ?_
            rotate_left
            · kernel_rfl
            · (try dsimp only at hSw); go_simp; (try with_reducible rfl)
            try simp only [Act.put, List.setIfInBounds_toArray, List.set_cons_zero, List.set_cons_succ]
            refine Reg.G_step (o := { dst := some 78, op := Op.call { callee := Callee.value (Operand.func 19), args := #[Operand.tmp 77], argTypes := #[23] }, type := 22, pos := "law.go:54", after := #[{ on := 0, ground := Ground.data }], guard := Option.none }) (by rfl) ?_ (fun K hK => ?_)
            · kernel_rfl
            go_simp
            refine (now x _ _ (by go_simp)).mono ?_
            rintro e w' ⟨rfl, rfl⟩
            refine hK.out _ _ ?_ (fun hHeld => ?_)
            · exact hyw _
            clear hK K
            try simp only [Act.put, List.setIfInBounds_toArray, List.set_cons_zero, List.set_cons_succ]
            skip
            refine Reg.G_step (o := { dst := some 82, op := Op.call { callee := Callee.value (Operand.func 27), args := #[Operand.tmp 78, Operand.tmp 80, Operand.tmp 81], argTypes := #[22, 22, 3] }, type := 4, pos := "law.go:54", after := #[{ on := 1, ground := Ground.data }, { on := 3, ground := Ground.data }, { on := 4, ground := Ground.data }, { on := 1, ground := Ground.chain }], guard := Option.none }) (by rfl) ?_ (fun K hK => ?_)
            · kernel_rfl
            go_simp
            refine (over_b x y t true _ x1 y0 ht0 ht ho).mono ?_
            rintro e w' ⟨rfl, rfl⟩
            refine hK.out _ _ ?_ (fun hHeld => ?_)
            · exact hyw _
            clear hK K
            try simp only [Act.put, List.setIfInBounds_toArray, List.set_cons_zero, List.set_cons_succ]
            refine Reg.G_on (o := { dst := some 83, op := Op.unOp UnOp.not 4 (Operand.tmp 82), type := 4, pos := "law.go:54", after := #[{ on := 5, ground := Ground.data }], guard := Option.none }) (v := ?_) (by rfl) ?_ (fun wS hSw => ?_) ?_
            rotate_left
            · kernel_rfl
            · (try dsimp only at hSw); go_simp; (try with_reducible rfl)
            try simp only [Act.put, List.setIfInBounds_toArray, List.set_cons_zero, List.set_cons_succ]
            refine Reg.G_on (o := { dst := some 84, op := Op.move (Operand.tmp 83), type := 4, pos := "law.go:54", after := #[{ on := 6, ground := Ground.data }, { on := 5, ground := Ground.chain }], guard := Option.none }) (v := ?_) (by rfl) ?_ (fun wS hSw => ?_) ?_
            rotate_left
            · kernel_rfl
            · (try dsimp only at hSw); go_simp; (try with_reducible rfl)
            try simp only [Act.put, List.setIfInBounds_toArray, List.set_cons_zero, List.set_cons_succ]
            refine Reg.G_on (o := { dst := some 85, op := Op.move (Operand.tmp 11), type := 23, pos := "law.go:54", after := #[{ on := 7, ground := Ground.guard }], guard := some (7, false) }) (v := ?_) (by rfl) ?_ (fun wS hSw => ?_) ?_
            rotate_left
            · kernel_rfl
            · (try dsimp only at hSw); go_simp; (try with_reducible rfl)
            try simp only [Act.put, List.setIfInBounds_toArray, List.set_cons_zero, List.set_cons_succ]
            refine Reg.G_step (o := { dst := some 86, op := Op.call { callee := Callee.value (Operand.func 18), args := #[Operand.tmp 85], argTypes := #[23] }, type := 25, pos := "law.go:54", after := #[{ on := 8, ground := Ground.data }, { on := 7, ground := Ground.chain }, { on := 7, ground := Ground.guard }], guard := some (7, false) }) (by rfl) ?_ (fun K hK => ?_)
            · kernel_rfl
            go_simp
            refine (next_end x _ _ (by go_simp) hl).mono ?_
            rintro e w' ⟨rfl, rfl⟩
            refine hK.out _ _ ?_ (fun hHeld => ?_)
            · exact hyw _
            clear hK K
            try simp only [Act.put, List.setIfInBounds_toArray, List.set_cons_zero, List.set_cons_succ]
            refine Reg.G_on (o := { dst := some 87, op := Op.binOp BinOp.eql 25 (Operand.tmp 86) (Operand.const (Value.int IntKind.i64 22)) 25, type := 4, pos := "law.go:54", after := #[{ on := 9, ground := Ground.data }, { on := 7, ground := Ground.guard }], guard := some (7, false) }) (v := ?_) (by rfl) ?_ (fun wS hSw => ?_) ?_
            rotate_left
            · kernel_rfl
            · (try dsimp only at hSw); go_simp; (try with_reducible rfl)
            try simp only [Act.put, List.setIfInBounds_toArray, List.set_cons_zero, List.set_cons_succ]
            refine Reg.G_on (o := { dst := some 88, op := Op.pick (Operand.tmp 84) (Operand.const (Value.bool true)) (Operand.tmp 87), type := 4, pos := "law.go:54", after := #[{ on := 7, ground := Ground.data }, { on := 10, ground := Ground.data }], guard := Option.none }) (v := ?_) (by rfl) ?_ (fun wS hSw => ?_) ?_
            rotate_left
            · kernel_rfl
            · (try dsimp only at hSw); go_simp; (try with_reducible rfl)
            try simp only [Act.put, List.setIfInBounds_toArray, List.set_cons_zero, List.set_cons_succ]
            refine Reg.G_on (o := { dst := some 89, op := Op.move (Operand.tmp 88), type := 4, pos := "law.go:54", after := #[{ on := 11, ground := Ground.data }, { on := 9, ground := Ground.chain }], guard := Option.none }) (v := ?_) (by rfl) ?_ (fun wS hSw => ?_) ?_
            rotate_left
            · kernel_rfl
            · (try dsimp only at hSw); go_simp; (try with_reducible rfl)
            try simp only [Act.put, List.setIfInBounds_toArray, List.set_cons_zero, List.set_cons_succ]
            refine Reg.G_off (o := { dst := some 90, op := Op.move (Operand.tmp 11), type := 23, pos := "law.go:54", after := #[{ on := 12, ground := Ground.guard }], guard := some (12, false) }) (by rfl) ?_ ?_
            · kernel_rfl
            try simp only [Act.put, List.setIfInBounds_toArray, List.set_cons_zero, List.set_cons_succ]
            refine Reg.G_off (o := { dst := some 92, op := Op.indexAddr 45 (Operand.tmp 5) (Operand.const (Value.int IntKind.i64 1)), type := 0, pos := "law.go:54", after := #[{ on := 12, ground := Ground.guard }], guard := some (12, false) }) (by rfl) ?_ ?_
            · kernel_rfl
            try simp only [Act.put, List.setIfInBounds_toArray, List.set_cons_zero, List.set_cons_succ]
            refine Reg.G_off (o := { dst := some 93, op := Op.load 22 (Operand.tmp 92), type := 22, pos := "law.go:54", after := #[{ on := 15, ground := Ground.data }, { on := 12, ground := Ground.guard }], guard := some (12, false) }) (by rfl) ?_ ?_
            · kernel_rfl
            try simp only [Act.put, List.setIfInBounds_toArray, List.set_cons_zero, List.set_cons_succ]
            refine Reg.G_off (o := { dst := some 94, op := Op.move (Operand.tmp 1), type := 3, pos := "law.go:54", after := #[{ on := 12, ground := Ground.guard }], guard := some (12, false) }) (by rfl) ?_ ?_
            · kernel_rfl
            try simp only [Act.put, List.setIfInBounds_toArray, List.set_cons_zero, List.set_cons_succ]
            refine Reg.G_skip (o := { dst := some 91, op := Op.call { callee := Callee.value (Operand.func 19), args := #[Operand.tmp 90], argTypes := #[23] }, type := 22, pos := "law.go:54", after := #[{ on := 13, ground := Ground.data }, { on := 12, ground := Ground.chain }, { on := 12, ground := Ground.guard }], guard := some (12, false) }) (by rfl) ?_ (by assumption) ?_
            · kernel_rfl
            try simp only [Act.put, List.setIfInBounds_toArray, List.set_cons_zero, List.set_cons_succ]
            refine Reg.G_skip (o := { dst := some 95, op := Op.call { callee := Callee.value (Operand.func 27), args := #[Operand.tmp 91, Operand.tmp 93, Operand.tmp 94], argTypes := #[22, 22, 3] }, type := 4, pos := "law.go:54", after := #[{ on := 14, ground := Ground.data }, { on := 16, ground := Ground.data }, { on := 17, ground := Ground.data }, { on := 14, ground := Ground.chain }, { on := 12, ground := Ground.guard }], guard := some (12, false) }) (by rfl) ?_ (by assumption) ?_
            · kernel_rfl
            try simp only [Act.put, List.setIfInBounds_toArray, List.set_cons_zero, List.set_cons_succ]
            refine Reg.G_on (o := { dst := some 96, op := Op.pick (Operand.tmp 89) (Operand.const (Value.bool true)) (Operand.tmp 95), type := 4, pos := "law.go:54", after := #[{ on := 12, ground := Ground.data }, { on := 18, ground := Ground.data }], guard := Option.none }) (v := ?_) (by rfl) ?_ (fun wS hSw => ?_) ?_
            rotate_left
            · kernel_rfl
            · (try dsimp only at hSw); go_simp; (try with_reducible rfl)
            try simp only [Act.put, List.setIfInBounds_toArray, List.set_cons_zero, List.set_cons_succ]
            refine Reg.G_on (o := { dst := some 97, op := Op.move (Operand.tmp 96), type := 4, pos := "law.go:54", after := #[{ on := 19, ground := Ground.data }, { on := 18, ground := Ground.chain }], guard := Option.none }) (v := ?_) (by rfl) ?_ (fun wS hSw => ?_) ?_
            rotate_left
            · kernel_rfl
            · (try dsimp only at hSw); go_simp; (try with_reducible rfl)
            try simp only [Act.put, List.setIfInBounds_toArray, List.set_cons_zero, List.set_cons_succ]
            refine Reg.G_step (o := { dst := some 98, op := Op.call { callee := Callee.value (Operand.func 20), args := #[], argTypes := #[] }, type := 4, pos := "law.go:54", after := #[{ on := 20, ground := Ground.chain }, { on := 20, ground := Ground.guard }], guard := some (20, true) }) (by rfl) ?_ (fun K hK => ?_)
            · kernel_rfl
            go_simp
            refine (awake _).mono ?_
            rintro e w' ⟨rfl, hb2⟩
            refine hK.out _ _ ?_ (fun hHeld => ?_)
            · exact cbel hb2 (hyw _) (by simp; omega)
            clear hK K
            try simp only [Act.put, List.setIfInBounds_toArray, List.set_cons_zero, List.set_cons_succ]
            refine Reg.G_on (o := { dst := some 99, op := Op.pick (Operand.tmp 97) (Operand.tmp 98) (Operand.const (Value.bool false)), type := 4, pos := "law.go:54", after := #[{ on := 20, ground := Ground.data }, { on := 21, ground := Ground.data }], guard := Option.none }) (v := ?_) (by rfl) ?_ (fun wS hSw => ?_) ?_
            rotate_left
            · kernel_rfl
            · (try dsimp only at hSw); go_simp; (try with_reducible rfl)
            try simp only [Act.put, List.setIfInBounds_toArray, List.set_cons_zero, List.set_cons_succ]
            refine Reg.G_on (o := { dst := some 6, op := Op.assign (Operand.tmp 99), type := 4, pos := "law.go:54", after := #[{ on := 22, ground := Ground.data }, { on := 21, ground := Ground.chain }, { on := 0, ground := Ground.phase }, { on := 1, ground := Ground.phase }, { on := 2, ground := Ground.phase }, { on := 3, ground := Ground.phase }, { on := 4, ground := Ground.phase }, { on := 5, ground := Ground.phase }, { on := 6, ground := Ground.phase }, { on := 7, ground := Ground.phase }, { on := 8, ground := Ground.phase }, { on := 9, ground := Ground.phase }, { on := 10, ground := Ground.phase }, { on := 11, ground := Ground.phase }, { on := 12, ground := Ground.phase }, { on := 13, ground := Ground.phase }, { on := 14, ground := Ground.phase }, { on := 15, ground := Ground.phase }, { on := 16, ground := Ground.phase }, { on := 17, ground := Ground.phase }, { on := 18, ground := Ground.phase }, { on := 19, ground := Ground.phase }, { on := 20, ground := Ground.phase }, { on := 21, ground := Ground.phase }, { on := 22, ground := Ground.phase }], guard := Option.none }) (v := ?_) (by rfl) ?_ (fun wS hSw => ?_) ?_
            rotate_left
            · kernel_rfl
            · (try dsimp only at hSw); go_simp; (try with_reducible rfl)
            try simp only [Act.put, List.setIfInBounds_toArray, List.set_cons_zero, List.set_cons_succ]
            refine Reg.G_done ?_
            go_wp2
            go_ret
            exact ⟨rfl, ((hb.alloc (by omega) _).drew).trans (hb2.mono (by simp; omega))⟩
          · have hl' : last x = false := by simpa using hl
            have hxn := (last_false x).1 hl'
            have ho2 : over (x + 1) y t = true := over_later x y t ho
            clear hl
            refine Reg.wp_plan (S := fun w' => w'.cell? ⟨w.heap.size, 1, Option.none⟩ = some (.int .u64 y)) [(0, true), (2, true), (3, true), (4, true), (1, false), (5, false), (6, true), (7, true), (8, true), (9, false), (10, true), (11, true), (12, true), (13, true), (15, true), (16, true), (17, true), (14, false), (18, false), (19, true), (20, true), (21, false), (22, true), (23, true)] (by kernel_rfl) (by kernel_rfl) (by kernel_rfl) (by kernel_rfl) (fun _ _ _ d _ h => by cases d <;> exact h) ?_ (fun hHeld => ?_)
            · exact hyw _
            refine Reg.G_on (o := { dst := some 77, op := Op.move (Operand.tmp 11), type := 23, pos := "law.go:54", after := #[], guard := Option.none }) (v := ?_) (by rfl) ?_ (fun wS hSw => ?_) ?_
            rotate_left
            · kernel_rfl
            · (try dsimp only at hSw); go_simp; (try with_reducible rfl)
            try simp only [Act.put, List.setIfInBounds_toArray, List.set_cons_zero, List.set_cons_succ]
            refine Reg.G_on (o := { dst := some 79, op := Op.indexAddr 45 (Operand.tmp 5) (Operand.const (Value.int IntKind.i64 1)), type := 0, pos := "law.go:54", after := #[], guard := Option.none }) (v := ?_) (by rfl) ?_ (fun wS hSw => ?_) ?_
            rotate_left
            · kernel_rfl
            · (try dsimp only at hSw); go_simp; (try with_reducible rfl)
            try simp only [Act.put, List.setIfInBounds_toArray, List.set_cons_zero, List.set_cons_succ]
            refine Reg.G_on (o := { dst := some 80, op := Op.load 22 (Operand.tmp 79), type := 22, pos := "law.go:54", after := #[{ on := 2, ground := Ground.data }], guard := Option.none }) (v := ?_) (by rfl) ?_ (fun wS hSw => ?_) ?_
            rotate_left
            · kernel_rfl
            · (try dsimp only at hSw); go_simp; (try with_reducible rfl)
            try simp only [Act.put, List.setIfInBounds_toArray, List.set_cons_zero, List.set_cons_succ]
            refine Reg.G_on (o := { dst := some 81, op := Op.move (Operand.tmp 1), type := 3, pos := "law.go:54", after := #[], guard := Option.none }) (v := ?_) (by rfl) ?_ (fun wS hSw => ?_) ?_
            rotate_left
            · kernel_rfl
            · (try dsimp only at hSw); go_simp; (try with_reducible rfl)
            try simp only [Act.put, List.setIfInBounds_toArray, List.set_cons_zero, List.set_cons_succ]
            refine Reg.G_step (o := { dst := some 78, op := Op.call { callee := Callee.value (Operand.func 19), args := #[Operand.tmp 77], argTypes := #[23] }, type := 22, pos := "law.go:54", after := #[{ on := 0, ground := Ground.data }], guard := Option.none }) (by rfl) ?_ (fun K hK => ?_)
            · kernel_rfl
            go_simp
            refine (now x _ _ (by go_simp)).mono ?_
            rintro e w' ⟨rfl, rfl⟩
            refine hK.out _ _ ?_ (fun hHeld => ?_)
            · exact hyw _
            clear hK K
            try simp only [Act.put, List.setIfInBounds_toArray, List.set_cons_zero, List.set_cons_succ]
            skip
            refine Reg.G_step (o := { dst := some 82, op := Op.call { callee := Callee.value (Operand.func 27), args := #[Operand.tmp 78, Operand.tmp 80, Operand.tmp 81], argTypes := #[22, 22, 3] }, type := 4, pos := "law.go:54", after := #[{ on := 1, ground := Ground.data }, { on := 3, ground := Ground.data }, { on := 4, ground := Ground.data }, { on := 1, ground := Ground.chain }], guard := Option.none }) (by rfl) ?_ (fun K hK => ?_)
            · kernel_rfl
            go_simp
            refine (over_b x y t true _ x1 y0 ht0 ht ho).mono ?_
            rintro e w' ⟨rfl, rfl⟩
            refine hK.out _ _ ?_ (fun hHeld => ?_)
            · exact hyw _
            clear hK K
            try simp only [Act.put, List.setIfInBounds_toArray, List.set_cons_zero, List.set_cons_succ]
            refine Reg.G_on (o := { dst := some 83, op := Op.unOp UnOp.not 4 (Operand.tmp 82), type := 4, pos := "law.go:54", after := #[{ on := 5, ground := Ground.data }], guard := Option.none }) (v := ?_) (by rfl) ?_ (fun wS hSw => ?_) ?_
            rotate_left
            · kernel_rfl
            · (try dsimp only at hSw); go_simp; (try with_reducible rfl)
            try simp only [Act.put, List.setIfInBounds_toArray, List.set_cons_zero, List.set_cons_succ]
            refine Reg.G_on (o := { dst := some 84, op := Op.move (Operand.tmp 83), type := 4, pos := "law.go:54", after := #[{ on := 6, ground := Ground.data }, { on := 5, ground := Ground.chain }], guard := Option.none }) (v := ?_) (by rfl) ?_ (fun wS hSw => ?_) ?_
            rotate_left
            · kernel_rfl
            · (try dsimp only at hSw); go_simp; (try with_reducible rfl)
            try simp only [Act.put, List.setIfInBounds_toArray, List.set_cons_zero, List.set_cons_succ]
            refine Reg.G_on (o := { dst := some 85, op := Op.move (Operand.tmp 11), type := 23, pos := "law.go:54", after := #[{ on := 7, ground := Ground.guard }], guard := some (7, false) }) (v := ?_) (by rfl) ?_ (fun wS hSw => ?_) ?_
            rotate_left
            · kernel_rfl
            · (try dsimp only at hSw); go_simp; (try with_reducible rfl)
            try simp only [Act.put, List.setIfInBounds_toArray, List.set_cons_zero, List.set_cons_succ]
            refine Reg.G_step (o := { dst := some 86, op := Op.call { callee := Callee.value (Operand.func 18), args := #[Operand.tmp 85], argTypes := #[23] }, type := 25, pos := "law.go:54", after := #[{ on := 8, ground := Ground.data }, { on := 7, ground := Ground.chain }, { on := 7, ground := Ground.guard }], guard := some (7, false) }) (by rfl) ?_ (fun K hK => ?_)
            · kernel_rfl
            go_simp
            refine (next_ok x _ _ x0 x1 (by go_simp) (by go_simp) hl').mono ?_
            rintro e w' ⟨rfl, rfl⟩
            refine hK.out _ _ ?_ (fun hHeld => ?_)
            · exact cfar (hyw _) (by simp; omega)
            clear hK K
            try simp only [Act.put, List.setIfInBounds_toArray, List.set_cons_zero, List.set_cons_succ]
            refine Reg.G_on (o := { dst := some 87, op := Op.binOp BinOp.eql 25 (Operand.tmp 86) (Operand.const (Value.int IntKind.i64 22)) 25, type := 4, pos := "law.go:54", after := #[{ on := 9, ground := Ground.data }, { on := 7, ground := Ground.guard }], guard := some (7, false) }) (v := ?_) (by rfl) ?_ (fun wS hSw => ?_) ?_
            rotate_left
            · kernel_rfl
            · (try dsimp only at hSw); go_simp; (try with_reducible rfl)
            try simp only [Act.put, List.setIfInBounds_toArray, List.set_cons_zero, List.set_cons_succ]
            refine Reg.G_on (o := { dst := some 88, op := Op.pick (Operand.tmp 84) (Operand.const (Value.bool true)) (Operand.tmp 87), type := 4, pos := "law.go:54", after := #[{ on := 7, ground := Ground.data }, { on := 10, ground := Ground.data }], guard := Option.none }) (v := ?_) (by rfl) ?_ (fun wS hSw => ?_) ?_
            rotate_left
            · kernel_rfl
            · (try dsimp only at hSw); go_simp; (try with_reducible rfl)
            try simp only [Act.put, List.setIfInBounds_toArray, List.set_cons_zero, List.set_cons_succ]
            refine Reg.G_on (o := { dst := some 89, op := Op.move (Operand.tmp 88), type := 4, pos := "law.go:54", after := #[{ on := 11, ground := Ground.data }, { on := 9, ground := Ground.chain }], guard := Option.none }) (v := ?_) (by rfl) ?_ (fun wS hSw => ?_) ?_
            rotate_left
            · kernel_rfl
            · (try dsimp only at hSw); go_simp; (try with_reducible rfl)
            try simp only [Act.put, List.setIfInBounds_toArray, List.set_cons_zero, List.set_cons_succ]
            refine Reg.G_on (o := { dst := some 90, op := Op.move (Operand.tmp 11), type := 23, pos := "law.go:54", after := #[{ on := 12, ground := Ground.guard }], guard := some (12, false) }) (v := ?_) (by rfl) ?_ (fun wS hSw => ?_) ?_
            rotate_left
            · kernel_rfl
            · (try dsimp only at hSw); go_simp; (try with_reducible rfl)
            try simp only [Act.put, List.setIfInBounds_toArray, List.set_cons_zero, List.set_cons_succ]
            refine Reg.G_on (o := { dst := some 92, op := Op.indexAddr 45 (Operand.tmp 5) (Operand.const (Value.int IntKind.i64 1)), type := 0, pos := "law.go:54", after := #[{ on := 12, ground := Ground.guard }], guard := some (12, false) }) (v := ?_) (by rfl) ?_ (fun wS hSw => ?_) ?_
            rotate_left
            · kernel_rfl
            · (try dsimp only at hSw); go_simp; (try with_reducible rfl)
            try simp only [Act.put, List.setIfInBounds_toArray, List.set_cons_zero, List.set_cons_succ]
            refine Reg.G_on (o := { dst := some 93, op := Op.load 22 (Operand.tmp 92), type := 22, pos := "law.go:54", after := #[{ on := 15, ground := Ground.data }, { on := 12, ground := Ground.guard }], guard := some (12, false) }) (v := ?_) (by rfl) ?_ (fun wS hSw => ?_) ?_
            rotate_left
            · kernel_rfl
            · (try dsimp only at hSw); go_simp; (try with_reducible rfl)
            try simp only [Act.put, List.setIfInBounds_toArray, List.set_cons_zero, List.set_cons_succ]
            refine Reg.G_on (o := { dst := some 94, op := Op.move (Operand.tmp 1), type := 3, pos := "law.go:54", after := #[{ on := 12, ground := Ground.guard }], guard := some (12, false) }) (v := ?_) (by rfl) ?_ (fun wS hSw => ?_) ?_
            rotate_left
            · kernel_rfl
            · (try dsimp only at hSw); go_simp; (try with_reducible rfl)
            try simp only [Act.put, List.setIfInBounds_toArray, List.set_cons_zero, List.set_cons_succ]
            refine Reg.G_step (o := { dst := some 91, op := Op.call { callee := Callee.value (Operand.func 19), args := #[Operand.tmp 90], argTypes := #[23] }, type := 22, pos := "law.go:54", after := #[{ on := 13, ground := Ground.data }, { on := 12, ground := Ground.chain }, { on := 12, ground := Ground.guard }], guard := some (12, false) }) (by rfl) ?_ (fun K hK => ?_)
            · kernel_rfl
            go_simp
            refine (now (x + 1) _ _ (by go_simp)).mono ?_
            rintro e w' ⟨rfl, rfl⟩
            refine hK.out _ _ ?_ (fun hHeld => ?_)
            · exact hyw _
            clear hK K
            try simp only [Act.put, List.setIfInBounds_toArray, List.set_cons_zero, List.set_cons_succ]
            skip
            refine Reg.G_step (o := { dst := some 95, op := Op.call { callee := Callee.value (Operand.func 27), args := #[Operand.tmp 91, Operand.tmp 93, Operand.tmp 94], argTypes := #[22, 22, 3] }, type := 4, pos := "law.go:54", after := #[{ on := 14, ground := Ground.data }, { on := 16, ground := Ground.data }, { on := 17, ground := Ground.data }, { on := 14, ground := Ground.chain }, { on := 12, ground := Ground.guard }], guard := some (12, false) }) (by rfl) ?_ (fun K hK => ?_)
            · kernel_rfl
            go_simp
            refine (over_b (x + 1) y t true _ (by omega) y0 ht0 ht ho2).mono ?_
            rintro e w' ⟨rfl, rfl⟩
            refine hK.out _ _ ?_ (fun hHeld => ?_)
            · exact hyw _
            clear hK K
            try simp only [Act.put, List.setIfInBounds_toArray, List.set_cons_zero, List.set_cons_succ]
            refine Reg.G_on (o := { dst := some 96, op := Op.pick (Operand.tmp 89) (Operand.const (Value.bool true)) (Operand.tmp 95), type := 4, pos := "law.go:54", after := #[{ on := 12, ground := Ground.data }, { on := 18, ground := Ground.data }], guard := Option.none }) (v := ?_) (by rfl) ?_ (fun wS hSw => ?_) ?_
            rotate_left
            · kernel_rfl
            · (try dsimp only at hSw); go_simp; (try with_reducible rfl)
            try simp only [Act.put, List.setIfInBounds_toArray, List.set_cons_zero, List.set_cons_succ]
            refine Reg.G_on (o := { dst := some 97, op := Op.move (Operand.tmp 96), type := 4, pos := "law.go:54", after := #[{ on := 19, ground := Ground.data }, { on := 18, ground := Ground.chain }], guard := Option.none }) (v := ?_) (by rfl) ?_ (fun wS hSw => ?_) ?_
            rotate_left
            · kernel_rfl
            · (try dsimp only at hSw); go_simp; (try with_reducible rfl)
            try simp only [Act.put, List.setIfInBounds_toArray, List.set_cons_zero, List.set_cons_succ]
            refine Reg.G_step (o := { dst := some 98, op := Op.call { callee := Callee.value (Operand.func 20), args := #[], argTypes := #[] }, type := 4, pos := "law.go:54", after := #[{ on := 20, ground := Ground.chain }, { on := 20, ground := Ground.guard }], guard := some (20, true) }) (by rfl) ?_ (fun K hK => ?_)
            · kernel_rfl
            go_simp
            refine (awake _).mono ?_
            rintro e w' ⟨rfl, hb2⟩
            refine hK.out _ _ ?_ (fun hHeld => ?_)
            · exact cbel hb2 (hyw _) (by simp; omega)
            clear hK K
            try simp only [Act.put, List.setIfInBounds_toArray, List.set_cons_zero, List.set_cons_succ]
            refine Reg.G_on (o := { dst := some 99, op := Op.pick (Operand.tmp 97) (Operand.tmp 98) (Operand.const (Value.bool false)), type := 4, pos := "law.go:54", after := #[{ on := 20, ground := Ground.data }, { on := 21, ground := Ground.data }], guard := Option.none }) (v := ?_) (by rfl) ?_ (fun wS hSw => ?_) ?_
            rotate_left
            · kernel_rfl
            · (try dsimp only at hSw); go_simp; (try with_reducible rfl)
            try simp only [Act.put, List.setIfInBounds_toArray, List.set_cons_zero, List.set_cons_succ]
            refine Reg.G_on (o := { dst := some 6, op := Op.assign (Operand.tmp 99), type := 4, pos := "law.go:54", after := #[{ on := 22, ground := Ground.data }, { on := 21, ground := Ground.chain }, { on := 0, ground := Ground.phase }, { on := 1, ground := Ground.phase }, { on := 2, ground := Ground.phase }, { on := 3, ground := Ground.phase }, { on := 4, ground := Ground.phase }, { on := 5, ground := Ground.phase }, { on := 6, ground := Ground.phase }, { on := 7, ground := Ground.phase }, { on := 8, ground := Ground.phase }, { on := 9, ground := Ground.phase }, { on := 10, ground := Ground.phase }, { on := 11, ground := Ground.phase }, { on := 12, ground := Ground.phase }, { on := 13, ground := Ground.phase }, { on := 14, ground := Ground.phase }, { on := 15, ground := Ground.phase }, { on := 16, ground := Ground.phase }, { on := 17, ground := Ground.phase }, { on := 18, ground := Ground.phase }, { on := 19, ground := Ground.phase }, { on := 20, ground := Ground.phase }, { on := 21, ground := Ground.phase }, { on := 22, ground := Ground.phase }], guard := Option.none }) (v := ?_) (by rfl) ?_ (fun wS hSw => ?_) ?_
            rotate_left
            · kernel_rfl
            · (try dsimp only at hSw); go_simp; (try with_reducible rfl)
            try simp only [Act.put, List.setIfInBounds_toArray, List.set_cons_zero, List.set_cons_succ]
            refine Reg.G_done ?_
            go_wp2
            go_ret
            exact ⟨rfl, ((hb.alloc (by omega) _).drew).trans (hb2.mono (by simp; omega))⟩
        · have ho' : over x y t = false := by simpa using ho
          clear ho
          refine Reg.wp_plan (S := fun w' => w'.cell? ⟨w.heap.size, 1, Option.none⟩ = some (.int .u64 y)) [(0, true), (2, true), (3, true), (4, true), (1, false), (5, false), (6, true), (7, true), (8, true), (9, false), (10, true), (11, true), (12, true), (13, true), (15, true), (16, true), (17, true), (14, false), (18, false), (19, true), (20, true), (21, false), (22, true), (23, true)] (by kernel_rfl) (by kernel_rfl) (by kernel_rfl) (by kernel_rfl) (fun _ _ _ d _ h => by cases d <;> exact h) ?_ (fun hHeld => ?_)
          · exact hyw _
          refine Reg.G_on (o := { dst := some 77, op := Op.move (Operand.tmp 11), type := 23, pos := "law.go:54", after := #[], guard := Option.none }) (v := ?_) (by rfl) ?_ (fun wS hSw => ?_) ?_
          rotate_left
          · kernel_rfl
          · (try dsimp only at hSw); go_simp; (try with_reducible rfl)
          try simp only [Act.put, List.setIfInBounds_toArray, List.set_cons_zero, List.set_cons_succ]
          refine Reg.G_on (o := { dst := some 79, op := Op.indexAddr 45 (Operand.tmp 5) (Operand.const (Value.int IntKind.i64 1)), type := 0, pos := "law.go:54", after := #[], guard := Option.none }) (v := ?_) (by rfl) ?_ (fun wS hSw => ?_) ?_
          rotate_left
          · kernel_rfl
          · (try dsimp only at hSw); go_simp; (try with_reducible rfl)
          try simp only [Act.put, List.setIfInBounds_toArray, List.set_cons_zero, List.set_cons_succ]
          refine Reg.G_on (o := { dst := some 80, op := Op.load 22 (Operand.tmp 79), type := 22, pos := "law.go:54", after := #[{ on := 2, ground := Ground.data }], guard := Option.none }) (v := ?_) (by rfl) ?_ (fun wS hSw => ?_) ?_
          rotate_left
          · kernel_rfl
          · (try dsimp only at hSw); go_simp; (try with_reducible rfl)
          try simp only [Act.put, List.setIfInBounds_toArray, List.set_cons_zero, List.set_cons_succ]
          refine Reg.G_on (o := { dst := some 81, op := Op.move (Operand.tmp 1), type := 3, pos := "law.go:54", after := #[], guard := Option.none }) (v := ?_) (by rfl) ?_ (fun wS hSw => ?_) ?_
          rotate_left
          · kernel_rfl
          · (try dsimp only at hSw); go_simp; (try with_reducible rfl)
          try simp only [Act.put, List.setIfInBounds_toArray, List.set_cons_zero, List.set_cons_succ]
          refine Reg.G_step (o := { dst := some 78, op := Op.call { callee := Callee.value (Operand.func 19), args := #[Operand.tmp 77], argTypes := #[23] }, type := 22, pos := "law.go:54", after := #[{ on := 0, ground := Ground.data }], guard := Option.none }) (by rfl) ?_ (fun K hK => ?_)
          · kernel_rfl
          go_simp
          refine (now x _ _ (by go_simp)).mono ?_
          rintro e w' ⟨rfl, rfl⟩
          refine hK.out _ _ ?_ (fun hHeld => ?_)
          · exact hyw _
          clear hK K
          try simp only [Act.put, List.setIfInBounds_toArray, List.set_cons_zero, List.set_cons_succ]
          skip
          refine Reg.G_step (o := { dst := some 82, op := Op.call { callee := Callee.value (Operand.func 27), args := #[Operand.tmp 78, Operand.tmp 80, Operand.tmp 81], argTypes := #[22, 22, 3] }, type := 4, pos := "law.go:54", after := #[{ on := 1, ground := Ground.data }, { on := 3, ground := Ground.data }, { on := 4, ground := Ground.data }, { on := 1, ground := Ground.chain }], guard := Option.none }) (by rfl) ?_ (fun K hK => ?_)
          · kernel_rfl
          go_simp
          refine (over_b x y t false _ x1 y0 ht0 ht ho').mono ?_
          rintro e w' ⟨rfl, rfl⟩
          refine hK.out _ _ ?_ (fun hHeld => ?_)
          · exact hyw _
          clear hK K
          try simp only [Act.put, List.setIfInBounds_toArray, List.set_cons_zero, List.set_cons_succ]
          refine Reg.G_on (o := { dst := some 83, op := Op.unOp UnOp.not 4 (Operand.tmp 82), type := 4, pos := "law.go:54", after := #[{ on := 5, ground := Ground.data }], guard := Option.none }) (v := ?_) (by rfl) ?_ (fun wS hSw => ?_) ?_
          rotate_left
          · kernel_rfl
          · (try dsimp only at hSw); go_simp; (try with_reducible rfl)
          try simp only [Act.put, List.setIfInBounds_toArray, List.set_cons_zero, List.set_cons_succ]
          refine Reg.G_on (o := { dst := some 84, op := Op.move (Operand.tmp 83), type := 4, pos := "law.go:54", after := #[{ on := 6, ground := Ground.data }, { on := 5, ground := Ground.chain }], guard := Option.none }) (v := ?_) (by rfl) ?_ (fun wS hSw => ?_) ?_
          rotate_left
          · kernel_rfl
          · (try dsimp only at hSw); go_simp; (try with_reducible rfl)
          try simp only [Act.put, List.setIfInBounds_toArray, List.set_cons_zero, List.set_cons_succ]
          refine Reg.G_off (o := { dst := some 85, op := Op.move (Operand.tmp 11), type := 23, pos := "law.go:54", after := #[{ on := 7, ground := Ground.guard }], guard := some (7, false) }) (by rfl) ?_ ?_
          · kernel_rfl
          try simp only [Act.put, List.setIfInBounds_toArray, List.set_cons_zero, List.set_cons_succ]
          refine Reg.G_skip (o := { dst := some 86, op := Op.call { callee := Callee.value (Operand.func 18), args := #[Operand.tmp 85], argTypes := #[23] }, type := 25, pos := "law.go:54", after := #[{ on := 8, ground := Ground.data }, { on := 7, ground := Ground.chain }, { on := 7, ground := Ground.guard }], guard := some (7, false) }) (by rfl) ?_ (by assumption) ?_
          · kernel_rfl
          try simp only [Act.put, List.setIfInBounds_toArray, List.set_cons_zero, List.set_cons_succ]
          refine Reg.G_off (o := { dst := some 87, op := Op.binOp BinOp.eql 25 (Operand.tmp 86) (Operand.const (Value.int IntKind.i64 22)) 25, type := 4, pos := "law.go:54", after := #[{ on := 9, ground := Ground.data }, { on := 7, ground := Ground.guard }], guard := some (7, false) }) (by rfl) ?_ ?_
          · kernel_rfl
          try simp only [Act.put, List.setIfInBounds_toArray, List.set_cons_zero, List.set_cons_succ]
          refine Reg.G_on (o := { dst := some 88, op := Op.pick (Operand.tmp 84) (Operand.const (Value.bool true)) (Operand.tmp 87), type := 4, pos := "law.go:54", after := #[{ on := 7, ground := Ground.data }, { on := 10, ground := Ground.data }], guard := Option.none }) (v := ?_) (by rfl) ?_ (fun wS hSw => ?_) ?_
          rotate_left
          · kernel_rfl
          · (try dsimp only at hSw); go_simp; (try with_reducible rfl)
          try simp only [Act.put, List.setIfInBounds_toArray, List.set_cons_zero, List.set_cons_succ]
          refine Reg.G_on (o := { dst := some 89, op := Op.move (Operand.tmp 88), type := 4, pos := "law.go:54", after := #[{ on := 11, ground := Ground.data }, { on := 9, ground := Ground.chain }], guard := Option.none }) (v := ?_) (by rfl) ?_ (fun wS hSw => ?_) ?_
          rotate_left
          · kernel_rfl
          · (try dsimp only at hSw); go_simp; (try with_reducible rfl)
          try simp only [Act.put, List.setIfInBounds_toArray, List.set_cons_zero, List.set_cons_succ]
          refine Reg.G_off (o := { dst := some 90, op := Op.move (Operand.tmp 11), type := 23, pos := "law.go:54", after := #[{ on := 12, ground := Ground.guard }], guard := some (12, false) }) (by rfl) ?_ ?_
          · kernel_rfl
          try simp only [Act.put, List.setIfInBounds_toArray, List.set_cons_zero, List.set_cons_succ]
          refine Reg.G_off (o := { dst := some 92, op := Op.indexAddr 45 (Operand.tmp 5) (Operand.const (Value.int IntKind.i64 1)), type := 0, pos := "law.go:54", after := #[{ on := 12, ground := Ground.guard }], guard := some (12, false) }) (by rfl) ?_ ?_
          · kernel_rfl
          try simp only [Act.put, List.setIfInBounds_toArray, List.set_cons_zero, List.set_cons_succ]
          refine Reg.G_off (o := { dst := some 93, op := Op.load 22 (Operand.tmp 92), type := 22, pos := "law.go:54", after := #[{ on := 15, ground := Ground.data }, { on := 12, ground := Ground.guard }], guard := some (12, false) }) (by rfl) ?_ ?_
          · kernel_rfl
          try simp only [Act.put, List.setIfInBounds_toArray, List.set_cons_zero, List.set_cons_succ]
          refine Reg.G_off (o := { dst := some 94, op := Op.move (Operand.tmp 1), type := 3, pos := "law.go:54", after := #[{ on := 12, ground := Ground.guard }], guard := some (12, false) }) (by rfl) ?_ ?_
          · kernel_rfl
          try simp only [Act.put, List.setIfInBounds_toArray, List.set_cons_zero, List.set_cons_succ]
          refine Reg.G_skip (o := { dst := some 91, op := Op.call { callee := Callee.value (Operand.func 19), args := #[Operand.tmp 90], argTypes := #[23] }, type := 22, pos := "law.go:54", after := #[{ on := 13, ground := Ground.data }, { on := 12, ground := Ground.chain }, { on := 12, ground := Ground.guard }], guard := some (12, false) }) (by rfl) ?_ (by assumption) ?_
          · kernel_rfl
          try simp only [Act.put, List.setIfInBounds_toArray, List.set_cons_zero, List.set_cons_succ]
          refine Reg.G_skip (o := { dst := some 95, op := Op.call { callee := Callee.value (Operand.func 27), args := #[Operand.tmp 91, Operand.tmp 93, Operand.tmp 94], argTypes := #[22, 22, 3] }, type := 4, pos := "law.go:54", after := #[{ on := 14, ground := Ground.data }, { on := 16, ground := Ground.data }, { on := 17, ground := Ground.data }, { on := 14, ground := Ground.chain }, { on := 12, ground := Ground.guard }], guard := some (12, false) }) (by rfl) ?_ (by assumption) ?_
          · kernel_rfl
          try simp only [Act.put, List.setIfInBounds_toArray, List.set_cons_zero, List.set_cons_succ]
          refine Reg.G_on (o := { dst := some 96, op := Op.pick (Operand.tmp 89) (Operand.const (Value.bool true)) (Operand.tmp 95), type := 4, pos := "law.go:54", after := #[{ on := 12, ground := Ground.data }, { on := 18, ground := Ground.data }], guard := Option.none }) (v := ?_) (by rfl) ?_ (fun wS hSw => ?_) ?_
          rotate_left
          · kernel_rfl
          · (try dsimp only at hSw); go_simp; (try with_reducible rfl)
          try simp only [Act.put, List.setIfInBounds_toArray, List.set_cons_zero, List.set_cons_succ]
          refine Reg.G_on (o := { dst := some 97, op := Op.move (Operand.tmp 96), type := 4, pos := "law.go:54", after := #[{ on := 19, ground := Ground.data }, { on := 18, ground := Ground.chain }], guard := Option.none }) (v := ?_) (by rfl) ?_ (fun wS hSw => ?_) ?_
          rotate_left
          · kernel_rfl
          · (try dsimp only at hSw); go_simp; (try with_reducible rfl)
          try simp only [Act.put, List.setIfInBounds_toArray, List.set_cons_zero, List.set_cons_succ]
          refine Reg.G_step (o := { dst := some 98, op := Op.call { callee := Callee.value (Operand.func 20), args := #[], argTypes := #[] }, type := 4, pos := "law.go:54", after := #[{ on := 20, ground := Ground.chain }, { on := 20, ground := Ground.guard }], guard := some (20, true) }) (by rfl) ?_ (fun K hK => ?_)
          · kernel_rfl
          go_simp
          refine (awake _).mono ?_
          rintro e w' ⟨rfl, hb2⟩
          refine hK.out _ _ ?_ (fun hHeld => ?_)
          · exact cbel hb2 (hyw _) (by simp; omega)
          clear hK K
          try simp only [Act.put, List.setIfInBounds_toArray, List.set_cons_zero, List.set_cons_succ]
          refine Reg.G_on (o := { dst := some 99, op := Op.pick (Operand.tmp 97) (Operand.tmp 98) (Operand.const (Value.bool false)), type := 4, pos := "law.go:54", after := #[{ on := 20, ground := Ground.data }, { on := 21, ground := Ground.data }], guard := Option.none }) (v := ?_) (by rfl) ?_ (fun wS hSw => ?_) ?_
          rotate_left
          · kernel_rfl
          · (try dsimp only at hSw); go_simp; (try with_reducible rfl)
          try simp only [Act.put, List.setIfInBounds_toArray, List.set_cons_zero, List.set_cons_succ]
          refine Reg.G_on (o := { dst := some 6, op := Op.assign (Operand.tmp 99), type := 4, pos := "law.go:54", after := #[{ on := 22, ground := Ground.data }, { on := 21, ground := Ground.chain }, { on := 0, ground := Ground.phase }, { on := 1, ground := Ground.phase }, { on := 2, ground := Ground.phase }, { on := 3, ground := Ground.phase }, { on := 4, ground := Ground.phase }, { on := 5, ground := Ground.phase }, { on := 6, ground := Ground.phase }, { on := 7, ground := Ground.phase }, { on := 8, ground := Ground.phase }, { on := 9, ground := Ground.phase }, { on := 10, ground := Ground.phase }, { on := 11, ground := Ground.phase }, { on := 12, ground := Ground.phase }, { on := 13, ground := Ground.phase }, { on := 14, ground := Ground.phase }, { on := 15, ground := Ground.phase }, { on := 16, ground := Ground.phase }, { on := 17, ground := Ground.phase }, { on := 18, ground := Ground.phase }, { on := 19, ground := Ground.phase }, { on := 20, ground := Ground.phase }, { on := 21, ground := Ground.phase }, { on := 22, ground := Ground.phase }], guard := Option.none }) (v := ?_) (by rfl) ?_ (fun wS hSw => ?_) ?_
          rotate_left
          · kernel_rfl
          · (try dsimp only at hSw); go_simp; (try with_reducible rfl)
          try simp only [Act.put, List.setIfInBounds_toArray, List.set_cons_zero, List.set_cons_succ]
          refine Reg.G_done ?_
          go_wp2
          go_ret
          exact ⟨rfl, ((hb.alloc (by omega) _).drew).trans (hb2.mono (by simp; omega))⟩
end Go.Proofs.Ytfjcgbkoohjmnaa.Clock
