import Derived.Test.YtkijeknopnjamaaSampling5
set_option linter.unusedVariables false
set_option linter.unusedSimpArgs false
namespace Go.Proofs.Ytkijeknopnjamaa.Sampling
open Go.RowKit Base Go.Proofs.YtkijeknopnjamaaW.PrintWords Go.Proofs.YtkijeknopnjamaaW.PrintLast
set_option maxHeartbeats 4000000 in
set_option maxRecDepth 20000 in
theorem blind (z : Int) (A : Option Addr) (c : Nat) (l : List Stp) (now : Int) (w : World) (hC : Kd.C kst w A l.length l) (hn : ∀ x ∈ l, 0 ≤ x.n ∧ x.n < 18446744073709551616) (hnow : now < 18446744073709551616) :
    Calls Try.prog 4 #[.int .i64 z, .slice A l.length c, .int .u64 now] w fun e w' => e = .returned (.bool true) ∧ Below w.heap.size w w' := by
  by_cases hbig : 200 < l.length
  · go_enter Try.func4, Try.ntmps4
    go_wp2_with fail
    refine (awake _).mono ?_
    rintro e w' ⟨rfl, hb⟩
    go_wp2
    go_ret
    exact ⟨rfl, hb⟩
  · have HN := Lib.hid hn
    have HW := Lib.hid hnow
    clear hn hnow
    go_enter Try.func4, Try.ntmps4
    go_wp2_with fail
    refine (new z _).mono ?_
    rintro e w' ⟨rfl, rfl⟩
    go_wp2_with fail
    refine (new z _).mono ?_
    rintro e w' ⟨rfl, rfl⟩
    go_wp2
    go_loopw [10, 11] (fun v i wr => ∃ (k : Nat) (r t : Bool) (s : ByteArray) (f : Int), k ≤ l.length ∧ v = .bool t ∧ i = .int .i64 (k : Int) ∧ Port wr w.heap.size (mx z) t s f ∧ Port wr (w.heap.size + 1) (mx z) t s f ∧ Box wr (w.heap.size + 2) r s f ∧ Hid (St2 t s f) ∧
      Below w.heap.size w wr ∧ w.heap.size + 2 < wr.heap.size) (fun _ i _ => (l.length - (intOf i).toNat))
    case atStart =>
      obtain ⟨t1, t2, t3, t4, t5⟩ := three w (mx z) _ rfl
      exact ⟨0, false, false, ByteArray.empty, 0, by omega, rfl, rfl, t1, t2, t3, Lib.hid (.inl ⟨rfl, rfl, rfl⟩), t4, t5⟩
    case round =>
      obtain ⟨k, r, t, s, f, hk, rfl, rfl, hp, hq, hbx, hst, hb, hs⟩ := hrel
      have k0 : (0 : Int) ≤ (k : Int) := by omega
      by_cases hlt : k < l.length
      · have k2 : (k : Int) < (l.length : Int) := by omega
        have hCr := Kd.C_below hC hb
        obtain ⟨ad, rfl, c0, c1, c2⟩ := step_cells hCr k hlt
        have hx := Lib.hid (HN.out _ (List.getElem_mem hlt))
        generalize l[k] = x at *
        obtain ⟨xr, xs, xn⟩ := x
        dsimp only at c0 c1 c2
        cases xr with
        | true =>
          obtain ⟨W1, hW1⟩ : ∃ W1, W1 = wr.alloc (.cells #[.bool true, .string xs, .int .u64 xn] 29) := ⟨_, rfl⟩
          go_wp2_with fail
          rw [← hW1]
          have hbw : Below wr.heap.size wr W1 := by rw [hW1]; exact (Below.refl _ _).alloc (Nat.le_refl _) _
          have hs1 : wr.heap.size < W1.heap.size := by rw [hW1]; simp
          have hx1 : Box W1 wr.heap.size true xs xn := by rw [hW1]; exact Box.new wr _ xs xn
          clear hW1
          have hp1 := hp.below hbw (by omega)
          have hq1 := hq.below hbw (by omega)
          have hl1 := hbx.below hbw (by omega)
          have hb1 := bstep hb hbw
          refine (read_some xn (mx z) t s f _ _ hp1 hst.out hx.out.2).mono ?_
          rintro e w2 ⟨x_, y_, rfl, hb2⟩
          have hp2 := hp1.below hb2 (by omega)
          have hq2 := hq1.below hb2 (by omega)
          have hl2 := hl1.below hb2 (by omega)
          have hx2 := hx1.below hb2 (by omega)
          have hbb := bstep hb1 hb2
          have hs2 := Nat.lt_of_lt_of_le hs1 hb2.size
          clear hp1 hq1 hl1 hb1 hx1 hb2 hbw hs1
          have hx2' := hx2
          obtain ⟨e0, e1, e2, _, _, _⟩ := hx2'
          go_wp2
          try (go_step3; go_wp2; go_step3; go_wp2)
          go_roundw
          case rel => exact ⟨k + 1, r, t, s, f, by omega, rfl, by go_num, hp2, hq2, hl2, hst, hbb, by omega⟩
          case measure => simp [intOf]; omega
        | false =>
          obtain ⟨W1, hW1⟩ : ∃ W1, W1 = wr.alloc (.cells #[.bool false, .string xs, .int .u64 xn] 29) := ⟨_, rfl⟩
          go_wp2_with fail
          rw [← hW1]
          have hbw : Below wr.heap.size wr W1 := by rw [hW1]; exact (Below.refl _ _).alloc (Nat.le_refl _) _
          have hs1 : wr.heap.size < W1.heap.size := by rw [hW1]; simp
          have hx1 : Box W1 wr.heap.size false xs xn := by rw [hW1]; exact Box.new wr _ xs xn
          clear hW1
          have hp1 := hp.below hbw (by omega)
          have hq1 := hq.below hbw (by omega)
          have hl1 := hbx.below hbw (by omega)
          have hb1 := bstep hb hbw
          refine (read_some xn (mx z) t s f _ _ hp1 hst.out hx.out.2).mono ?_
          rintro e w2 ⟨x_, y_, rfl, hb2⟩
          have hp2 := hp1.below hb2 (by omega)
          have hq2 := hq1.below hb2 (by omega)
          have hl2 := hl1.below hb2 (by omega)
          have hx2 := hx1.below hb2 (by omega)
          have hbb := bstep hb1 hb2
          have hs2 := Nat.lt_of_lt_of_le hs1 hb2.size
          clear hp1 hq1 hl1 hb1 hx1 hb2 hbw hs1
          have hx2' := hx2
          obtain ⟨e0, e1, e2, _, _, _⟩ := hx2'
          by_cases hl : (xs.size : Int) > mx z
          · have hln : ¬ ((xs.size : Int) ≤ mx z) := by omega
            have hq0 := hq2.1
            have hp0 := hp2.1
            go_wp2_with fail
            refine (write_long xs xn (mx z) _ _ hp2.1 hl).mono ?_
            rintro e w' ⟨rfl, rfl⟩
            go_wp2_with fail
            refine Reg.wp_plan (S := fun w' => w'.cell? ⟨wr.heap.size, 1, none⟩ = some (.string xs) ∧ w'.cell? ⟨wr.heap.size, 2, none⟩ = some (.int .u64 xn) ∧ w'.cell? ⟨w.heap.size + 1, 0, none⟩ = some (.int .i64 (mx z))) 19 [(0, true), (1, true), (2, true), (3, true), (4, true), (5, true), (6, false), (7, true), (8, true), (9, true), (10, true), (11, true), (12, true), (13, true), (14, true), (15, false), (16, true), (17, true), (18, true)] (by kernel_rfl) (by kernel_rfl) (by kernel_rfl) (by kernel_rfl) (fun _ _ _ d _ h => by cases d <;> exact h) ?_ (fun hHeld => ?_)
            · exact ⟨by simpa using e1, by simpa using e2, by simpa using hq0⟩
            refine Reg.G_on (o := { dst := some 50, op := Op.move (Operand.tmp 13), type := 30, pos := "law.go:67", after := #[], guard := Option.none }) (v := ?_) (by rfl) ?_ (fun wS hSw => ?_) ?_
            rotate_left
            · kernel_rfl
            · (try dsimp only at hSw); go_simp; (try with_reducible rfl)
            try simp only [Act.put, List.setIfInBounds_toArray, List.set_cons_zero, List.set_cons_succ]
            refine Reg.G_on (o := { dst := some 51, op := Op.move (Operand.tmp 8), type := 24, pos := "law.go:67", after := #[], guard := Option.none }) (v := ?_) (by rfl) ?_ (fun wS hSw => ?_) ?_
            rotate_left
            · kernel_rfl
            · (try dsimp only at hSw); go_simp; (try with_reducible rfl)
            try simp only [Act.put, List.setIfInBounds_toArray, List.set_cons_zero, List.set_cons_succ]
            refine Reg.G_on (o := { dst := some 52, op := Op.fieldAddr 29 (Operand.tmp 12) 1, type := 0, pos := "law.go:67", after := #[], guard := Option.none }) (v := ?_) (by rfl) ?_ (fun wS hSw => ?_) ?_
            rotate_left
            · kernel_rfl
            · (try dsimp only at hSw); go_simp; (try with_reducible rfl)
            try simp only [Act.put, List.setIfInBounds_toArray, List.set_cons_zero, List.set_cons_succ]
            refine Reg.G_on (o := { dst := some 53, op := Op.load 9 (Operand.tmp 52), type := 9, pos := "law.go:67", after := #[{ on := 2, ground := Ground.data }], guard := Option.none }) (v := ?_) (by rfl) ?_ (fun wS hSw => ?_) ?_
            rotate_left
            · kernel_rfl
            · (try dsimp only at hSw); go_simp; (try with_reducible rfl)
            try simp only [Act.put, List.setIfInBounds_toArray, List.set_cons_zero, List.set_cons_succ]
            refine Reg.G_on (o := { dst := some 54, op := Op.fieldAddr 29 (Operand.tmp 12) 2, type := 0, pos := "law.go:67", after := #[], guard := Option.none }) (v := ?_) (by rfl) ?_ (fun wS hSw => ?_) ?_
            rotate_left
            · kernel_rfl
            · (try dsimp only at hSw); go_simp; (try with_reducible rfl)
            try simp only [Act.put, List.setIfInBounds_toArray, List.set_cons_zero, List.set_cons_succ]
            refine Reg.G_on (o := { dst := some 55, op := Op.load 27 (Operand.tmp 54), type := 27, pos := "law.go:67", after := #[{ on := 4, ground := Ground.data }], guard := Option.none }) (v := ?_) (by rfl) ?_ (fun wS hSw => ?_) ?_
            rotate_left
            · kernel_rfl
            · (try dsimp only at hSw); go_simp; (try with_reducible rfl)
            try simp only [Act.put, List.setIfInBounds_toArray, List.set_cons_zero, List.set_cons_succ]
            refine Reg.G_step (o := { dst := some 56, op := Op.call { callee := Callee.value (Operand.func 20), args := #[Operand.tmp 51, Operand.tmp 53, Operand.tmp 55], argTypes := #[24, 9, 27] }, type := 30, pos := "law.go:67", after := #[{ on := 1, ground := Ground.data }, { on := 3, ground := Ground.data }, { on := 5, ground := Ground.data }], guard := Option.none }) (by rfl) ?_ (fun K hK => ?_)
            · kernel_rfl
            go_simp
            refine (write_long xs xn (mx z) _ _ hHeld.2.2 hl).mono ?_
            rintro e w' ⟨rfl, rfl⟩
            refine hK.out _ _ ?_ (fun hHeld => ?_)
            · exact hHeld
            clear hK K
            try simp only [Act.put, List.setIfInBounds_toArray, List.set_cons_zero, List.set_cons_succ]
            refine Reg.G_on (o := { dst := some 57, op := Op.binOp BinOp.neq 30 (Operand.tmp 50) (Operand.tmp 56) 30, type := 4, pos := "law.go:67", after := #[{ on := 0, ground := Ground.data }, { on := 6, ground := Ground.data }], guard := Option.none }) (v := ?_) (by rfl) ?_ (fun wS hSw => ?_) ?_
            rotate_left
            · kernel_rfl
            · (try dsimp only at hSw); go_simp; (try with_reducible rfl)
            try simp only [Act.put, List.setIfInBounds_toArray, List.set_cons_zero, List.set_cons_succ]
            refine Reg.G_on (o := { dst := some 58, op := Op.move (Operand.tmp 57), type := 4, pos := "law.go:67", after := #[{ on := 7, ground := Ground.data }, { on := 6, ground := Ground.chain }], guard := Option.none }) (v := ?_) (by rfl) ?_ (fun wS hSw => ?_) ?_
            rotate_left
            · kernel_rfl
            · (try dsimp only at hSw); go_simp; (try with_reducible rfl)
            try simp only [Act.put, List.setIfInBounds_toArray, List.set_cons_zero, List.set_cons_succ]
            refine Reg.G_on (o := { dst := some 59, op := Op.move (Operand.tmp 13), type := 30, pos := "law.go:67", after := #[{ on := 8, ground := Ground.guard }], guard := some (8, false) }) (v := ?_) (by rfl) ?_ (fun wS hSw => ?_) ?_
            rotate_left
            · kernel_rfl
            · (try dsimp only at hSw); go_simp; (try with_reducible rfl)
            try simp only [Act.put, List.setIfInBounds_toArray, List.set_cons_zero, List.set_cons_succ]
            refine Reg.G_on (o := { dst := some 60, op := Op.binOp BinOp.eql 30 (Operand.tmp 59) (Operand.const (Value.int IntKind.i64 0)) 30, type := 4, pos := "law.go:67", after := #[{ on := 9, ground := Ground.data }, { on := 8, ground := Ground.guard }], guard := some (8, false) }) (v := ?_) (by rfl) ?_ (fun wS hSw => ?_) ?_
            rotate_left
            · kernel_rfl
            · (try dsimp only at hSw); go_simp; (try with_reducible rfl)
            try simp only [Act.put, List.setIfInBounds_toArray, List.set_cons_zero, List.set_cons_succ]
            refine Reg.G_on (o := { dst := some 61, op := Op.fieldAddr 29 (Operand.tmp 12) 1, type := 0, pos := "law.go:67", after := #[{ on := 8, ground := Ground.guard }], guard := some (8, false) }) (v := ?_) (by rfl) ?_ (fun wS hSw => ?_) ?_
            rotate_left
            · kernel_rfl
            · (try dsimp only at hSw); go_simp; (try with_reducible rfl)
            try simp only [Act.put, List.setIfInBounds_toArray, List.set_cons_zero, List.set_cons_succ]
            refine Reg.G_on (o := { dst := some 62, op := Op.load 9 (Operand.tmp 61), type := 9, pos := "law.go:67", after := #[{ on := 11, ground := Ground.data }, { on := 8, ground := Ground.guard }], guard := some (8, false) }) (v := ?_) (by rfl) ?_ (fun wS hSw => ?_) ?_
            rotate_left
            · kernel_rfl
            · (try dsimp only at hSw); go_simp; (try with_reducible rfl)
            try simp only [Act.put, List.setIfInBounds_toArray, List.set_cons_zero, List.set_cons_succ]
            refine Reg.G_on (o := { dst := some 63, op := Op.call { callee := Callee.builtin Builtin.len, args := #[Operand.tmp 62], argTypes := #[9] }, type := 3, pos := "law.go:67", after := #[{ on := 12, ground := Ground.data }, { on := 8, ground := Ground.guard }], guard := some (8, false) }) (v := ?_) (by rfl) ?_ (fun wS hSw => ?_) ?_
            rotate_left
            · kernel_rfl
            · (try dsimp only at hSw); go_simp; (try with_reducible rfl)
            try simp only [Act.put, List.setIfInBounds_toArray, List.set_cons_zero, List.set_cons_succ]
            refine Reg.G_on (o := { dst := some 64, op := Op.move (Operand.tmp 8), type := 24, pos := "law.go:67", after := #[{ on := 8, ground := Ground.guard }], guard := some (8, false) }) (v := ?_) (by rfl) ?_ (fun wS hSw => ?_) ?_
            rotate_left
            · kernel_rfl
            · (try dsimp only at hSw); go_simp; (try with_reducible rfl)
            try simp only [Act.put, List.setIfInBounds_toArray, List.set_cons_zero, List.set_cons_succ]
            refine Reg.G_step (o := { dst := some 65, op := Op.call { callee := Callee.value (Operand.func 21), args := #[Operand.tmp 64], argTypes := #[24] }, type := 3, pos := "law.go:67", after := #[{ on := 14, ground := Ground.data }, { on := 8, ground := Ground.chain }, { on := 8, ground := Ground.guard }], guard := some (8, false) }) (by rfl) ?_ (fun K hK => ?_)
            · kernel_rfl
            go_simp
            refine (size_ (mx z) _ _ hHeld.2.2).mono ?_
            rintro e w' ⟨rfl, rfl⟩
            refine hK.out _ _ ?_ (fun hHeld => ?_)
            · exact hHeld
            clear hK K
            try simp only [Act.put, List.setIfInBounds_toArray, List.set_cons_zero, List.set_cons_succ]
            refine Reg.G_on (o := { dst := some 66, op := Op.binOp BinOp.leq 3 (Operand.tmp 63) (Operand.tmp 65) 3, type := 4, pos := "law.go:67", after := #[{ on := 13, ground := Ground.data }, { on := 15, ground := Ground.data }, { on := 8, ground := Ground.guard }], guard := some (8, false) }) (v := ?_) (by rfl) ?_ (fun wS hSw => ?_) ?_
            rotate_left
            · kernel_rfl
            · (try dsimp only at hSw); go_simp; (try with_reducible rfl)
            try simp only [Act.put, List.setIfInBounds_toArray, List.set_cons_zero, List.set_cons_succ]
            refine Reg.G_on (o := { dst := some 67, op := Op.binOp BinOp.neq 4 (Operand.tmp 60) (Operand.tmp 66) 4, type := 4, pos := "law.go:67", after := #[{ on := 10, ground := Ground.data }, { on := 16, ground := Ground.data }, { on := 8, ground := Ground.guard }], guard := some (8, false) }) (v := ?_) (by rfl) ?_ (fun wS hSw => ?_) ?_
            rotate_left
            · kernel_rfl
            · (try dsimp only at hSw); go_simp; (try with_reducible rfl)
            try simp only [Act.put, List.setIfInBounds_toArray, List.set_cons_zero, List.set_cons_succ]
            refine Reg.G_on (o := { dst := some 68, op := Op.pick (Operand.tmp 58) (Operand.const (Value.bool true)) (Operand.tmp 67), type := 4, pos := "law.go:67", after := #[{ on := 8, ground := Ground.data }, { on := 17, ground := Ground.data }], guard := Option.none }) (v := ?_) (by rfl) ?_ (fun wS hSw => ?_) ?_
            rotate_left
            · kernel_rfl
            · (try dsimp only at hSw); go_simp; (try with_reducible rfl)
            try simp only [Act.put, List.setIfInBounds_toArray, List.set_cons_zero, List.set_cons_succ]
            refine Reg.G_done ?_
            go_wp2
            go_roundw
            case rel => exact ⟨k + 1, r, t, s, f, by omega, rfl, by go_num, hp2, hq2, hl2, hst, hbb.drew, by simpa using (by omega : w.heap.size + 2 < w2.heap.size)⟩
            case measure => simp [intOf]; omega
          · have hl' : (xs.size : Int) ≤ mx z := by omega
            have hle : decide ((xs.size : Int) ≤ mx z) = true := decide_eq_true hl'
            have hp3 := hp2.put xs xn
            have hq3 := hq2.far (c := w.heap.size) xs xn (by omega)
            have hx3 : Box (put w2 w.heap.size xs xn) wr.heap.size false xs xn := Box.kept hx2 (put_heap _ _ _ _ _ (by omega))
            have hl3 : Box (put w2 w.heap.size xs xn) (w.heap.size + 2) r s f := Box.kept hl2 (put_heap _ _ _ _ _ (by omega))
            have hs3 : w.heap.size + 2 < (put w2 w.heap.size xs xn).heap.size := by rw [put_size]; omega
            have hs4 : wr.heap.size < (put w2 w.heap.size xs xn).heap.size := by rw [put_size]; omega
            have hbb3 := put_below (s := xs) (n := xn) hbb (Nat.le_refl _)
            go_wp2_with fail
            refine (write xs xn (mx z) _ _ _ _ _ hp2 hl').mono ?_
            rintro e w' ⟨rfl, rfl⟩
            clear hp2 hq2 hl2 hx2 e0 e1 e2 hbb hs2
            generalize put w2 w.heap.size xs xn = w3 at *
            obtain ⟨e0, e1, e2, g0, g1, g2⟩ := hx3
            go_wp2_with fail
            refine Reg.wp_plan (S := fun w' => w'.cell? ⟨wr.heap.size, 1, none⟩ = some (.string xs) ∧ w'.cell? ⟨wr.heap.size, 2, none⟩ = some (.int .u64 xn) ∧ w'.cell? ⟨w.heap.size + 1, 0, none⟩ = some (.int .i64 (mx z))) 19 [(0, true), (1, true), (2, true), (3, true), (4, true), (5, true), (6, false), (7, true), (8, true), (9, true), (10, true), (11, true), (12, true), (13, true), (14, true), (15, false), (16, true), (17, true), (18, true)] (by kernel_rfl) (by kernel_rfl) (by kernel_rfl) (by kernel_rfl) (fun _ _ _ d _ h => by cases d <;> exact h) ?_ (fun hHeld => ?_)
            · exact ⟨by simpa using e1, by simpa using e2, by simpa using hq3.1⟩
            refine Reg.G_on (o := { dst := some 50, op := Op.move (Operand.tmp 13), type := 30, pos := "law.go:67", after := #[], guard := Option.none }) (v := ?_) (by rfl) ?_ (fun wS hSw => ?_) ?_
            rotate_left
            · kernel_rfl
            · (try dsimp only at hSw); go_simp; (try with_reducible rfl)
            try simp only [Act.put, List.setIfInBounds_toArray, List.set_cons_zero, List.set_cons_succ]
            refine Reg.G_on (o := { dst := some 51, op := Op.move (Operand.tmp 8), type := 24, pos := "law.go:67", after := #[], guard := Option.none }) (v := ?_) (by rfl) ?_ (fun wS hSw => ?_) ?_
            rotate_left
            · kernel_rfl
            · (try dsimp only at hSw); go_simp; (try with_reducible rfl)
            try simp only [Act.put, List.setIfInBounds_toArray, List.set_cons_zero, List.set_cons_succ]
            refine Reg.G_on (o := { dst := some 52, op := Op.fieldAddr 29 (Operand.tmp 12) 1, type := 0, pos := "law.go:67", after := #[], guard := Option.none }) (v := ?_) (by rfl) ?_ (fun wS hSw => ?_) ?_
            rotate_left
            · kernel_rfl
            · (try dsimp only at hSw); go_simp; (try with_reducible rfl)
            try simp only [Act.put, List.setIfInBounds_toArray, List.set_cons_zero, List.set_cons_succ]
            refine Reg.G_on (o := { dst := some 53, op := Op.load 9 (Operand.tmp 52), type := 9, pos := "law.go:67", after := #[{ on := 2, ground := Ground.data }], guard := Option.none }) (v := ?_) (by rfl) ?_ (fun wS hSw => ?_) ?_
            rotate_left
            · kernel_rfl
            · (try dsimp only at hSw); go_simp; (try with_reducible rfl)
            try simp only [Act.put, List.setIfInBounds_toArray, List.set_cons_zero, List.set_cons_succ]
            refine Reg.G_on (o := { dst := some 54, op := Op.fieldAddr 29 (Operand.tmp 12) 2, type := 0, pos := "law.go:67", after := #[], guard := Option.none }) (v := ?_) (by rfl) ?_ (fun wS hSw => ?_) ?_
            rotate_left
            · kernel_rfl
            · (try dsimp only at hSw); go_simp; (try with_reducible rfl)
            try simp only [Act.put, List.setIfInBounds_toArray, List.set_cons_zero, List.set_cons_succ]
            refine Reg.G_on (o := { dst := some 55, op := Op.load 27 (Operand.tmp 54), type := 27, pos := "law.go:67", after := #[{ on := 4, ground := Ground.data }], guard := Option.none }) (v := ?_) (by rfl) ?_ (fun wS hSw => ?_) ?_
            rotate_left
            · kernel_rfl
            · (try dsimp only at hSw); go_simp; (try with_reducible rfl)
            try simp only [Act.put, List.setIfInBounds_toArray, List.set_cons_zero, List.set_cons_succ]
            refine Reg.G_step (o := { dst := some 56, op := Op.call { callee := Callee.value (Operand.func 20), args := #[Operand.tmp 51, Operand.tmp 53, Operand.tmp 55], argTypes := #[24, 9, 27] }, type := 30, pos := "law.go:67", after := #[{ on := 1, ground := Ground.data }, { on := 3, ground := Ground.data }, { on := 5, ground := Ground.data }], guard := Option.none }) (by rfl) ?_ (fun K hK => ?_)
            · kernel_rfl
            go_simp
            refine (write xs xn (mx z) _ _ _ _ _ (hq3.below ((Below.refl _ _).drew) (by omega)) hl').mono ?_
            rintro e w' ⟨rfl, rfl⟩
            refine hK.out _ _ ?_ (fun hHeld => ?_)
            · exact ⟨(Box.kept (Box.below ⟨e0, e1, e2, g0, g1, g2⟩ ((Below.refl _ _).drew) (by omega)) (put_heap _ _ _ _ _ (by omega))).2.1, (Box.kept (Box.below ⟨e0, e1, e2, g0, g1, g2⟩ ((Below.refl _ _).drew) (by omega)) (put_heap _ _ _ _ _ (by omega))).2.2.1, ((hq3.below ((Below.refl _ _).drew) (by omega)).put xs xn).1⟩
            clear hK K
            try simp only [Act.put, List.setIfInBounds_toArray, List.set_cons_zero, List.set_cons_succ]
            refine Reg.G_on (o := { dst := some 57, op := Op.binOp BinOp.neq 30 (Operand.tmp 50) (Operand.tmp 56) 30, type := 4, pos := "law.go:67", after := #[{ on := 0, ground := Ground.data }, { on := 6, ground := Ground.data }], guard := Option.none }) (v := ?_) (by rfl) ?_ (fun wS hSw => ?_) ?_
            rotate_left
            · kernel_rfl
            · (try dsimp only at hSw); go_simp; (try with_reducible rfl)
            try simp only [Act.put, List.setIfInBounds_toArray, List.set_cons_zero, List.set_cons_succ]
            refine Reg.G_on (o := { dst := some 58, op := Op.move (Operand.tmp 57), type := 4, pos := "law.go:67", after := #[{ on := 7, ground := Ground.data }, { on := 6, ground := Ground.chain }], guard := Option.none }) (v := ?_) (by rfl) ?_ (fun wS hSw => ?_) ?_
            rotate_left
            · kernel_rfl
            · (try dsimp only at hSw); go_simp; (try with_reducible rfl)
            try simp only [Act.put, List.setIfInBounds_toArray, List.set_cons_zero, List.set_cons_succ]
            refine Reg.G_on (o := { dst := some 59, op := Op.move (Operand.tmp 13), type := 30, pos := "law.go:67", after := #[{ on := 8, ground := Ground.guard }], guard := some (8, false) }) (v := ?_) (by rfl) ?_ (fun wS hSw => ?_) ?_
            rotate_left
            · kernel_rfl
            · (try dsimp only at hSw); go_simp; (try with_reducible rfl)
            try simp only [Act.put, List.setIfInBounds_toArray, List.set_cons_zero, List.set_cons_succ]
            refine Reg.G_on (o := { dst := some 60, op := Op.binOp BinOp.eql 30 (Operand.tmp 59) (Operand.const (Value.int IntKind.i64 0)) 30, type := 4, pos := "law.go:67", after := #[{ on := 9, ground := Ground.data }, { on := 8, ground := Ground.guard }], guard := some (8, false) }) (v := ?_) (by rfl) ?_ (fun wS hSw => ?_) ?_
            rotate_left
            · kernel_rfl
            · (try dsimp only at hSw); go_simp; (try with_reducible rfl)
            try simp only [Act.put, List.setIfInBounds_toArray, List.set_cons_zero, List.set_cons_succ]
            refine Reg.G_on (o := { dst := some 61, op := Op.fieldAddr 29 (Operand.tmp 12) 1, type := 0, pos := "law.go:67", after := #[{ on := 8, ground := Ground.guard }], guard := some (8, false) }) (v := ?_) (by rfl) ?_ (fun wS hSw => ?_) ?_
            rotate_left
            · kernel_rfl
            · (try dsimp only at hSw); go_simp; (try with_reducible rfl)
            try simp only [Act.put, List.setIfInBounds_toArray, List.set_cons_zero, List.set_cons_succ]
            refine Reg.G_on (o := { dst := some 62, op := Op.load 9 (Operand.tmp 61), type := 9, pos := "law.go:67", after := #[{ on := 11, ground := Ground.data }, { on := 8, ground := Ground.guard }], guard := some (8, false) }) (v := ?_) (by rfl) ?_ (fun wS hSw => ?_) ?_
            rotate_left
            · kernel_rfl
            · (try dsimp only at hSw); go_simp; (try with_reducible rfl)
            try simp only [Act.put, List.setIfInBounds_toArray, List.set_cons_zero, List.set_cons_succ]
            refine Reg.G_on (o := { dst := some 63, op := Op.call { callee := Callee.builtin Builtin.len, args := #[Operand.tmp 62], argTypes := #[9] }, type := 3, pos := "law.go:67", after := #[{ on := 12, ground := Ground.data }, { on := 8, ground := Ground.guard }], guard := some (8, false) }) (v := ?_) (by rfl) ?_ (fun wS hSw => ?_) ?_
            rotate_left
            · kernel_rfl
            · (try dsimp only at hSw); go_simp; (try with_reducible rfl)
            try simp only [Act.put, List.setIfInBounds_toArray, List.set_cons_zero, List.set_cons_succ]
            refine Reg.G_on (o := { dst := some 64, op := Op.move (Operand.tmp 8), type := 24, pos := "law.go:67", after := #[{ on := 8, ground := Ground.guard }], guard := some (8, false) }) (v := ?_) (by rfl) ?_ (fun wS hSw => ?_) ?_
            rotate_left
            · kernel_rfl
            · (try dsimp only at hSw); go_simp; (try with_reducible rfl)
            try simp only [Act.put, List.setIfInBounds_toArray, List.set_cons_zero, List.set_cons_succ]
            refine Reg.G_step (o := { dst := some 65, op := Op.call { callee := Callee.value (Operand.func 21), args := #[Operand.tmp 64], argTypes := #[24] }, type := 3, pos := "law.go:67", after := #[{ on := 14, ground := Ground.data }, { on := 8, ground := Ground.chain }, { on := 8, ground := Ground.guard }], guard := some (8, false) }) (by rfl) ?_ (fun K hK => ?_)
            · kernel_rfl
            go_simp
            refine (size_ (mx z) _ _ hHeld.2.2).mono ?_
            rintro e w' ⟨rfl, rfl⟩
            refine hK.out _ _ ?_ (fun hHeld => ?_)
            · exact hHeld
            clear hK K
            try simp only [Act.put, List.setIfInBounds_toArray, List.set_cons_zero, List.set_cons_succ]
            refine Reg.G_on (o := { dst := some 66, op := Op.binOp BinOp.leq 3 (Operand.tmp 63) (Operand.tmp 65) 3, type := 4, pos := "law.go:67", after := #[{ on := 13, ground := Ground.data }, { on := 15, ground := Ground.data }, { on := 8, ground := Ground.guard }], guard := some (8, false) }) (v := ?_) (by rfl) ?_ (fun wS hSw => ?_) ?_
            rotate_left
            · kernel_rfl
            · (try dsimp only at hSw); go_simp; (try with_reducible rfl)
            try simp only [Act.put, List.setIfInBounds_toArray, List.set_cons_zero, List.set_cons_succ]
            refine Reg.G_on (o := { dst := some 67, op := Op.binOp BinOp.neq 4 (Operand.tmp 60) (Operand.tmp 66) 4, type := 4, pos := "law.go:67", after := #[{ on := 10, ground := Ground.data }, { on := 16, ground := Ground.data }, { on := 8, ground := Ground.guard }], guard := some (8, false) }) (v := ?_) (by rfl) ?_ (fun wS hSw => ?_) ?_
            rotate_left
            · kernel_rfl
            · (try dsimp only at hSw); go_simp; (try with_reducible rfl)
            try simp only [Act.put, List.setIfInBounds_toArray, List.set_cons_zero, List.set_cons_succ]
            refine Reg.G_on (o := { dst := some 68, op := Op.pick (Operand.tmp 58) (Operand.const (Value.bool true)) (Operand.tmp 67), type := 4, pos := "law.go:67", after := #[{ on := 8, ground := Ground.data }, { on := 17, ground := Ground.data }], guard := Option.none }) (v := ?_) (by rfl) ?_ (fun wS hSw => ?_) ?_
            rotate_left
            · kernel_rfl
            · (try dsimp only at hSw); go_simp; (try with_reducible rfl)
            try simp only [Act.put, List.setIfInBounds_toArray, List.set_cons_zero, List.set_cons_succ]
            refine Reg.G_done ?_
            have hpd := hp3.below (w' := w3.drew) ((Below.refl _ _).drew) (by omega)
            have hqd := hq3.below (w' := w3.drew) ((Below.refl _ _).drew) (by omega)
            have hld := hl3.below (w' := w3.drew) ((Below.refl _ _).drew) (by omega)
            have hxd : Box w3.drew wr.heap.size false xs xn := Box.below ⟨e0, e1, e2, g0, g1, g2⟩ ((Below.refl _ _).drew) (by omega)
            have hbd := put_below (b := w.heap.size + 1) (s := xs) (n := xn) hbb3.drew (by omega)
            have hsd : w.heap.size + 2 < (put w3.drew (w.heap.size + 1) xs xn).heap.size := by rw [put_size]; simpa using hs3
            have hp4 := hpd.far (c := w.heap.size + 1) xs xn (by omega)
            have hq4 := hqd.put xs xn
            have hl4 : Box (put w3.drew (w.heap.size + 1) xs xn) (w.heap.size + 2) r s f := hld.kept (put_heap _ _ _ _ _ (by omega))
            have hx4 : Box (put w3.drew (w.heap.size + 1) xs xn) wr.heap.size false xs xn := hxd.kept (put_heap _ _ _ _ _ (by omega))
            generalize put w3.drew (w.heap.size + 1) xs xn = w4 at *
            clear hHeld e0 e1 e2 g0 g1 g2
            obtain ⟨e0, e1, e2, _, _, _⟩ := hx4
            have hl4' := hl4
            obtain ⟨_, _, _, _, _, _⟩ := hl4'
            go_wp2
            go_roundw
            case rel => exact ⟨k + 1, false, true, xs, xn, by omega, rfl, by go_num, hp4.kept (set3_heap _ _ _ _ _ _ (by omega)), hq4.kept (set3_heap _ _ _ _ _ _ (by omega)), hl4.set false xs xn, Lib.hid (.inr ⟨rfl, hx.out.1⟩), set3_below hbd (by omega), by rw [← set3_size w4 (w.heap.size + 2) false xs xn] at hsd; exact hsd⟩
            case measure => simp [intOf]; omega
      · rcases hst.out with ⟨rfl, rfl, rfl⟩ | ⟨rfl, f0⟩
        · obtain ⟨_, _, _, _, _, _⟩ := hbx
          go_wp2_with fail
          refine (read_none now (mx z) _ _ hp).mono ?_
          rintro e w' ⟨rfl, rfl⟩
          go_wp2_with fail
          refine (read_none now (mx z) _ _ hq).mono ?_
          rintro e w' ⟨rfl, rfl⟩
          go_wp2_with fail
          refine (awake _).mono ?_
          rintro e w' ⟨rfl, hb2⟩
          go_wp2
          go_ret
          exact ⟨rfl, bstep hb hb2⟩
        · go_wp2_with fail
          refine (read_last now (mx z) f s _ _ hp HW.out f0).mono ?_
          rintro e w' ⟨rfl, rfl⟩
          have hqd := hq.below (w' := wr.drew) ((Below.refl _ _).drew) (by omega)
          have hbxd := hbx.below (w' := wr.drew) ((Below.refl _ _).drew) (by omega)
          obtain ⟨_, _, _, _, _, _⟩ := hbxd
          go_wp2_with fail
          refine (read_last now (mx z) f s _ _ hqd HW.out f0).mono ?_
          rintro e w' ⟨rfl, rfl⟩
          go_wp2_with fail
          refine (awake _).mono ?_
          rintro e w' ⟨rfl, hb2⟩
          go_wp2
          go_ret
          exact ⟨rfl, bstep hb.drew.drew hb2⟩
end Go.Proofs.Ytkijeknopnjamaa.Sampling
