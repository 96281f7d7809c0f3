import Derived.Test.YtkijeknopnjamaaQueuing4
set_option linter.unusedVariables false
set_option linter.unusedSimpArgs false
namespace Go.Proofs.Ytkijeknopnjamaa.Queuing
open Go.RowKit Base Sp Flat Go.Proofs.YtkijeknopnjamaaW.PrintWords
theorem mx_ge (n : Int) : 0 ≤ mx n := by unfold mx; split <;> omega
theorem mx_le (n : Int) (h : n < 9223372036854775808) : mx n < 9223372036854775808 := by unfold mx; split <;> omega
set_option maxRecDepth 20000 in
set_option maxHeartbeats 4000000 in
theorem steps (z d q : Int) (A : Option Addr) (c : Nat) (l : List (Int × ByteArray)) (w : World) (hC : Kd.C kq w A l.length l) (hq : q < 9223372036854775808) :
    Calls Try.prog 8 #[.agg #[.int .i64 z, .int .i64 d, .int .i64 q], .slice A l.length c] w fun e w' => e = .returned (.bool true) ∧ Below w.heap.size w w' := by
  by_cases hbig : 300 < l.length
  · go_enter Try.func8, Try.ntmps8
    go_wp2_with fail
    refine (awake _).mono ?_
    rintro e w' ⟨rfl, hb⟩
    go_wp2
    go_ret
    exact ⟨rfl, ((Below.refl _ _).alloc (Nat.le_refl _) _).trans (hb.mono (by simp))⟩
  · have HQ := Lib.hid (mx_le q hq)
    have hd0 := mx_ge d
    clear hq
    obtain ⟨W0, hW0⟩ : ∃ W0, W0 = w.alloc (.cells #[.int .i64 z, .int .i64 d, .int .i64 q] 56) := ⟨_, rfl⟩
    have b0 : Below w.heap.size w W0 := by rw [hW0]; exact (Below.refl _ _).alloc (Nat.le_refl _) _
    have s0 : w.heap.size < W0.heap.size := by rw [hW0]; simp
    have e0 : W0.cell? ⟨w.heap.size, 0, none⟩ = some (.int .i64 z) := by rw [hW0]; simp
    have e1 : W0.cell? ⟨w.heap.size, 1, none⟩ = some (.int .i64 d) := by rw [hW0]; simp
    have e2 : W0.cell? ⟨w.heap.size, 2, none⟩ = some (.int .i64 q) := by rw [hW0]; simp
    go_enter Try.func8, Try.ntmps8
    go_wp2_with fail
    rw [← hW0]
    clear hW0
    refine (new_at z d q w _ _ b0 (by omega)).mono ?_
    rintro e w1 ⟨rfl, q1, b1, m1, s1⟩
    have f0 : w1.cell? ⟨w.heap.size, 0, none⟩ = some (.int .i64 z) := by rw [← e0]; unfold World.cell?; rw [m1.block w.heap.size (by omega) (by omega)]
    have f1 : w1.cell? ⟨w.heap.size, 1, none⟩ = some (.int .i64 d) := by rw [← e1]; unfold World.cell?; rw [m1.block w.heap.size (by omega) (by omega)]
    have f2 : w1.cell? ⟨w.heap.size, 2, none⟩ = some (.int .i64 q) := by rw [← e2]; unfold World.cell?; rw [m1.block w.heap.size (by omega) (by omega)]
    clear m1 e0 e1 e2
    go_wp2_with fail
    refine (rnew z d q _).mono ?_
    rintro e w2 ⟨v2, rfl, r2, b2⟩
    obtain ⟨A2, c2, rfl, _, _⟩ := r2.get
    generalize hpb : W0.heap.size = pb at *
    clear hpb
    go_wp2
    have hs2 := b2.size
    go_loopw [7] (fun i wr => ∃ (k : Nat) (ms : List ByteArray) (s x : Int) (F G : Nat → Prop) (v : Value), k ≤ l.length ∧ i = .int .i64 (k : Int) ∧ Both w wr pb w2.heap.size (mx z) (mx d) (mx q) ms s x F G v ∧ Nums k (mx d) (mx q) ms s x) (fun i _ => (l.length - (intOf i).toNat))
    case atStart =>
      refine ⟨0, [], 0, 0, (fun k => k = pb), (fun k => w1.heap.size ≤ k ∧ k < w2.heap.size), _, by omega, rfl, ⟨(q1.below b2).below ((Below.refl _ _).alloc (Nat.le_refl _) _), heap_alloc_new _ _, r2.alloc flat_string _ (fun k hk => hk.2), fun k hk => by simp; omega, fun k hk => by omega, fun k hk => by omega, fun k hk => by omega, by omega, (b1.trans (b2.mono (by omega))).alloc (by omega) _⟩, ⟨by simpa using hd0, by simp, by omega, by omega, by omega, by omega⟩⟩
    case round =>
      obtain ⟨k, ms, s, x, F, G, v, hk, rfl, H, N⟩ := hrel
      have k0 : (0 : Int) ≤ (k : Int) := by omega
      generalize hr : w2.heap.size = r at *
      obtain ⟨A3, c3, rfl, _, _⟩ := H.rd.get
      have hrl := blk_lt H.bx
      obtain ⟨x0, x1, x2, x3, x4, x5⟩ := six H.bx
      obtain ⟨g0, g1, g2, g3, g4, g5⟩ := sixf H.bx
      by_cases hlt : k < l.length
      · have k2 : (k : Int) < (l.length : Int) := by omega
        obtain ⟨ad, rfl, c0, c1⟩ := step_cells (Kd.C_below hC H.be) k hlt
        obtain ⟨_, e', c0', _⟩ := step_cells hC k hlt
        obtain rfl := Option.some.inj e'
        have hal := World.block_lt_of_cell? w _ c0'
        have hne : (ad.add (k * 2)).block ≠ r := by have := H.rb; omega
        have hne' : r ≠ (ad.add (k * 2)).block := fun h => hne h.symm
        have hal2 : (ad.add (k * 2)).block < wr.heap.size := World.block_lt_of_cell? wr _ c0
        have hrl2 : r < (wr.alloc (.cells #[.int .i64 0, .int .i64 0, .int .i64 0, .slice none 0 0, .int .i64 0, .int .u64 0] 69)).drew.heap.size := Nat.lt_of_lt_of_le hrl (by simp)
        have hal3 : (ad.add (k * 2)).block < (wr.alloc (.cells #[.int .i64 0, .int .i64 0, .int .i64 0, .slice none 0 0, .int .i64 0, .int .u64 0] 69)).drew.heap.size := Nat.lt_of_lt_of_le hal2 (by simp)
        clear c0'
        generalize l[k] = y at *
        obtain ⟨yk, m⟩ := y
        dsimp only at c0 c1
        have HH := H
        have HN := Lib.hid N
        have n1 := N.s0
        have n2 := N.x0
        have n3 := N.xk
        have n4 := N.lk
        have n5 := N.ld
        clear N
        by_cases h1 : yk = 1
        · subst h1
          go_wp2_with fail
          refine Reg.wp_plan (S := fun w' => w'.cell? ⟨r, 0, none⟩ = some (.int .i64 (mx z)) ∧ w'.cell? ⟨r, 1, none⟩ = some (.int .i64 (mx d)) ∧ w'.cell? ⟨r, 2, none⟩ = some (.int .i64 (mx q)) ∧ w'.cell? ⟨r, 3, none⟩ = some (.slice A3 ms.length c3) ∧ w'.cell? ⟨r, 4, none⟩ = some (.int .i64 s) ∧ w'.cell? ⟨r, 5, none⟩ = some (.int .u64 x) ∧ w'.cell? ⟨(ad.add (k * 2)).block, (ad.add (k * 2)).off + 1, none⟩ = some (.string m)) 13 (.fl 0 (.fl 1 (.fl 2 (.fl 3 (.fl 4 (.fl 5 (.two 6 10 (.fl 7 (.fl 8 (.fl 9 (.one 10 (.one 11 (.fl 12 .done)))))) (.one 6 (.fl 7 (.fl 8 (.fl 9 (.one 11 (.fl 12 .done))))))))))))) (by kernel_rfl) (by kernel_rfl) (by kernel_rfl) (by kernel_rfl) (fun _ _ _ d _ h => by cases d <;> exact h) ?_ (fun hHeld => ?_)
          · exact ⟨by simpa using x0, by simpa using x1, by simpa using x2, by simpa using x3, by simpa using x4, by simpa using x5, by simpa using c1⟩
          refine Reg.G_on (o := { dst := some 50, op := Op.load 69 (Operand.tmp 6), type := 69, pos := "law.go:34", after := #[], guard := Option.none }) (v := ?_) (by rfl) ?_ (fun wS hSw => ?_) ?_
          rotate_left
          · kernel_rfl
          · (try dsimp only at hSw); go_simp; (try with_reducible rfl)
          try simp only [Act.put, List.setIfInBounds_toArray, List.set_cons_zero, List.set_cons_succ]
          refine Reg.G_on (o := { dst := some 51, op := Op.move (Operand.tmp 1), type := 57, pos := "law.go:34", after := #[], guard := Option.none }) (v := ?_) (by rfl) ?_ (fun wS hSw => ?_) ?_
          rotate_left
          · kernel_rfl
          · (try dsimp only at hSw); go_simp; (try with_reducible rfl)
          try simp only [Act.put, List.setIfInBounds_toArray, List.set_cons_zero, List.set_cons_succ]
          refine Reg.G_on (o := { dst := some 52, op := Op.move (Operand.tmp 7), type := 3, pos := "law.go:34", after := #[], guard := Option.none }) (v := ?_) (by rfl) ?_ (fun wS hSw => ?_) ?_
          rotate_left
          · kernel_rfl
          · (try dsimp only at hSw); go_simp; (try with_reducible rfl)
          try simp only [Act.put, List.setIfInBounds_toArray, List.set_cons_zero, List.set_cons_succ]
          refine Reg.G_on (o := { dst := some 53, op := Op.indexAddr 57 (Operand.tmp 51) (Operand.tmp 52), type := 0, pos := "law.go:34", after := #[{ on := 1, ground := Ground.data }, { on := 2, ground := Ground.data }], guard := Option.none }) (v := ?_) (by rfl) ?_ (fun wS hSw => ?_) ?_
          rotate_left
          · kernel_rfl
          · (try dsimp only at hSw); go_simp; (try with_reducible rfl)
          try simp only [Act.put, List.setIfInBounds_toArray, List.set_cons_zero, List.set_cons_succ]
          refine Reg.G_on (o := { dst := some 54, op := Op.fieldAddr 64 (Operand.tmp 53) 1, type := 0, pos := "law.go:34", after := #[{ on := 3, ground := Ground.data }], guard := Option.none }) (v := ?_) (by rfl) ?_ (fun wS hSw => ?_) ?_
          rotate_left
          · kernel_rfl
          · (try dsimp only at hSw); go_simp; (try with_reducible rfl)
          try simp only [Act.put, List.setIfInBounds_toArray, List.set_cons_zero, List.set_cons_succ]
          refine Reg.G_on (o := { dst := some 55, op := Op.load 9 (Operand.tmp 54), type := 9, pos := "law.go:34", after := #[{ on := 4, ground := Ground.data }], guard := Option.none }) (v := ?_) (by rfl) ?_ (fun wS hSw => ?_) ?_
          rotate_left
          · kernel_rfl
          · (try dsimp only at hSw); go_simp; (try with_reducible rfl)
          try simp only [Act.put, List.setIfInBounds_toArray, List.set_cons_zero, List.set_cons_succ]
          refine Reg.G_two ?_ ?_
          · refine Reg.G_step (o := { dst := some 56, op := Op.call { callee := Callee.value (Operand.func 36), args := #[Operand.tmp 50, Operand.tmp 55], argTypes := #[69, 9] }, type := 71, pos := "law.go:34", after := #[{ on := 0, ground := Ground.data }, { on := 5, ground := Ground.data }], guard := Option.none }) (by rfl) ?_ (fun K hK => ?_)
            · kernel_rfl
            go_simp
            refine (rsend2 G _ _ _ ms s x m _ wr.drew (H.rd.same flat_string (fun _ _ => rfl)) H.gl n1 HQ.out n2 (by omega) (by omega) n5).mono ?_
            rintro e w' ⟨A4, c4, rfl, r3, hb3⟩
            refine hK.out _ _ ?_ (fun hHeld => ?_)
            · exact ⟨cbel hb3 hHeld.1 hrl, cbel hb3 hHeld.2.1 hrl, cbel hb3 hHeld.2.2.1 hrl, cbel hb3 hHeld.2.2.2.1 hrl, cbel hb3 hHeld.2.2.2.2.1 hrl, cbel hb3 hHeld.2.2.2.2.2.1 hrl, cbel hb3 hHeld.2.2.2.2.2.2 hal2⟩
            clear hK K
            try simp only [Act.put, List.setIfInBounds_toArray, List.set_cons_zero, List.set_cons_succ]
            have hH1 := hHeld
            refine Reg.G_on (o := { dst := some 49, op := Op.move (Operand.tmp 56), type := 71, pos := "law.go:34", after := #[{ on := 6, ground := Ground.data }], guard := Option.none }) (v := ?_) (by rfl) ?_ (fun wS hSw => ?_) ?_
            rotate_left
            · kernel_rfl
            · (try dsimp only at hSw); go_simp; (try with_reducible rfl)
            try simp only [Act.put, List.setIfInBounds_toArray, List.set_cons_zero, List.set_cons_succ]
            refine Reg.G_on (o := { dst := some 57, op := Op.extract (Operand.tmp 49) 0, type := 69, pos := "law.go:34", after := #[{ on := 7, ground := Ground.data }], guard := Option.none }) (v := ?_) (by rfl) ?_ (fun wS hSw => ?_) ?_
            rotate_left
            · kernel_rfl
            · (try dsimp only at hSw); go_simp; (try with_reducible rfl)
            try simp only [Act.put, List.setIfInBounds_toArray, List.set_cons_zero, List.set_cons_succ]
            refine Reg.G_on (o := { dst := some 58, op := Op.extract (Operand.tmp 49) 1, type := 30, pos := "law.go:34", after := #[{ on := 7, ground := Ground.data }, { on := 11, ground := Ground.gcOnly Departure.lateStores }], guard := Option.none }) (v := ?_) (by rfl) ?_ (fun wS hSw => ?_) ?_
            rotate_left
            · kernel_rfl
            · (try dsimp only at hSw); go_simp; (try with_reducible rfl)
            try simp only [Act.put, List.setIfInBounds_toArray, List.set_cons_zero, List.set_cons_succ]
            refine Reg.G_step (o := { dst := some 8, op := Op.alloc 69, type := 0, pos := "law.go:34", after := #[], guard := Option.none }) (by rfl) ?_ (fun K hK => ?_)
            · kernel_rfl
            go_simp
            refine hK.out _ _ ?_ (fun hHeld => ?_)
            · exact ⟨cnew hHeld.1, cnew hHeld.2.1, cnew hHeld.2.2.1, cnew hHeld.2.2.2.1, cnew hHeld.2.2.2.2.1, cnew hHeld.2.2.2.2.2.1, cnew hHeld.2.2.2.2.2.2⟩
            clear hK K
            try simp only [Act.put, List.setIfInBounds_toArray, List.set_cons_zero, List.set_cons_succ]
            skip
            refine Reg.G_step (o := { dst := Option.none, op := Op.store 69 (Operand.tmp 8) (Operand.tmp 57), type := 0, pos := "law.go:34", after := #[{ on := 10, ground := Ground.data }, { on := 8, ground := Ground.data }, { on := 6, ground := Ground.chain }, { on := 0, ground := Ground.phase }, { on := 1, ground := Ground.phase }, { on := 2, ground := Ground.phase }, { on := 3, ground := Ground.phase }, { on := 4, ground := Ground.phase }, { on := 5, ground := Ground.phase }, { on := 6, ground := Ground.phase }, { on := 7, ground := Ground.phase }, { on := 8, ground := Ground.phase }, { on := 9, ground := Ground.textOnly Departure.lateStores }, { on := 10, ground := Ground.phase }], guard := Option.none }) (by rfl) ?_ (fun K hK => ?_)
            · kernel_rfl
            go_simp
            refine hK.out _ _ ?_ (fun hHeld => ?_)
            · exact ⟨cnew hH1.1, cnew hH1.2.1, cnew hH1.2.2.1, cnew hH1.2.2.2.1, cnew hH1.2.2.2.2.1, cnew hH1.2.2.2.2.2.1, cnew hH1.2.2.2.2.2.2⟩
            clear hK K
            try simp only [Act.put, List.setIfInBounds_toArray, List.set_cons_zero, List.set_cons_succ]
            refine Reg.G_on (o := { dst := some 9, op := Op.assign (Operand.tmp 58), type := 30, pos := "law.go:34", after := #[{ on := 9, ground := Ground.data }, { on := 11, ground := Ground.chain }, { on := 0, ground := Ground.phase }, { on := 1, ground := Ground.phase }, { on := 2, ground := Ground.phase }, { on := 3, ground := Ground.phase }, { on := 4, ground := Ground.phase }, { on := 5, ground := Ground.phase }, { on := 6, ground := Ground.phase }, { on := 7, ground := Ground.phase }, { on := 8, ground := Ground.phase }, { on := 9, ground := Ground.phase }, { on := 10, ground := Ground.phase }, { on := 11, ground := Ground.phase }], guard := Option.none }) (v := ?_) (by rfl) ?_ (fun wS hSw => ?_) ?_
            rotate_left
            · kernel_rfl
            · (try dsimp only at hSw); go_simp; (try with_reducible rfl)
            try simp only [Act.put, List.setIfInBounds_toArray, List.set_cons_zero, List.set_cons_succ]
            refine Reg.G_done ?_
            clear hH1 hHeld
            obtain ⟨W, hW⟩ : ∃ W, W = w'.alloc (.cells #[.int .i64 (mx z), .int .i64 (mx d), .int .i64 (mx q), .slice A4 (sl (mx z) (mx d) (mx q) s ms m).length c4, .int .i64 (ss (mx z) (mx q) s m), .int .u64 (sx (mx z) (mx d) (mx q) s x ms m)] 69) := ⟨_, rfl⟩
            have hbW : Below wr.heap.size wr W := by rw [hW]; exact ((Below.refl wr.heap.size wr).drew.trans hb3).alloc hb3.size _
            have rW : Rd Kd.string W (fun k => G k ∨ (wr.heap.size ≤ k ∧ k < w'.heap.size)) (.slice A4 (sl (mx z) (mx d) (mx q) s ms m).length c4) (sl (mx z) (mx d) (mx q) s ms m) := by rw [hW]; exact r3.alloc flat_string _ (fun k hk => hk.elim (fun h => Nat.lt_of_lt_of_le (H.gl k h) hb3.size) (fun h => h.2))
            have gW : ∀ k, (G k ∨ (wr.heap.size ≤ k ∧ k < w'.heap.size)) → G k ∨ (wr.heap.size ≤ k ∧ k < W.heap.size) := fun k hk => hk.imp id (fun h => ⟨h.1, by rw [hW]; simp; omega⟩)
            have y : W.heap[w'.heap.size]? = some (.cells #[.int .i64 (mx z), .int .i64 (mx d), .int .i64 (mx q), .slice A4 (sl (mx z) (mx d) (mx q) s ms m).length c4, .int .i64 (ss (mx z) (mx q) s m), .int .u64 (sx (mx z) (mx d) (mx q) s x ms m)] 69 (0, 0)) := by rw [hW]; exact heap_alloc_new _ _
            rw [← hW]
            clear hW x0 x1 x2 x3 x4 x5 g0 g1 g2 g3 g4 g5
            generalize w'.heap.size = b8 at *
            obtain ⟨y0, y1, y2, y3, y4, y5⟩ := six y
            have bW : W.heap[r]? = _ := (hbW.block r hrl).trans H.bx
            obtain ⟨x0, x1, x2, x3, x4, x5⟩ := six bW
            obtain ⟨g0, g1, g2, g3, g4, g5⟩ := sixf bW
            have c1W := cbel hbW c1 hal2
            clear c1
            have hqW := (Both.ref (s' := ss (mx z) (mx q) s m) (x' := sx (mx z) (mx d) (mx q) s x ms m) H hbW rW gW).1
            go_wp2_with fail
            refine (send F pb _ _ _ m ms s x _ hqW n1 HQ.out (by omega) n2 (by omega)).mono ?_
            rintro e w5 ⟨rfl, ⟨F5, q5, g5⟩, m5⟩
            have H5 := H.next hbW rW gW q5 (fun k hk => (g5 k hk).imp id (fun h => by rw [set6_size] at h; exact h)) m5
            have N5 := HN.out.send (z := mx z) (m := m) (by omega) hd0
            clear hqW g5 m5 bW
            have hsz5 := H5.be.size
            obtain ⟨_, _, _, t3, t4, t5⟩ := six H5.bx
            have Q5 := H5.qp
            go_wp2_with fail
            refine Reg.wp_plan (S := fun w' => QP w' F5 pb (mx z) (mx d) (mx q) (sl (mx z) (mx d) (mx q) s ms m) (ss (mx z) (mx q) s m) (sx (mx z) (mx d) (mx q) s x ms m) ∧ w'.cell? ⟨r, 3, none⟩ = some (.slice A4 ((sl (mx z) (mx d) (mx q) s ms m)).length c4) ∧ w'.cell? ⟨r, 4, none⟩ = some (.int .i64 ((ss (mx z) (mx q) s m))) ∧ w'.cell? ⟨r, 5, none⟩ = some (.int .u64 ((sx (mx z) (mx d) (mx q) s x ms m)))) 20 (.fl 0 (.fl 2 (.fl 3 (.fl 4 (.one 1 (.fl 5 (.fl 6 (.fl 7 (.fl 9 (.fl 10 (.one 8 (.fl 11 (.fl 12 (.fl 13 (.fl 14 (.fl 16 (.fl 17 (.one 15 (.fl 18 (.fl 19 .done)))))))))))))))))))) (by kernel_rfl) (by kernel_rfl) (by kernel_rfl) (by kernel_rfl) (fun _ _ _ d _ h => by cases d <;> exact h) ?_ (fun hHeld => ?_)
            · exact ⟨Q5.drew, by simpa using t3, by simpa using t4, by simpa using t5⟩
            refine Reg.G_on (o := { dst := some 91, op := Op.move (Operand.tmp 5), type := 59, pos := "law.go:50", after := #[], guard := Option.none }) (v := ?_) (by rfl) ?_ (fun wS hSw => ?_) ?_
            rotate_left
            · kernel_rfl
            · (try dsimp only at hSw); go_simp; (try with_reducible rfl)
            try simp only [Act.put, List.setIfInBounds_toArray, List.set_cons_zero, List.set_cons_succ]
            refine Reg.G_on (o := { dst := some 93, op := Op.fieldAddr 69 (Operand.tmp 6) 3, type := 0, pos := "law.go:50", after := #[], guard := Option.none }) (v := ?_) (by rfl) ?_ (fun wS hSw => ?_) ?_
            rotate_left
            · kernel_rfl
            · (try dsimp only at hSw); go_simp; (try with_reducible rfl)
            try simp only [Act.put, List.setIfInBounds_toArray, List.set_cons_zero, List.set_cons_succ]
            refine Reg.G_on (o := { dst := some 94, op := Op.load 67 (Operand.tmp 93), type := 67, pos := "law.go:50", after := #[{ on := 2, ground := Ground.data }], guard := Option.none }) (v := ?_) (by rfl) ?_ (fun wS hSw => ?_) ?_
            rotate_left
            · kernel_rfl
            · (try dsimp only at hSw); go_simp; (try with_reducible rfl)
            try simp only [Act.put, List.setIfInBounds_toArray, List.set_cons_zero, List.set_cons_succ]
            refine Reg.G_on (o := { dst := some 95, op := Op.call { callee := Callee.builtin Builtin.len, args := #[Operand.tmp 94], argTypes := #[67] }, type := 3, pos := "law.go:50", after := #[{ on := 3, ground := Ground.data }], guard := Option.none }) (v := ?_) (by rfl) ?_ (fun wS hSw => ?_) ?_
            rotate_left
            · kernel_rfl
            · (try dsimp only at hSw); go_simp; (try with_reducible rfl)
            try simp only [Act.put, List.setIfInBounds_toArray, List.set_cons_zero, List.set_cons_succ]
            refine Reg.G_step (o := { dst := some 92, op := Op.call { callee := Callee.value (Operand.func 38), args := #[Operand.tmp 91], argTypes := #[59] }, type := 3, pos := "law.go:50", after := #[{ on := 0, ground := Ground.data }], guard := Option.none }) (by rfl) ?_ (fun K hK => ?_)
            · kernel_rfl
            go_simp
            refine (waits _ _ _ _ _ _ _ _ _ hHeld.1).mono ?_
            rintro e w' ⟨rfl, rfl⟩
            refine hK.out _ _ ?_ (fun hHeld => ?_)
            · exact hHeld
            clear hK K
            try simp only [Act.put, List.setIfInBounds_toArray, List.set_cons_zero, List.set_cons_succ]
            refine Reg.G_on (o := { dst := some 96, op := Op.binOp BinOp.neq 3 (Operand.tmp 92) (Operand.tmp 95) 3, type := 4, pos := "law.go:50", after := #[{ on := 1, ground := Ground.data }, { on := 4, ground := Ground.data }], guard := Option.none }) (v := ?_) (by rfl) ?_ (fun wS hSw => ?_) ?_
            rotate_left
            · kernel_rfl
            · (try dsimp only at hSw); go_simp; (try with_reducible rfl)
            try simp only [Act.put, List.setIfInBounds_toArray, List.set_cons_zero, List.set_cons_succ]
            refine Reg.G_on (o := { dst := some 97, op := Op.move (Operand.tmp 96), type := 4, pos := "law.go:50", after := #[{ on := 5, ground := Ground.data }, { on := 1, ground := Ground.chain }], guard := Option.none }) (v := ?_) (by rfl) ?_ (fun wS hSw => ?_) ?_
            rotate_left
            · kernel_rfl
            · (try dsimp only at hSw); go_simp; (try with_reducible rfl)
            try simp only [Act.put, List.setIfInBounds_toArray, List.set_cons_zero, List.set_cons_succ]
            refine Reg.G_on (o := { dst := some 98, op := Op.move (Operand.tmp 5), type := 59, pos := "law.go:50", after := #[{ on := 6, ground := Ground.guard }], guard := some (6, false) }) (v := ?_) (by rfl) ?_ (fun wS hSw => ?_) ?_
            rotate_left
            · kernel_rfl
            · (try dsimp only at hSw); go_simp; (try with_reducible rfl)
            try simp only [Act.put, List.setIfInBounds_toArray, List.set_cons_zero, List.set_cons_succ]
            refine Reg.G_on (o := { dst := some 100, op := Op.fieldAddr 69 (Operand.tmp 6) 4, type := 0, pos := "law.go:50", after := #[{ on := 6, ground := Ground.guard }], guard := some (6, false) }) (v := ?_) (by rfl) ?_ (fun wS hSw => ?_) ?_
            rotate_left
            · kernel_rfl
            · (try dsimp only at hSw); go_simp; (try with_reducible rfl)
            try simp only [Act.put, List.setIfInBounds_toArray, List.set_cons_zero, List.set_cons_succ]
            refine Reg.G_on (o := { dst := some 101, op := Op.load 3 (Operand.tmp 100), type := 3, pos := "law.go:50", after := #[{ on := 9, ground := Ground.data }, { on := 6, ground := Ground.guard }], guard := some (6, false) }) (v := ?_) (by rfl) ?_ (fun wS hSw => ?_) ?_
            rotate_left
            · kernel_rfl
            · (try dsimp only at hSw); go_simp; (try with_reducible rfl)
            try simp only [Act.put, List.setIfInBounds_toArray, List.set_cons_zero, List.set_cons_succ]
            refine Reg.G_step (o := { dst := some 99, op := Op.call { callee := Callee.value (Operand.func 33), args := #[Operand.tmp 98], argTypes := #[59] }, type := 3, pos := "law.go:50", after := #[{ on := 7, ground := Ground.data }, { on := 6, ground := Ground.chain }, { on := 6, ground := Ground.guard }], guard := some (6, false) }) (by rfl) ?_ (fun K hK => ?_)
            · kernel_rfl
            go_simp
            refine (sent _ _ _ _ _ _ _ _ _ hHeld.1).mono ?_
            rintro e w' ⟨rfl, rfl⟩
            refine hK.out _ _ ?_ (fun hHeld => ?_)
            · exact hHeld
            clear hK K
            try simp only [Act.put, List.setIfInBounds_toArray, List.set_cons_zero, List.set_cons_succ]
            refine Reg.G_on (o := { dst := some 102, op := Op.binOp BinOp.neq 3 (Operand.tmp 99) (Operand.tmp 101) 3, type := 4, pos := "law.go:50", after := #[{ on := 8, ground := Ground.data }, { on := 10, ground := Ground.data }, { on := 6, ground := Ground.guard }], guard := some (6, false) }) (v := ?_) (by rfl) ?_ (fun wS hSw => ?_) ?_
            rotate_left
            · kernel_rfl
            · (try dsimp only at hSw); go_simp; (try with_reducible rfl)
            try simp only [Act.put, List.setIfInBounds_toArray, List.set_cons_zero, List.set_cons_succ]
            refine Reg.G_on (o := { dst := some 103, op := Op.pick (Operand.tmp 97) (Operand.const (Value.bool true)) (Operand.tmp 102), type := 4, pos := "law.go:50", after := #[{ on := 6, ground := Ground.data }, { on := 11, ground := Ground.data }], guard := Option.none }) (v := ?_) (by rfl) ?_ (fun wS hSw => ?_) ?_
            rotate_left
            · kernel_rfl
            · (try dsimp only at hSw); go_simp; (try with_reducible rfl)
            try simp only [Act.put, List.setIfInBounds_toArray, List.set_cons_zero, List.set_cons_succ]
            refine Reg.G_on (o := { dst := some 104, op := Op.move (Operand.tmp 103), type := 4, pos := "law.go:50", after := #[{ on := 12, ground := Ground.data }, { on := 8, ground := Ground.chain }], guard := Option.none }) (v := ?_) (by rfl) ?_ (fun wS hSw => ?_) ?_
            rotate_left
            · kernel_rfl
            · (try dsimp only at hSw); go_simp; (try with_reducible rfl)
            try simp only [Act.put, List.setIfInBounds_toArray, List.set_cons_zero, List.set_cons_succ]
            refine Reg.G_on (o := { dst := some 105, op := Op.move (Operand.tmp 5), type := 59, pos := "law.go:50", after := #[{ on := 13, ground := Ground.guard }], guard := some (13, false) }) (v := ?_) (by rfl) ?_ (fun wS hSw => ?_) ?_
            rotate_left
            · kernel_rfl
            · (try dsimp only at hSw); go_simp; (try with_reducible rfl)
            try simp only [Act.put, List.setIfInBounds_toArray, List.set_cons_zero, List.set_cons_succ]
            refine Reg.G_on (o := { dst := some 107, op := Op.fieldAddr 69 (Operand.tmp 6) 5, type := 0, pos := "law.go:50", after := #[{ on := 13, ground := Ground.guard }], guard := some (13, false) }) (v := ?_) (by rfl) ?_ (fun wS hSw => ?_) ?_
            rotate_left
            · kernel_rfl
            · (try dsimp only at hSw); go_simp; (try with_reducible rfl)
            try simp only [Act.put, List.setIfInBounds_toArray, List.set_cons_zero, List.set_cons_succ]
            refine Reg.G_on (o := { dst := some 108, op := Op.load 27 (Operand.tmp 107), type := 27, pos := "law.go:50", after := #[{ on := 16, ground := Ground.data }, { on := 13, ground := Ground.guard }], guard := some (13, false) }) (v := ?_) (by rfl) ?_ (fun wS hSw => ?_) ?_
            rotate_left
            · kernel_rfl
            · (try dsimp only at hSw); go_simp; (try with_reducible rfl)
            try simp only [Act.put, List.setIfInBounds_toArray, List.set_cons_zero, List.set_cons_succ]
            refine Reg.G_step (o := { dst := some 106, op := Op.call { callee := Callee.value (Operand.func 39), args := #[Operand.tmp 105], argTypes := #[59] }, type := 27, pos := "law.go:50", after := #[{ on := 14, ground := Ground.data }, { on := 13, ground := Ground.chain }, { on := 13, ground := Ground.guard }], guard := some (13, false) }) (by rfl) ?_ (fun K hK => ?_)
            · kernel_rfl
            go_simp
            refine (lost _ _ _ _ _ _ _ _ _ hHeld.1).mono ?_
            rintro e w' ⟨rfl, rfl⟩
            refine hK.out _ _ ?_ (fun hHeld => ?_)
            · exact hHeld
            clear hK K
            try simp only [Act.put, List.setIfInBounds_toArray, List.set_cons_zero, List.set_cons_succ]
            refine Reg.G_on (o := { dst := some 109, op := Op.binOp BinOp.neq 27 (Operand.tmp 106) (Operand.tmp 108) 27, type := 4, pos := "law.go:50", after := #[{ on := 15, ground := Ground.data }, { on := 17, ground := Ground.data }, { on := 13, ground := Ground.guard }], guard := some (13, false) }) (v := ?_) (by rfl) ?_ (fun wS hSw => ?_) ?_
            rotate_left
            · kernel_rfl
            · (try dsimp only at hSw); go_simp; (try with_reducible rfl)
            try simp only [Act.put, List.setIfInBounds_toArray, List.set_cons_zero, List.set_cons_succ]
            refine Reg.G_on (o := { dst := some 110, op := Op.pick (Operand.tmp 104) (Operand.const (Value.bool true)) (Operand.tmp 109), type := 4, pos := "law.go:50", after := #[{ on := 13, ground := Ground.data }, { on := 18, ground := Ground.data }], guard := Option.none }) (v := ?_) (by rfl) ?_ (fun wS hSw => ?_) ?_
            rotate_left
            · kernel_rfl
            · (try dsimp only at hSw); go_simp; (try with_reducible rfl)
            try simp only [Act.put, List.setIfInBounds_toArray, List.set_cons_zero, List.set_cons_succ]
            refine Reg.G_done ?_
            go_wp2
            go_roundw
            case rel => exact ⟨k + 1, (sl (mx z) (mx d) (mx q) s ms m), (ss (mx z) (mx q) s m), (sx (mx z) (mx d) (mx q) s x ms m), F5, _, _, by omega, by go_num, H5.drew, N5⟩
            case measure => simp [intOf]; omega

          · refine Reg.G_step (o := { dst := some 8, op := Op.alloc 69, type := 0, pos := "law.go:34", after := #[], guard := Option.none }) (by rfl) ?_ (fun K hK => ?_)
            · kernel_rfl
            go_simp
            refine hK.out _ _ ?_ (fun hHeld => ?_)
            · exact ⟨cnew hHeld.1, cnew hHeld.2.1, cnew hHeld.2.2.1, cnew hHeld.2.2.2.1, cnew hHeld.2.2.2.2.1, cnew hHeld.2.2.2.2.2.1, cnew hHeld.2.2.2.2.2.2⟩
            clear hK K
            try simp only [Act.put, List.setIfInBounds_toArray, List.set_cons_zero, List.set_cons_succ]
            skip
            refine Reg.G_step (o := { dst := some 56, op := Op.call { callee := Callee.value (Operand.func 36), args := #[Operand.tmp 50, Operand.tmp 55], argTypes := #[69, 9] }, type := 71, pos := "law.go:34", after := #[{ on := 0, ground := Ground.data }, { on := 5, ground := Ground.data }], guard := Option.none }) (by rfl) ?_ (fun K hK => ?_)
            · kernel_rfl
            go_simp
            refine (rsend2 G _ _ _ ms s x m _ (wr.alloc (.cells #[.int .i64 0, .int .i64 0, .int .i64 0, .slice none 0 0, .int .i64 0, .int .u64 0] 69)).drew ((H.rd.alloc flat_string (.cells #[.int .i64 0, .int .i64 0, .int .i64 0, .slice none 0 0, .int .i64 0, .int .u64 0] 69) H.gl).same flat_string (fun _ _ => rfl)) (fun k hk => Nat.lt_of_lt_of_le (H.gl k hk) (by simp)) n1 HQ.out n2 (by omega) (by omega) n5).mono ?_
            rintro e w' ⟨A4, c4, rfl, r3, hb3⟩
            refine hK.out _ _ ?_ (fun hHeld => ?_)
            · exact ⟨cbel hb3 hHeld.1 hrl2, cbel hb3 hHeld.2.1 hrl2, cbel hb3 hHeld.2.2.1 hrl2, cbel hb3 hHeld.2.2.2.1 hrl2, cbel hb3 hHeld.2.2.2.2.1 hrl2, cbel hb3 hHeld.2.2.2.2.2.1 hrl2, cbel hb3 hHeld.2.2.2.2.2.2 hal3⟩
            clear hK K
            try simp only [Act.put, List.setIfInBounds_toArray, List.set_cons_zero, List.set_cons_succ]
            refine Reg.G_on (o := { dst := some 49, op := Op.move (Operand.tmp 56), type := 71, pos := "law.go:34", after := #[{ on := 6, ground := Ground.data }], guard := Option.none }) (v := ?_) (by rfl) ?_ (fun wS hSw => ?_) ?_
            rotate_left
            · kernel_rfl
            · (try dsimp only at hSw); go_simp; (try with_reducible rfl)
            try simp only [Act.put, List.setIfInBounds_toArray, List.set_cons_zero, List.set_cons_succ]
            refine Reg.G_on (o := { dst := some 57, op := Op.extract (Operand.tmp 49) 0, type := 69, pos := "law.go:34", after := #[{ on := 7, ground := Ground.data }], guard := Option.none }) (v := ?_) (by rfl) ?_ (fun wS hSw => ?_) ?_
            rotate_left
            · kernel_rfl
            · (try dsimp only at hSw); go_simp; (try with_reducible rfl)
            try simp only [Act.put, List.setIfInBounds_toArray, List.set_cons_zero, List.set_cons_succ]
            refine Reg.G_on (o := { dst := some 58, op := Op.extract (Operand.tmp 49) 1, type := 30, pos := "law.go:34", after := #[{ on := 7, ground := Ground.data }, { on := 11, ground := Ground.gcOnly Departure.lateStores }], guard := Option.none }) (v := ?_) (by rfl) ?_ (fun wS hSw => ?_) ?_
            rotate_left
            · kernel_rfl
            · (try dsimp only at hSw); go_simp; (try with_reducible rfl)
            try simp only [Act.put, List.setIfInBounds_toArray, List.set_cons_zero, List.set_cons_succ]
            have hb3s := hb3.size
            simp at hb3s
            have z8 : w'.heap[wr.heap.size]? = some (.cells #[.int .i64 0, .int .i64 0, .int .i64 0, .slice none 0 0, .int .i64 0, .int .u64 0] 69 (0, 0)) := (hb3.block wr.heap.size (by simp)).trans (heap_alloc_new wr _)
            obtain ⟨z0, z1, z2, z3, z4, z5⟩ := six z8
            obtain ⟨u0, u1, u2, u3, u4, u5⟩ := sixf z8
            have hn8 : wr.heap.size ≠ r := by omega
            have hn9 : wr.heap.size ≠ (ad.add (k * 2)).block := by omega
            refine Reg.G_step (o := { dst := Option.none, op := Op.store 69 (Operand.tmp 8) (Operand.tmp 57), type := 0, pos := "law.go:34", after := #[{ on := 10, ground := Ground.data }, { on := 8, ground := Ground.data }, { on := 6, ground := Ground.chain }, { on := 0, ground := Ground.phase }, { on := 1, ground := Ground.phase }, { on := 2, ground := Ground.phase }, { on := 3, ground := Ground.phase }, { on := 4, ground := Ground.phase }, { on := 5, ground := Ground.phase }, { on := 6, ground := Ground.phase }, { on := 7, ground := Ground.phase }, { on := 8, ground := Ground.phase }, { on := 9, ground := Ground.textOnly Departure.lateStores }, { on := 10, ground := Ground.phase }], guard := Option.none }) (by rfl) ?_ (fun K hK => ?_)
            · kernel_rfl
            go_simp
            refine hK.out _ _ ?_ (fun hHeld => ?_)
            · exact ⟨far6 hHeld.1 hn8, far6 hHeld.2.1 hn8, far6 hHeld.2.2.1 hn8, far6 hHeld.2.2.2.1 hn8, far6 hHeld.2.2.2.2.1 hn8, far6 hHeld.2.2.2.2.2.1 hn8, far6 hHeld.2.2.2.2.2.2 hn9⟩
            clear hK K
            try simp only [Act.put, List.setIfInBounds_toArray, List.set_cons_zero, List.set_cons_succ]
            refine Reg.G_on (o := { dst := some 9, op := Op.assign (Operand.tmp 58), type := 30, pos := "law.go:34", after := #[{ on := 9, ground := Ground.data }, { on := 11, ground := Ground.chain }, { on := 0, ground := Ground.phase }, { on := 1, ground := Ground.phase }, { on := 2, ground := Ground.phase }, { on := 3, ground := Ground.phase }, { on := 4, ground := Ground.phase }, { on := 5, ground := Ground.phase }, { on := 6, ground := Ground.phase }, { on := 7, ground := Ground.phase }, { on := 8, ground := Ground.phase }, { on := 9, ground := Ground.phase }, { on := 10, ground := Ground.phase }, { on := 11, ground := Ground.phase }], guard := Option.none }) (v := ?_) (by rfl) ?_ (fun wS hSw => ?_) ?_
            rotate_left
            · kernel_rfl
            · (try dsimp only at hSw); go_simp; (try with_reducible rfl)
            try simp only [Act.put, List.setIfInBounds_toArray, List.set_cons_zero, List.set_cons_succ]
            refine Reg.G_done ?_
            clear hHeld z0 z1 z2 z3 z4 z5 u0 u1 u2 u3 u4 u5
            obtain ⟨W, hW⟩ : ∃ W, W = set6 w' wr.heap.size (.int .i64 (mx z)) (.int .i64 (mx d)) (.int .i64 (mx q)) (.slice A4 (sl (mx z) (mx d) (mx q) s ms m).length c4) (.int .i64 (ss (mx z) (mx q) s m)) (.int .u64 (sx (mx z) (mx d) (mx q) s x ms m)) := ⟨_, rfl⟩
            have hb4 : Below wr.heap.size wr w' := (((Below.refl wr.heap.size wr).alloc (Nat.le_refl _) _).drew).trans (hb3.mono (by simp))
            have hbW : Below wr.heap.size wr W := by rw [hW]; exact set6_below hb4 (Nat.le_refl _) _ _ _ _ _ _
            have rW : Rd Kd.string W (fun k => G k ∨ (wr.heap.size + 1 ≤ k ∧ k < w'.heap.size)) (.slice A4 (sl (mx z) (mx d) (mx q) s ms m).length c4) (sl (mx z) (mx d) (mx q) s ms m) := by
              rw [hW]
              refine (r3.mono (fun k hk => hk.imp id (fun h => ⟨by simpa using h.1, h.2⟩))).same flat_string (fun k hk => set6_far _ _ _ _ _ _ _ _ k ?_)
              exact hk.elim (fun h => by have := H.gl k h; omega) (fun h => by omega)
            have gW : ∀ k, (G k ∨ (wr.heap.size + 1 ≤ k ∧ k < w'.heap.size)) → G k ∨ (wr.heap.size ≤ k ∧ k < W.heap.size) := fun k hk => hk.imp id (fun h => ⟨by omega, by rw [hW, set6_size]; exact h.2⟩)
            have y : W.heap[wr.heap.size]? = some (.cells #[.int .i64 (mx z), .int .i64 (mx d), .int .i64 (mx q), .slice A4 (sl (mx z) (mx d) (mx q) s ms m).length c4, .int .i64 (ss (mx z) (mx q) s m), .int .u64 (sx (mx z) (mx d) (mx q) s x ms m)] 69 (0, 0)) := by rw [hW]; exact set6_at z8 _ _ _ _ _ _
            unfold set6 at hW
            rw [← hW]
            clear hW x0 x1 x2 x3 x4 x5 g0 g1 g2 g3 g4 g5 z8 hb4
            obtain ⟨y0, y1, y2, y3, y4, y5⟩ := six y
            have bW : W.heap[r]? = _ := (hbW.block r hrl).trans H.bx
            obtain ⟨x0, x1, x2, x3, x4, x5⟩ := six bW
            obtain ⟨g0, g1, g2, g3, g4, g5⟩ := sixf bW
            have c1W := cbel hbW c1 hal2
            clear c1
            have hqW := (Both.ref (s' := ss (mx z) (mx q) s m) (x' := sx (mx z) (mx d) (mx q) s x ms m) H hbW rW gW).1
            go_wp2_with fail
            refine (send F pb _ _ _ m ms s x _ hqW n1 HQ.out (by omega) n2 (by omega)).mono ?_
            rintro e w5 ⟨rfl, ⟨F5, q5, g5⟩, m5⟩
            have H5 := H.next hbW rW gW q5 (fun k hk => (g5 k hk).imp id (fun h => by rw [set6_size] at h; exact h)) m5
            have N5 := HN.out.send (z := mx z) (m := m) (by omega) hd0
            clear hqW g5 m5 bW
            have hsz5 := H5.be.size
            obtain ⟨_, _, _, t3, t4, t5⟩ := six H5.bx
            have Q5 := H5.qp
            go_wp2_with fail
            refine Reg.wp_plan (S := fun w' => QP w' F5 pb (mx z) (mx d) (mx q) (sl (mx z) (mx d) (mx q) s ms m) (ss (mx z) (mx q) s m) (sx (mx z) (mx d) (mx q) s x ms m) ∧ w'.cell? ⟨r, 3, none⟩ = some (.slice A4 ((sl (mx z) (mx d) (mx q) s ms m)).length c4) ∧ w'.cell? ⟨r, 4, none⟩ = some (.int .i64 ((ss (mx z) (mx q) s m))) ∧ w'.cell? ⟨r, 5, none⟩ = some (.int .u64 ((sx (mx z) (mx d) (mx q) s x ms m)))) 20 (.fl 0 (.fl 2 (.fl 3 (.fl 4 (.one 1 (.fl 5 (.fl 6 (.fl 7 (.fl 9 (.fl 10 (.one 8 (.fl 11 (.fl 12 (.fl 13 (.fl 14 (.fl 16 (.fl 17 (.one 15 (.fl 18 (.fl 19 .done)))))))))))))))))))) (by kernel_rfl) (by kernel_rfl) (by kernel_rfl) (by kernel_rfl) (fun _ _ _ d _ h => by cases d <;> exact h) ?_ (fun hHeld => ?_)
            · exact ⟨Q5.drew, by simpa using t3, by simpa using t4, by simpa using t5⟩
            refine Reg.G_on (o := { dst := some 91, op := Op.move (Operand.tmp 5), type := 59, pos := "law.go:50", after := #[], guard := Option.none }) (v := ?_) (by rfl) ?_ (fun wS hSw => ?_) ?_
            rotate_left
            · kernel_rfl
            · (try dsimp only at hSw); go_simp; (try with_reducible rfl)
            try simp only [Act.put, List.setIfInBounds_toArray, List.set_cons_zero, List.set_cons_succ]
            refine Reg.G_on (o := { dst := some 93, op := Op.fieldAddr 69 (Operand.tmp 6) 3, type := 0, pos := "law.go:50", after := #[], guard := Option.none }) (v := ?_) (by rfl) ?_ (fun wS hSw => ?_) ?_
            rotate_left
            · kernel_rfl
            · (try dsimp only at hSw); go_simp; (try with_reducible rfl)
            try simp only [Act.put, List.setIfInBounds_toArray, List.set_cons_zero, List.set_cons_succ]
            refine Reg.G_on (o := { dst := some 94, op := Op.load 67 (Operand.tmp 93), type := 67, pos := "law.go:50", after := #[{ on := 2, ground := Ground.data }], guard := Option.none }) (v := ?_) (by rfl) ?_ (fun wS hSw => ?_) ?_
            rotate_left
            · kernel_rfl
            · (try dsimp only at hSw); go_simp; (try with_reducible rfl)
            try simp only [Act.put, List.setIfInBounds_toArray, List.set_cons_zero, List.set_cons_succ]
            refine Reg.G_on (o := { dst := some 95, op := Op.call { callee := Callee.builtin Builtin.len, args := #[Operand.tmp 94], argTypes := #[67] }, type := 3, pos := "law.go:50", after := #[{ on := 3, ground := Ground.data }], guard := Option.none }) (v := ?_) (by rfl) ?_ (fun wS hSw => ?_) ?_
            rotate_left
            · kernel_rfl
            · (try dsimp only at hSw); go_simp; (try with_reducible rfl)
            try simp only [Act.put, List.setIfInBounds_toArray, List.set_cons_zero, List.set_cons_succ]
            refine Reg.G_step (o := { dst := some 92, op := Op.call { callee := Callee.value (Operand.func 38), args := #[Operand.tmp 91], argTypes := #[59] }, type := 3, pos := "law.go:50", after := #[{ on := 0, ground := Ground.data }], guard := Option.none }) (by rfl) ?_ (fun K hK => ?_)
            · kernel_rfl
            go_simp
            refine (waits _ _ _ _ _ _ _ _ _ hHeld.1).mono ?_
            rintro e w' ⟨rfl, rfl⟩
            refine hK.out _ _ ?_ (fun hHeld => ?_)
            · exact hHeld
            clear hK K
            try simp only [Act.put, List.setIfInBounds_toArray, List.set_cons_zero, List.set_cons_succ]
            refine Reg.G_on (o := { dst := some 96, op := Op.binOp BinOp.neq 3 (Operand.tmp 92) (Operand.tmp 95) 3, type := 4, pos := "law.go:50", after := #[{ on := 1, ground := Ground.data }, { on := 4, ground := Ground.data }], guard := Option.none }) (v := ?_) (by rfl) ?_ (fun wS hSw => ?_) ?_
            rotate_left
            · kernel_rfl
            · (try dsimp only at hSw); go_simp; (try with_reducible rfl)
            try simp only [Act.put, List.setIfInBounds_toArray, List.set_cons_zero, List.set_cons_succ]
            refine Reg.G_on (o := { dst := some 97, op := Op.move (Operand.tmp 96), type := 4, pos := "law.go:50", after := #[{ on := 5, ground := Ground.data }, { on := 1, ground := Ground.chain }], guard := Option.none }) (v := ?_) (by rfl) ?_ (fun wS hSw => ?_) ?_
            rotate_left
            · kernel_rfl
            · (try dsimp only at hSw); go_simp; (try with_reducible rfl)
            try simp only [Act.put, List.setIfInBounds_toArray, List.set_cons_zero, List.set_cons_succ]
            refine Reg.G_on (o := { dst := some 98, op := Op.move (Operand.tmp 5), type := 59, pos := "law.go:50", after := #[{ on := 6, ground := Ground.guard }], guard := some (6, false) }) (v := ?_) (by rfl) ?_ (fun wS hSw => ?_) ?_
            rotate_left
            · kernel_rfl
            · (try dsimp only at hSw); go_simp; (try with_reducible rfl)
            try simp only [Act.put, List.setIfInBounds_toArray, List.set_cons_zero, List.set_cons_succ]
            refine Reg.G_on (o := { dst := some 100, op := Op.fieldAddr 69 (Operand.tmp 6) 4, type := 0, pos := "law.go:50", after := #[{ on := 6, ground := Ground.guard }], guard := some (6, false) }) (v := ?_) (by rfl) ?_ (fun wS hSw => ?_) ?_
            rotate_left
            · kernel_rfl
            · (try dsimp only at hSw); go_simp; (try with_reducible rfl)
            try simp only [Act.put, List.setIfInBounds_toArray, List.set_cons_zero, List.set_cons_succ]
            refine Reg.G_on (o := { dst := some 101, op := Op.load 3 (Operand.tmp 100), type := 3, pos := "law.go:50", after := #[{ on := 9, ground := Ground.data }, { on := 6, ground := Ground.guard }], guard := some (6, false) }) (v := ?_) (by rfl) ?_ (fun wS hSw => ?_) ?_
            rotate_left
            · kernel_rfl
            · (try dsimp only at hSw); go_simp; (try with_reducible rfl)
            try simp only [Act.put, List.setIfInBounds_toArray, List.set_cons_zero, List.set_cons_succ]
            refine Reg.G_step (o := { dst := some 99, op := Op.call { callee := Callee.value (Operand.func 33), args := #[Operand.tmp 98], argTypes := #[59] }, type := 3, pos := "law.go:50", after := #[{ on := 7, ground := Ground.data }, { on := 6, ground := Ground.chain }, { on := 6, ground := Ground.guard }], guard := some (6, false) }) (by rfl) ?_ (fun K hK => ?_)
            · kernel_rfl
            go_simp
            refine (sent _ _ _ _ _ _ _ _ _ hHeld.1).mono ?_
            rintro e w' ⟨rfl, rfl⟩
            refine hK.out _ _ ?_ (fun hHeld => ?_)
            · exact hHeld
            clear hK K
            try simp only [Act.put, List.setIfInBounds_toArray, List.set_cons_zero, List.set_cons_succ]
            refine Reg.G_on (o := { dst := some 102, op := Op.binOp BinOp.neq 3 (Operand.tmp 99) (Operand.tmp 101) 3, type := 4, pos := "law.go:50", after := #[{ on := 8, ground := Ground.data }, { on := 10, ground := Ground.data }, { on := 6, ground := Ground.guard }], guard := some (6, false) }) (v := ?_) (by rfl) ?_ (fun wS hSw => ?_) ?_
            rotate_left
            · kernel_rfl
            · (try dsimp only at hSw); go_simp; (try with_reducible rfl)
            try simp only [Act.put, List.setIfInBounds_toArray, List.set_cons_zero, List.set_cons_succ]
            refine Reg.G_on (o := { dst := some 103, op := Op.pick (Operand.tmp 97) (Operand.const (Value.bool true)) (Operand.tmp 102), type := 4, pos := "law.go:50", after := #[{ on := 6, ground := Ground.data }, { on := 11, ground := Ground.data }], guard := Option.none }) (v := ?_) (by rfl) ?_ (fun wS hSw => ?_) ?_
            rotate_left
            · kernel_rfl
            · (try dsimp only at hSw); go_simp; (try with_reducible rfl)
            try simp only [Act.put, List.setIfInBounds_toArray, List.set_cons_zero, List.set_cons_succ]
            refine Reg.G_on (o := { dst := some 104, op := Op.move (Operand.tmp 103), type := 4, pos := "law.go:50", after := #[{ on := 12, ground := Ground.data }, { on := 8, ground := Ground.chain }], guard := Option.none }) (v := ?_) (by rfl) ?_ (fun wS hSw => ?_) ?_
            rotate_left
            · kernel_rfl
            · (try dsimp only at hSw); go_simp; (try with_reducible rfl)
            try simp only [Act.put, List.setIfInBounds_toArray, List.set_cons_zero, List.set_cons_succ]
            refine Reg.G_on (o := { dst := some 105, op := Op.move (Operand.tmp 5), type := 59, pos := "law.go:50", after := #[{ on := 13, ground := Ground.guard }], guard := some (13, false) }) (v := ?_) (by rfl) ?_ (fun wS hSw => ?_) ?_
            rotate_left
            · kernel_rfl
            · (try dsimp only at hSw); go_simp; (try with_reducible rfl)
            try simp only [Act.put, List.setIfInBounds_toArray, List.set_cons_zero, List.set_cons_succ]
            refine Reg.G_on (o := { dst := some 107, op := Op.fieldAddr 69 (Operand.tmp 6) 5, type := 0, pos := "law.go:50", after := #[{ on := 13, ground := Ground.guard }], guard := some (13, false) }) (v := ?_) (by rfl) ?_ (fun wS hSw => ?_) ?_
            rotate_left
            · kernel_rfl
            · (try dsimp only at hSw); go_simp; (try with_reducible rfl)
            try simp only [Act.put, List.setIfInBounds_toArray, List.set_cons_zero, List.set_cons_succ]
            refine Reg.G_on (o := { dst := some 108, op := Op.load 27 (Operand.tmp 107), type := 27, pos := "law.go:50", after := #[{ on := 16, ground := Ground.data }, { on := 13, ground := Ground.guard }], guard := some (13, false) }) (v := ?_) (by rfl) ?_ (fun wS hSw => ?_) ?_
            rotate_left
            · kernel_rfl
            · (try dsimp only at hSw); go_simp; (try with_reducible rfl)
            try simp only [Act.put, List.setIfInBounds_toArray, List.set_cons_zero, List.set_cons_succ]
            refine Reg.G_step (o := { dst := some 106, op := Op.call { callee := Callee.value (Operand.func 39), args := #[Operand.tmp 105], argTypes := #[59] }, type := 27, pos := "law.go:50", after := #[{ on := 14, ground := Ground.data }, { on := 13, ground := Ground.chain }, { on := 13, ground := Ground.guard }], guard := some (13, false) }) (by rfl) ?_ (fun K hK => ?_)
            · kernel_rfl
            go_simp
            refine (lost _ _ _ _ _ _ _ _ _ hHeld.1).mono ?_
            rintro e w' ⟨rfl, rfl⟩
            refine hK.out _ _ ?_ (fun hHeld => ?_)
            · exact hHeld
            clear hK K
            try simp only [Act.put, List.setIfInBounds_toArray, List.set_cons_zero, List.set_cons_succ]
            refine Reg.G_on (o := { dst := some 109, op := Op.binOp BinOp.neq 27 (Operand.tmp 106) (Operand.tmp 108) 27, type := 4, pos := "law.go:50", after := #[{ on := 15, ground := Ground.data }, { on := 17, ground := Ground.data }, { on := 13, ground := Ground.guard }], guard := some (13, false) }) (v := ?_) (by rfl) ?_ (fun wS hSw => ?_) ?_
            rotate_left
            · kernel_rfl
            · (try dsimp only at hSw); go_simp; (try with_reducible rfl)
            try simp only [Act.put, List.setIfInBounds_toArray, List.set_cons_zero, List.set_cons_succ]
            refine Reg.G_on (o := { dst := some 110, op := Op.pick (Operand.tmp 104) (Operand.const (Value.bool true)) (Operand.tmp 109), type := 4, pos := "law.go:50", after := #[{ on := 13, ground := Ground.data }, { on := 18, ground := Ground.data }], guard := Option.none }) (v := ?_) (by rfl) ?_ (fun wS hSw => ?_) ?_
            rotate_left
            · kernel_rfl
            · (try dsimp only at hSw); go_simp; (try with_reducible rfl)
            try simp only [Act.put, List.setIfInBounds_toArray, List.set_cons_zero, List.set_cons_succ]
            refine Reg.G_done ?_
            go_wp2
            go_roundw
            case rel => exact ⟨k + 1, (sl (mx z) (mx d) (mx q) s ms m), (ss (mx z) (mx q) s m), (sx (mx z) (mx d) (mx q) s x ms m), F5, _, _, by omega, by go_num, H5.drew, N5⟩
            case measure => simp [intOf]; omega
        · by_cases h2 : yk = 2
          · subst h2
            go_wp2_with fail
            have P1 := rreceive2 G (mx z) (mx d) (mx q) ms s x _ wr H.rd H.gl
            have P2 := fun w h => receive F pb (mx z) (mx d) (mx q) ms s x w h
            have N5 := HN.out.recv (by omega)
            generalize ms.tail = tl at P1 P2 N5
            generalize rm ms = rms at P1 P2
            generalize rb ms = rbs at P1 P2
            refine P1.mono ?_
            rintro e w3 ⟨A4, c4, rfl, r3, hb3⟩
            have P2 := Lib.hid P2
            clear P1
            obtain ⟨W, hW⟩ : ∃ W, W = w3.alloc (.cells #[.int .i64 (mx z), .int .i64 (mx d), .int .i64 (mx q), .slice A4 tl.length c4, .int .i64 s, .int .u64 x] 69) := ⟨_, rfl⟩
            have hbW : Below wr.heap.size wr W := by rw [hW]; exact hb3.alloc hb3.size _
            have rW : Rd Kd.string W (fun k => G k ∨ (wr.heap.size ≤ k ∧ k < w3.heap.size)) (.slice A4 tl.length c4) tl := by rw [hW]; exact r3.alloc flat_string _ (fun k hk => hk.elim (fun h => Nat.lt_of_lt_of_le (H.gl k h) hb3.size) (fun h => h.2))
            have gW : ∀ k, (G k ∨ (wr.heap.size ≤ k ∧ k < w3.heap.size)) → G k ∨ (wr.heap.size ≤ k ∧ k < W.heap.size) := fun k hk => hk.imp id (fun h => ⟨h.1, by rw [hW]; simp; omega⟩)
            have bW : ∀ o, (w3.alloc o).heap[r]? = _ := fun o => ((Below.heap_alloc _ _ _ (Nat.lt_of_lt_of_le hrl hb3.size)).trans (hb3.block r hrl)).trans H.bx
            have xx := fun o => six (bW o)
            have gg := fun o => sixf (bW o)
            have hqW := Lib.hid ((Both.ref (s' := s) (x' := x) H hbW rW gW).1)
            clear bW x0 x1 x2 x3 x4 x5 g0 g1 g2 g3 g4 g5
            go_wp2_with fail
            rw [← hW]
            refine (P2.out _ hqW.out).mono ?_
            rintro e w5 ⟨rfl, q5, m5⟩
            have H5 := H.next hbW rW gW q5 (fun k hk => .inl hk) m5
            clear hqW m5 hW xx gg
            have hsz5 := H5.be.size
            obtain ⟨_, _, _, t3, t4, t5⟩ := six H5.bx
            have Q5 := H5.qp
            go_wp2_with fail
            refine Reg.wp_plan (S := fun w' => QP w' F pb (mx z) (mx d) (mx q) tl s x ∧ w'.cell? ⟨r, 3, none⟩ = some (.slice A4 (tl).length c4) ∧ w'.cell? ⟨r, 4, none⟩ = some (.int .i64 (s)) ∧ w'.cell? ⟨r, 5, none⟩ = some (.int .u64 (x))) 20 (.fl 0 (.fl 2 (.fl 3 (.fl 4 (.one 1 (.fl 5 (.fl 6 (.fl 7 (.fl 9 (.fl 10 (.one 8 (.fl 11 (.fl 12 (.fl 13 (.fl 14 (.fl 16 (.fl 17 (.one 15 (.fl 18 (.fl 19 .done)))))))))))))))))))) (by kernel_rfl) (by kernel_rfl) (by kernel_rfl) (by kernel_rfl) (fun _ _ _ d _ h => by cases d <;> exact h) ?_ (fun hHeld => ?_)
            · exact ⟨Q5.drew, by simpa using t3, by simpa using t4, by simpa using t5⟩
            refine Reg.G_on (o := { dst := some 91, op := Op.move (Operand.tmp 5), type := 59, pos := "law.go:50", after := #[], guard := Option.none }) (v := ?_) (by rfl) ?_ (fun wS hSw => ?_) ?_
            rotate_left
            · kernel_rfl
            · (try dsimp only at hSw); go_simp; (try with_reducible rfl)
            try simp only [Act.put, List.setIfInBounds_toArray, List.set_cons_zero, List.set_cons_succ]
            refine Reg.G_on (o := { dst := some 93, op := Op.fieldAddr 69 (Operand.tmp 6) 3, type := 0, pos := "law.go:50", after := #[], guard := Option.none }) (v := ?_) (by rfl) ?_ (fun wS hSw => ?_) ?_
            rotate_left
            · kernel_rfl
            · (try dsimp only at hSw); go_simp; (try with_reducible rfl)
            try simp only [Act.put, List.setIfInBounds_toArray, List.set_cons_zero, List.set_cons_succ]
            refine Reg.G_on (o := { dst := some 94, op := Op.load 67 (Operand.tmp 93), type := 67, pos := "law.go:50", after := #[{ on := 2, ground := Ground.data }], guard := Option.none }) (v := ?_) (by rfl) ?_ (fun wS hSw => ?_) ?_
            rotate_left
            · kernel_rfl
            · (try dsimp only at hSw); go_simp; (try with_reducible rfl)
            try simp only [Act.put, List.setIfInBounds_toArray, List.set_cons_zero, List.set_cons_succ]
            refine Reg.G_on (o := { dst := some 95, op := Op.call { callee := Callee.builtin Builtin.len, args := #[Operand.tmp 94], argTypes := #[67] }, type := 3, pos := "law.go:50", after := #[{ on := 3, ground := Ground.data }], guard := Option.none }) (v := ?_) (by rfl) ?_ (fun wS hSw => ?_) ?_
            rotate_left
            · kernel_rfl
            · (try dsimp only at hSw); go_simp; (try with_reducible rfl)
            try simp only [Act.put, List.setIfInBounds_toArray, List.set_cons_zero, List.set_cons_succ]
            refine Reg.G_step (o := { dst := some 92, op := Op.call { callee := Callee.value (Operand.func 38), args := #[Operand.tmp 91], argTypes := #[59] }, type := 3, pos := "law.go:50", after := #[{ on := 0, ground := Ground.data }], guard := Option.none }) (by rfl) ?_ (fun K hK => ?_)
            · kernel_rfl
            go_simp
            refine (waits _ _ _ _ _ _ _ _ _ hHeld.1).mono ?_
            rintro e w' ⟨rfl, rfl⟩
            refine hK.out _ _ ?_ (fun hHeld => ?_)
            · exact hHeld
            clear hK K
            try simp only [Act.put, List.setIfInBounds_toArray, List.set_cons_zero, List.set_cons_succ]
            refine Reg.G_on (o := { dst := some 96, op := Op.binOp BinOp.neq 3 (Operand.tmp 92) (Operand.tmp 95) 3, type := 4, pos := "law.go:50", after := #[{ on := 1, ground := Ground.data }, { on := 4, ground := Ground.data }], guard := Option.none }) (v := ?_) (by rfl) ?_ (fun wS hSw => ?_) ?_
            rotate_left
            · kernel_rfl
            · (try dsimp only at hSw); go_simp; (try with_reducible rfl)
            try simp only [Act.put, List.setIfInBounds_toArray, List.set_cons_zero, List.set_cons_succ]
            refine Reg.G_on (o := { dst := some 97, op := Op.move (Operand.tmp 96), type := 4, pos := "law.go:50", after := #[{ on := 5, ground := Ground.data }, { on := 1, ground := Ground.chain }], guard := Option.none }) (v := ?_) (by rfl) ?_ (fun wS hSw => ?_) ?_
            rotate_left
            · kernel_rfl
            · (try dsimp only at hSw); go_simp; (try with_reducible rfl)
            try simp only [Act.put, List.setIfInBounds_toArray, List.set_cons_zero, List.set_cons_succ]
            refine Reg.G_on (o := { dst := some 98, op := Op.move (Operand.tmp 5), type := 59, pos := "law.go:50", after := #[{ on := 6, ground := Ground.guard }], guard := some (6, false) }) (v := ?_) (by rfl) ?_ (fun wS hSw => ?_) ?_
            rotate_left
            · kernel_rfl
            · (try dsimp only at hSw); go_simp; (try with_reducible rfl)
            try simp only [Act.put, List.setIfInBounds_toArray, List.set_cons_zero, List.set_cons_succ]
            refine Reg.G_on (o := { dst := some 100, op := Op.fieldAddr 69 (Operand.tmp 6) 4, type := 0, pos := "law.go:50", after := #[{ on := 6, ground := Ground.guard }], guard := some (6, false) }) (v := ?_) (by rfl) ?_ (fun wS hSw => ?_) ?_
            rotate_left
            · kernel_rfl
            · (try dsimp only at hSw); go_simp; (try with_reducible rfl)
            try simp only [Act.put, List.setIfInBounds_toArray, List.set_cons_zero, List.set_cons_succ]
            refine Reg.G_on (o := { dst := some 101, op := Op.load 3 (Operand.tmp 100), type := 3, pos := "law.go:50", after := #[{ on := 9, ground := Ground.data }, { on := 6, ground := Ground.guard }], guard := some (6, false) }) (v := ?_) (by rfl) ?_ (fun wS hSw => ?_) ?_
            rotate_left
            · kernel_rfl
            · (try dsimp only at hSw); go_simp; (try with_reducible rfl)
            try simp only [Act.put, List.setIfInBounds_toArray, List.set_cons_zero, List.set_cons_succ]
            refine Reg.G_step (o := { dst := some 99, op := Op.call { callee := Callee.value (Operand.func 33), args := #[Operand.tmp 98], argTypes := #[59] }, type := 3, pos := "law.go:50", after := #[{ on := 7, ground := Ground.data }, { on := 6, ground := Ground.chain }, { on := 6, ground := Ground.guard }], guard := some (6, false) }) (by rfl) ?_ (fun K hK => ?_)
            · kernel_rfl
            go_simp
            refine (sent _ _ _ _ _ _ _ _ _ hHeld.1).mono ?_
            rintro e w' ⟨rfl, rfl⟩
            refine hK.out _ _ ?_ (fun hHeld => ?_)
            · exact hHeld
            clear hK K
            try simp only [Act.put, List.setIfInBounds_toArray, List.set_cons_zero, List.set_cons_succ]
            refine Reg.G_on (o := { dst := some 102, op := Op.binOp BinOp.neq 3 (Operand.tmp 99) (Operand.tmp 101) 3, type := 4, pos := "law.go:50", after := #[{ on := 8, ground := Ground.data }, { on := 10, ground := Ground.data }, { on := 6, ground := Ground.guard }], guard := some (6, false) }) (v := ?_) (by rfl) ?_ (fun wS hSw => ?_) ?_
            rotate_left
            · kernel_rfl
            · (try dsimp only at hSw); go_simp; (try with_reducible rfl)
            try simp only [Act.put, List.setIfInBounds_toArray, List.set_cons_zero, List.set_cons_succ]
            refine Reg.G_on (o := { dst := some 103, op := Op.pick (Operand.tmp 97) (Operand.const (Value.bool true)) (Operand.tmp 102), type := 4, pos := "law.go:50", after := #[{ on := 6, ground := Ground.data }, { on := 11, ground := Ground.data }], guard := Option.none }) (v := ?_) (by rfl) ?_ (fun wS hSw => ?_) ?_
            rotate_left
            · kernel_rfl
            · (try dsimp only at hSw); go_simp; (try with_reducible rfl)
            try simp only [Act.put, List.setIfInBounds_toArray, List.set_cons_zero, List.set_cons_succ]
            refine Reg.G_on (o := { dst := some 104, op := Op.move (Operand.tmp 103), type := 4, pos := "law.go:50", after := #[{ on := 12, ground := Ground.data }, { on := 8, ground := Ground.chain }], guard := Option.none }) (v := ?_) (by rfl) ?_ (fun wS hSw => ?_) ?_
            rotate_left
            · kernel_rfl
            · (try dsimp only at hSw); go_simp; (try with_reducible rfl)
            try simp only [Act.put, List.setIfInBounds_toArray, List.set_cons_zero, List.set_cons_succ]
            refine Reg.G_on (o := { dst := some 105, op := Op.move (Operand.tmp 5), type := 59, pos := "law.go:50", after := #[{ on := 13, ground := Ground.guard }], guard := some (13, false) }) (v := ?_) (by rfl) ?_ (fun wS hSw => ?_) ?_
            rotate_left
            · kernel_rfl
            · (try dsimp only at hSw); go_simp; (try with_reducible rfl)
            try simp only [Act.put, List.setIfInBounds_toArray, List.set_cons_zero, List.set_cons_succ]
            refine Reg.G_on (o := { dst := some 107, op := Op.fieldAddr 69 (Operand.tmp 6) 5, type := 0, pos := "law.go:50", after := #[{ on := 13, ground := Ground.guard }], guard := some (13, false) }) (v := ?_) (by rfl) ?_ (fun wS hSw => ?_) ?_
            rotate_left
            · kernel_rfl
            · (try dsimp only at hSw); go_simp; (try with_reducible rfl)
            try simp only [Act.put, List.setIfInBounds_toArray, List.set_cons_zero, List.set_cons_succ]
            refine Reg.G_on (o := { dst := some 108, op := Op.load 27 (Operand.tmp 107), type := 27, pos := "law.go:50", after := #[{ on := 16, ground := Ground.data }, { on := 13, ground := Ground.guard }], guard := some (13, false) }) (v := ?_) (by rfl) ?_ (fun wS hSw => ?_) ?_
            rotate_left
            · kernel_rfl
            · (try dsimp only at hSw); go_simp; (try with_reducible rfl)
            try simp only [Act.put, List.setIfInBounds_toArray, List.set_cons_zero, List.set_cons_succ]
            refine Reg.G_step (o := { dst := some 106, op := Op.call { callee := Callee.value (Operand.func 39), args := #[Operand.tmp 105], argTypes := #[59] }, type := 27, pos := "law.go:50", after := #[{ on := 14, ground := Ground.data }, { on := 13, ground := Ground.chain }, { on := 13, ground := Ground.guard }], guard := some (13, false) }) (by rfl) ?_ (fun K hK => ?_)
            · kernel_rfl
            go_simp
            refine (lost _ _ _ _ _ _ _ _ _ hHeld.1).mono ?_
            rintro e w' ⟨rfl, rfl⟩
            refine hK.out _ _ ?_ (fun hHeld => ?_)
            · exact hHeld
            clear hK K
            try simp only [Act.put, List.setIfInBounds_toArray, List.set_cons_zero, List.set_cons_succ]
            refine Reg.G_on (o := { dst := some 109, op := Op.binOp BinOp.neq 27 (Operand.tmp 106) (Operand.tmp 108) 27, type := 4, pos := "law.go:50", after := #[{ on := 15, ground := Ground.data }, { on := 17, ground := Ground.data }, { on := 13, ground := Ground.guard }], guard := some (13, false) }) (v := ?_) (by rfl) ?_ (fun wS hSw => ?_) ?_
            rotate_left
            · kernel_rfl
            · (try dsimp only at hSw); go_simp; (try with_reducible rfl)
            try simp only [Act.put, List.setIfInBounds_toArray, List.set_cons_zero, List.set_cons_succ]
            refine Reg.G_on (o := { dst := some 110, op := Op.pick (Operand.tmp 104) (Operand.const (Value.bool true)) (Operand.tmp 109), type := 4, pos := "law.go:50", after := #[{ on := 13, ground := Ground.data }, { on := 18, ground := Ground.data }], guard := Option.none }) (v := ?_) (by rfl) ?_ (fun wS hSw => ?_) ?_
            rotate_left
            · kernel_rfl
            · (try dsimp only at hSw); go_simp; (try with_reducible rfl)
            try simp only [Act.put, List.setIfInBounds_toArray, List.set_cons_zero, List.set_cons_succ]
            refine Reg.G_done ?_
            go_wp2
            go_roundw
            case rel => exact ⟨k + 1, tl, s, x, F, _, _, by omega, by go_num, H5.drew, N5⟩
            case measure => simp [intOf]; omega
          · have h1b : (yk == 1) = false := by simpa using h1
            have h2b : (yk == 2) = false := by simpa using h2
            go_wp2_with fail
            refine (frame F pb _ _ _ ms s x _ H.qp).mono ?_
            rintro e w3 ⟨rfl, q3, m3⟩
            have H5 := H.frame q3 m3
            have N5 := HN.out.frame (by omega)
            have bW : w3.heap[r]? = _ := (m3.block r hrl (fun hf => (H.fg r hf).2 rfl)).trans H.bx
            obtain ⟨x0, x1, x2, x3, x4, x5⟩ := six bW
            obtain ⟨g0, g1, g2, g3, g4, g5⟩ := sixf bW
            have hsz5 := H5.be.size
            obtain ⟨_, _, _, t3, t4, t5⟩ := six H5.bx
            have Q5 := H5.qp
            go_wp2_with fail
            refine Reg.wp_plan (S := fun w' => QP w' F pb (mx z) (mx d) (mx q) ms 0 x ∧ w'.cell? ⟨r, 3, none⟩ = some (.slice A3 (ms).length c3) ∧ w'.cell? ⟨r, 4, none⟩ = some (.int .i64 (0)) ∧ w'.cell? ⟨r, 5, none⟩ = some (.int .u64 (x))) 20 (.fl 0 (.fl 2 (.fl 3 (.fl 4 (.one 1 (.fl 5 (.fl 6 (.fl 7 (.fl 9 (.fl 10 (.one 8 (.fl 11 (.fl 12 (.fl 13 (.fl 14 (.fl 16 (.fl 17 (.one 15 (.fl 18 (.fl 19 .done)))))))))))))))))))) (by kernel_rfl) (by kernel_rfl) (by kernel_rfl) (by kernel_rfl) (fun _ _ _ d _ h => by cases d <;> exact h) ?_ (fun hHeld => ?_)
            · exact ⟨Q5.drew, by simpa using t3, by simpa using t4, by simpa using t5⟩
            refine Reg.G_on (o := { dst := some 91, op := Op.move (Operand.tmp 5), type := 59, pos := "law.go:50", after := #[], guard := Option.none }) (v := ?_) (by rfl) ?_ (fun wS hSw => ?_) ?_
            rotate_left
            · kernel_rfl
            · (try dsimp only at hSw); go_simp; (try with_reducible rfl)
            try simp only [Act.put, List.setIfInBounds_toArray, List.set_cons_zero, List.set_cons_succ]
            refine Reg.G_on (o := { dst := some 93, op := Op.fieldAddr 69 (Operand.tmp 6) 3, type := 0, pos := "law.go:50", after := #[], guard := Option.none }) (v := ?_) (by rfl) ?_ (fun wS hSw => ?_) ?_
            rotate_left
            · kernel_rfl
            · (try dsimp only at hSw); go_simp; (try with_reducible rfl)
            try simp only [Act.put, List.setIfInBounds_toArray, List.set_cons_zero, List.set_cons_succ]
            refine Reg.G_on (o := { dst := some 94, op := Op.load 67 (Operand.tmp 93), type := 67, pos := "law.go:50", after := #[{ on := 2, ground := Ground.data }], guard := Option.none }) (v := ?_) (by rfl) ?_ (fun wS hSw => ?_) ?_
            rotate_left
            · kernel_rfl
            · (try dsimp only at hSw); go_simp; (try with_reducible rfl)
            try simp only [Act.put, List.setIfInBounds_toArray, List.set_cons_zero, List.set_cons_succ]
            refine Reg.G_on (o := { dst := some 95, op := Op.call { callee := Callee.builtin Builtin.len, args := #[Operand.tmp 94], argTypes := #[67] }, type := 3, pos := "law.go:50", after := #[{ on := 3, ground := Ground.data }], guard := Option.none }) (v := ?_) (by rfl) ?_ (fun wS hSw => ?_) ?_
            rotate_left
            · kernel_rfl
            · (try dsimp only at hSw); go_simp; (try with_reducible rfl)
            try simp only [Act.put, List.setIfInBounds_toArray, List.set_cons_zero, List.set_cons_succ]
            refine Reg.G_step (o := { dst := some 92, op := Op.call { callee := Callee.value (Operand.func 38), args := #[Operand.tmp 91], argTypes := #[59] }, type := 3, pos := "law.go:50", after := #[{ on := 0, ground := Ground.data }], guard := Option.none }) (by rfl) ?_ (fun K hK => ?_)
            · kernel_rfl
            go_simp
            refine (waits _ _ _ _ _ _ _ _ _ hHeld.1).mono ?_
            rintro e w' ⟨rfl, rfl⟩
            refine hK.out _ _ ?_ (fun hHeld => ?_)
            · exact hHeld
            clear hK K
            try simp only [Act.put, List.setIfInBounds_toArray, List.set_cons_zero, List.set_cons_succ]
            refine Reg.G_on (o := { dst := some 96, op := Op.binOp BinOp.neq 3 (Operand.tmp 92) (Operand.tmp 95) 3, type := 4, pos := "law.go:50", after := #[{ on := 1, ground := Ground.data }, { on := 4, ground := Ground.data }], guard := Option.none }) (v := ?_) (by rfl) ?_ (fun wS hSw => ?_) ?_
            rotate_left
            · kernel_rfl
            · (try dsimp only at hSw); go_simp; (try with_reducible rfl)
            try simp only [Act.put, List.setIfInBounds_toArray, List.set_cons_zero, List.set_cons_succ]
            refine Reg.G_on (o := { dst := some 97, op := Op.move (Operand.tmp 96), type := 4, pos := "law.go:50", after := #[{ on := 5, ground := Ground.data }, { on := 1, ground := Ground.chain }], guard := Option.none }) (v := ?_) (by rfl) ?_ (fun wS hSw => ?_) ?_
            rotate_left
            · kernel_rfl
            · (try dsimp only at hSw); go_simp; (try with_reducible rfl)
            try simp only [Act.put, List.setIfInBounds_toArray, List.set_cons_zero, List.set_cons_succ]
            refine Reg.G_on (o := { dst := some 98, op := Op.move (Operand.tmp 5), type := 59, pos := "law.go:50", after := #[{ on := 6, ground := Ground.guard }], guard := some (6, false) }) (v := ?_) (by rfl) ?_ (fun wS hSw => ?_) ?_
            rotate_left
            · kernel_rfl
            · (try dsimp only at hSw); go_simp; (try with_reducible rfl)
            try simp only [Act.put, List.setIfInBounds_toArray, List.set_cons_zero, List.set_cons_succ]
            refine Reg.G_on (o := { dst := some 100, op := Op.fieldAddr 69 (Operand.tmp 6) 4, type := 0, pos := "law.go:50", after := #[{ on := 6, ground := Ground.guard }], guard := some (6, false) }) (v := ?_) (by rfl) ?_ (fun wS hSw => ?_) ?_
            rotate_left
            · kernel_rfl
            · (try dsimp only at hSw); go_simp; (try with_reducible rfl)
            try simp only [Act.put, List.setIfInBounds_toArray, List.set_cons_zero, List.set_cons_succ]
            refine Reg.G_on (o := { dst := some 101, op := Op.load 3 (Operand.tmp 100), type := 3, pos := "law.go:50", after := #[{ on := 9, ground := Ground.data }, { on := 6, ground := Ground.guard }], guard := some (6, false) }) (v := ?_) (by rfl) ?_ (fun wS hSw => ?_) ?_
            rotate_left
            · kernel_rfl
            · (try dsimp only at hSw); go_simp; (try with_reducible rfl)
            try simp only [Act.put, List.setIfInBounds_toArray, List.set_cons_zero, List.set_cons_succ]
            refine Reg.G_step (o := { dst := some 99, op := Op.call { callee := Callee.value (Operand.func 33), args := #[Operand.tmp 98], argTypes := #[59] }, type := 3, pos := "law.go:50", after := #[{ on := 7, ground := Ground.data }, { on := 6, ground := Ground.chain }, { on := 6, ground := Ground.guard }], guard := some (6, false) }) (by rfl) ?_ (fun K hK => ?_)
            · kernel_rfl
            go_simp
            refine (sent _ _ _ _ _ _ _ _ _ hHeld.1).mono ?_
            rintro e w' ⟨rfl, rfl⟩
            refine hK.out _ _ ?_ (fun hHeld => ?_)
            · exact hHeld
            clear hK K
            try simp only [Act.put, List.setIfInBounds_toArray, List.set_cons_zero, List.set_cons_succ]
            refine Reg.G_on (o := { dst := some 102, op := Op.binOp BinOp.neq 3 (Operand.tmp 99) (Operand.tmp 101) 3, type := 4, pos := "law.go:50", after := #[{ on := 8, ground := Ground.data }, { on := 10, ground := Ground.data }, { on := 6, ground := Ground.guard }], guard := some (6, false) }) (v := ?_) (by rfl) ?_ (fun wS hSw => ?_) ?_
            rotate_left
            · kernel_rfl
            · (try dsimp only at hSw); go_simp; (try with_reducible rfl)
            try simp only [Act.put, List.setIfInBounds_toArray, List.set_cons_zero, List.set_cons_succ]
            refine Reg.G_on (o := { dst := some 103, op := Op.pick (Operand.tmp 97) (Operand.const (Value.bool true)) (Operand.tmp 102), type := 4, pos := "law.go:50", after := #[{ on := 6, ground := Ground.data }, { on := 11, ground := Ground.data }], guard := Option.none }) (v := ?_) (by rfl) ?_ (fun wS hSw => ?_) ?_
            rotate_left
            · kernel_rfl
            · (try dsimp only at hSw); go_simp; (try with_reducible rfl)
            try simp only [Act.put, List.setIfInBounds_toArray, List.set_cons_zero, List.set_cons_succ]
            refine Reg.G_on (o := { dst := some 104, op := Op.move (Operand.tmp 103), type := 4, pos := "law.go:50", after := #[{ on := 12, ground := Ground.data }, { on := 8, ground := Ground.chain }], guard := Option.none }) (v := ?_) (by rfl) ?_ (fun wS hSw => ?_) ?_
            rotate_left
            · kernel_rfl
            · (try dsimp only at hSw); go_simp; (try with_reducible rfl)
            try simp only [Act.put, List.setIfInBounds_toArray, List.set_cons_zero, List.set_cons_succ]
            refine Reg.G_on (o := { dst := some 105, op := Op.move (Operand.tmp 5), type := 59, pos := "law.go:50", after := #[{ on := 13, ground := Ground.guard }], guard := some (13, false) }) (v := ?_) (by rfl) ?_ (fun wS hSw => ?_) ?_
            rotate_left
            · kernel_rfl
            · (try dsimp only at hSw); go_simp; (try with_reducible rfl)
            try simp only [Act.put, List.setIfInBounds_toArray, List.set_cons_zero, List.set_cons_succ]
            refine Reg.G_on (o := { dst := some 107, op := Op.fieldAddr 69 (Operand.tmp 6) 5, type := 0, pos := "law.go:50", after := #[{ on := 13, ground := Ground.guard }], guard := some (13, false) }) (v := ?_) (by rfl) ?_ (fun wS hSw => ?_) ?_
            rotate_left
            · kernel_rfl
            · (try dsimp only at hSw); go_simp; (try with_reducible rfl)
            try simp only [Act.put, List.setIfInBounds_toArray, List.set_cons_zero, List.set_cons_succ]
            refine Reg.G_on (o := { dst := some 108, op := Op.load 27 (Operand.tmp 107), type := 27, pos := "law.go:50", after := #[{ on := 16, ground := Ground.data }, { on := 13, ground := Ground.guard }], guard := some (13, false) }) (v := ?_) (by rfl) ?_ (fun wS hSw => ?_) ?_
            rotate_left
            · kernel_rfl
            · (try dsimp only at hSw); go_simp; (try with_reducible rfl)
            try simp only [Act.put, List.setIfInBounds_toArray, List.set_cons_zero, List.set_cons_succ]
            refine Reg.G_step (o := { dst := some 106, op := Op.call { callee := Callee.value (Operand.func 39), args := #[Operand.tmp 105], argTypes := #[59] }, type := 27, pos := "law.go:50", after := #[{ on := 14, ground := Ground.data }, { on := 13, ground := Ground.chain }, { on := 13, ground := Ground.guard }], guard := some (13, false) }) (by rfl) ?_ (fun K hK => ?_)
            · kernel_rfl
            go_simp
            refine (lost _ _ _ _ _ _ _ _ _ hHeld.1).mono ?_
            rintro e w' ⟨rfl, rfl⟩
            refine hK.out _ _ ?_ (fun hHeld => ?_)
            · exact hHeld
            clear hK K
            try simp only [Act.put, List.setIfInBounds_toArray, List.set_cons_zero, List.set_cons_succ]
            refine Reg.G_on (o := { dst := some 109, op := Op.binOp BinOp.neq 27 (Operand.tmp 106) (Operand.tmp 108) 27, type := 4, pos := "law.go:50", after := #[{ on := 15, ground := Ground.data }, { on := 17, ground := Ground.data }, { on := 13, ground := Ground.guard }], guard := some (13, false) }) (v := ?_) (by rfl) ?_ (fun wS hSw => ?_) ?_
            rotate_left
            · kernel_rfl
            · (try dsimp only at hSw); go_simp; (try with_reducible rfl)
            try simp only [Act.put, List.setIfInBounds_toArray, List.set_cons_zero, List.set_cons_succ]
            refine Reg.G_on (o := { dst := some 110, op := Op.pick (Operand.tmp 104) (Operand.const (Value.bool true)) (Operand.tmp 109), type := 4, pos := "law.go:50", after := #[{ on := 13, ground := Ground.data }, { on := 18, ground := Ground.data }], guard := Option.none }) (v := ?_) (by rfl) ?_ (fun wS hSw => ?_) ?_
            rotate_left
            · kernel_rfl
            · (try dsimp only at hSw); go_simp; (try with_reducible rfl)
            try simp only [Act.put, List.setIfInBounds_toArray, List.set_cons_zero, List.set_cons_succ]
            refine Reg.G_done ?_
            go_wp2
            go_roundw
            case rel => exact ⟨k + 1, ms, 0, x, F, _, _, by omega, by go_num, H5.drew, N5⟩
            case measure => simp [intOf]; omega
      · go_wp2_with fail
        refine (awake _).mono ?_
        rintro e w' ⟨rfl, hb2⟩
        go_wp2
        go_ret
        exact ⟨rfl, H.be.trans (hb2.mono H.be.size)⟩
end Go.Proofs.Ytkijeknopnjamaa.Queuing
