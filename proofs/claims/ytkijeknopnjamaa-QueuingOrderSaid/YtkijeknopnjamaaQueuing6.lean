import Derived.Test.YtkijeknopnjamaaQueuing4
set_option linter.unusedVariables false
set_option linter.unusedSimpArgs false
namespace Go.Proofs.Ytkijeknopnjamaa.Queuing
open Go.RowKit Base Sp Flat Go.Proofs.YtkijeknopnjamaaW.PrintWords
theorem Nums.recv0 {k : Nat} {d q : Int} {l : List ByteArray} {s x : Int} (h : Nums k d q l s x) : Nums k d q l.tail s x := by
  obtain ⟨h1, h2, h3, h4, h5, h6⟩ := h
  exact ⟨by rw [List.length_tail]; omega, by rw [List.length_tail]; omega, h3, h4, h5, h6⟩
theorem Nums.more {k : Nat} {d q : Int} {l : List ByteArray} {s x : Int} (h : Nums k d q l s x) (hk : k < 300) : Nums (k + 1) d q l s x := by
  obtain ⟨h1, h2, h3, h4, h5, h6⟩ := h
  exact ⟨h1, by omega, h3, h4, by omega, by omega⟩
theorem mxge (n : Int) : 0 ≤ mx n := by unfold mx; split <;> omega
theorem mxle (n : Int) (h : n < 9223372036854775808) : mx n < 9223372036854775808 := by unfold mx; split <;> omega
theorem code_same (z q s : Int) (m : ByteArray) : (code z q s m != code z q s m) = false := by simp
set_option maxRecDepth 20000 in
set_option maxHeartbeats 4000000 in
theorem blind (z d q : Int) (A : Option Addr) (c : Nat) (l : List (Int × ByteArray)) (B : Option Addr) (cb : Nat) (bs : List Bool) (w : World) (hC : Kd.C kq w A l.length l) (hB : Kd.C Kd.bool w B bs.length bs) (hq : q < 9223372036854775808) :
    Calls Try.prog 7 #[.agg #[.int .i64 z, .int .i64 d, .int .i64 q], .slice A l.length c, .slice B bs.length cb] w fun e w' => e = .returned (.bool true) ∧ Below w.heap.size w w' := by
  by_cases hbig : 300 < l.length
  · go_enter Try.func7, Try.ntmps7
    go_wp2_with fail
    refine (awake _).mono ?_
    rintro e w' ⟨rfl, hb⟩
    go_wp2
    go_ret
    exact ⟨rfl, ((Below.refl _ _).alloc (Nat.le_refl _) _).trans (hb.mono (by simp))⟩
  · have HQ := Lib.hid (mxle q hq)
    have hd0 := mxge d
    clear hq
    obtain ⟨W0, hW0⟩ : ∃ W0, W0 = w.alloc (.cells #[.int .i64 z, .int .i64 d, .int .i64 q] 56) := ⟨_, rfl⟩
    have b0 : Below w.heap.size w W0 := by rw [hW0]; exact (Below.refl _ _).alloc (Nat.le_refl _) _
    have s0 : w.heap.size < W0.heap.size := by rw [hW0]; simp
    have hne0 : ¬ (w.heap.size = W0.drew.heap.size) := Nat.ne_of_lt s0
    have e0 : W0.cell? ⟨w.heap.size, 0, none⟩ = some (.int .i64 z) := by rw [hW0]; simp
    have e1 : W0.cell? ⟨w.heap.size, 1, none⟩ = some (.int .i64 d) := by rw [hW0]; simp
    have e2 : W0.cell? ⟨w.heap.size, 2, none⟩ = some (.int .i64 q) := by rw [hW0]; simp
    go_enter Try.func7, Try.ntmps7
    go_wp2_with fail
    rw [← hW0]
    clear hW0
    refine Reg.wp_plan (S := fun w' => w'.cell? ⟨w.heap.size, 0, none⟩ = some (.int .i64 z) ∧ w'.cell? ⟨w.heap.size, 1, none⟩ = some (.int .i64 d) ∧ w'.cell? ⟨w.heap.size, 2, none⟩ = some (.int .i64 q)) 16 (.fl 0 (.fl 1 (.fl 2 (.fl 3 (.fl 4 (.fl 5 (.fl 7 (.fl 8 (.fl 9 (.fl 10 (.fl 11 (.fl 12 (.one 6 (.one 13 (.fl 14 (.fl 15 .done)))))))))))))))) (by kernel_rfl) (by kernel_rfl) (by kernel_rfl) (by kernel_rfl) (fun _ _ _ d _ h => by cases d <;> exact h) ?_ (fun hHeld => ?_)
    · exact ⟨by simpa using e0, by simpa using e1, by simpa using e2⟩
    refine Reg.G_on (o := { dst := some 14, op := Op.indexAddr 56 (Operand.tmp 3) (Operand.const (Value.int IntKind.i64 0)), type := 0, pos := "law.go:62", after := #[], guard := Option.none }) (v := ?_) (by rfl) ?_ (fun wS hSw => ?_) ?_
    rotate_left
    · kernel_rfl
    · (try dsimp only at hSw); go_simp; (try with_reducible rfl)
    try simp only [Act.put, List.setIfInBounds_toArray, List.set_cons_zero, List.set_cons_succ]
    refine Reg.G_on (o := { dst := some 15, op := Op.load 3 (Operand.tmp 14), type := 3, pos := "law.go:62", after := #[{ on := 0, ground := Ground.data }], guard := Option.none }) (v := ?_) (by rfl) ?_ (fun wS hSw => ?_) ?_
    rotate_left
    · kernel_rfl
    · (try dsimp only at hSw); go_simp; (try with_reducible rfl)
    try simp only [Act.put, List.setIfInBounds_toArray, List.set_cons_zero, List.set_cons_succ]
    refine Reg.G_on (o := { dst := some 16, op := Op.indexAddr 56 (Operand.tmp 3) (Operand.const (Value.int IntKind.i64 1)), type := 0, pos := "law.go:62", after := #[], guard := Option.none }) (v := ?_) (by rfl) ?_ (fun wS hSw => ?_) ?_
    rotate_left
    · kernel_rfl
    · (try dsimp only at hSw); go_simp; (try with_reducible rfl)
    try simp only [Act.put, List.setIfInBounds_toArray, List.set_cons_zero, List.set_cons_succ]
    refine Reg.G_on (o := { dst := some 17, op := Op.load 3 (Operand.tmp 16), type := 3, pos := "law.go:62", after := #[{ on := 2, ground := Ground.data }], guard := Option.none }) (v := ?_) (by rfl) ?_ (fun wS hSw => ?_) ?_
    rotate_left
    · kernel_rfl
    · (try dsimp only at hSw); go_simp; (try with_reducible rfl)
    try simp only [Act.put, List.setIfInBounds_toArray, List.set_cons_zero, List.set_cons_succ]
    refine Reg.G_on (o := { dst := some 18, op := Op.indexAddr 56 (Operand.tmp 3) (Operand.const (Value.int IntKind.i64 2)), type := 0, pos := "law.go:62", after := #[], guard := Option.none }) (v := ?_) (by rfl) ?_ (fun wS hSw => ?_) ?_
    rotate_left
    · kernel_rfl
    · (try dsimp only at hSw); go_simp; (try with_reducible rfl)
    try simp only [Act.put, List.setIfInBounds_toArray, List.set_cons_zero, List.set_cons_succ]
    refine Reg.G_on (o := { dst := some 19, op := Op.load 3 (Operand.tmp 18), type := 3, pos := "law.go:62", after := #[{ on := 4, ground := Ground.data }], guard := Option.none }) (v := ?_) (by rfl) ?_ (fun wS hSw => ?_) ?_
    rotate_left
    · kernel_rfl
    · (try dsimp only at hSw); go_simp; (try with_reducible rfl)
    try simp only [Act.put, List.setIfInBounds_toArray, List.set_cons_zero, List.set_cons_succ]
    refine Reg.G_on (o := { dst := some 21, op := Op.indexAddr 56 (Operand.tmp 3) (Operand.const (Value.int IntKind.i64 0)), type := 0, pos := "law.go:62", after := #[], guard := Option.none }) (v := ?_) (by rfl) ?_ (fun wS hSw => ?_) ?_
    rotate_left
    · kernel_rfl
    · (try dsimp only at hSw); go_simp; (try with_reducible rfl)
    try simp only [Act.put, List.setIfInBounds_toArray, List.set_cons_zero, List.set_cons_succ]
    refine Reg.G_on (o := { dst := some 22, op := Op.load 3 (Operand.tmp 21), type := 3, pos := "law.go:62", after := #[{ on := 7, ground := Ground.data }], guard := Option.none }) (v := ?_) (by rfl) ?_ (fun wS hSw => ?_) ?_
    rotate_left
    · kernel_rfl
    · (try dsimp only at hSw); go_simp; (try with_reducible rfl)
    try simp only [Act.put, List.setIfInBounds_toArray, List.set_cons_zero, List.set_cons_succ]
    refine Reg.G_on (o := { dst := some 23, op := Op.indexAddr 56 (Operand.tmp 3) (Operand.const (Value.int IntKind.i64 1)), type := 0, pos := "law.go:62", after := #[], guard := Option.none }) (v := ?_) (by rfl) ?_ (fun wS hSw => ?_) ?_
    rotate_left
    · kernel_rfl
    · (try dsimp only at hSw); go_simp; (try with_reducible rfl)
    try simp only [Act.put, List.setIfInBounds_toArray, List.set_cons_zero, List.set_cons_succ]
    refine Reg.G_on (o := { dst := some 24, op := Op.load 3 (Operand.tmp 23), type := 3, pos := "law.go:62", after := #[{ on := 9, ground := Ground.data }], guard := Option.none }) (v := ?_) (by rfl) ?_ (fun wS hSw => ?_) ?_
    rotate_left
    · kernel_rfl
    · (try dsimp only at hSw); go_simp; (try with_reducible rfl)
    try simp only [Act.put, List.setIfInBounds_toArray, List.set_cons_zero, List.set_cons_succ]
    refine Reg.G_on (o := { dst := some 25, op := Op.indexAddr 56 (Operand.tmp 3) (Operand.const (Value.int IntKind.i64 2)), type := 0, pos := "law.go:62", after := #[], guard := Option.none }) (v := ?_) (by rfl) ?_ (fun wS hSw => ?_) ?_
    rotate_left
    · kernel_rfl
    · (try dsimp only at hSw); go_simp; (try with_reducible rfl)
    try simp only [Act.put, List.setIfInBounds_toArray, List.set_cons_zero, List.set_cons_succ]
    refine Reg.G_on (o := { dst := some 26, op := Op.load 3 (Operand.tmp 25), type := 3, pos := "law.go:62", after := #[{ on := 11, ground := Ground.data }], guard := Option.none }) (v := ?_) (by rfl) ?_ (fun wS hSw => ?_) ?_
    rotate_left
    · kernel_rfl
    · (try dsimp only at hSw); go_simp; (try with_reducible rfl)
    try simp only [Act.put, List.setIfInBounds_toArray, List.set_cons_zero, List.set_cons_succ]
    refine Reg.G_step (o := { dst := some 20, op := Op.call { callee := Callee.value (Operand.func 30), args := #[Operand.tmp 15, Operand.tmp 17, Operand.tmp 19], argTypes := #[3, 3, 3] }, type := 59, pos := "law.go:62", after := #[{ on := 1, ground := Ground.data }, { on := 3, ground := Ground.data }, { on := 5, ground := Ground.data }], guard := Option.none }) (by rfl) ?_ (fun K hK => ?_)
    · kernel_rfl
    go_simp
    refine (new_at z d q w _ _ b0.drew (Nat.le_of_lt s0)).mono ?_
    rintro e w' ⟨rfl, q1, b1, m1, s1⟩
    refine hK.out _ _ ?_ (fun hHeld => ?_)
    · exact ⟨m1.cell hHeld.1 hne0, m1.cell hHeld.2.1 hne0, m1.cell hHeld.2.2 hne0⟩
    clear hK K
    try simp only [Act.put, List.setIfInBounds_toArray, List.set_cons_zero, List.set_cons_succ]
    rename World => w1
    have s1' : W0.heap.size < w1.heap.size := s1
    have hne1 : ¬ (w.heap.size = w1.heap.size) := by omega
    skip
    refine Reg.G_step (o := { dst := some 27, op := Op.call { callee := Callee.value (Operand.func 30), args := #[Operand.tmp 22, Operand.tmp 24, Operand.tmp 26], argTypes := #[3, 3, 3] }, type := 59, pos := "law.go:62", after := #[{ on := 8, ground := Ground.data }, { on := 10, ground := Ground.data }, { on := 12, ground := Ground.data }, { on := 6, ground := Ground.chain }], guard := Option.none }) (by rfl) ?_ (fun K hK => ?_)
    · kernel_rfl
    go_simp
    refine (new_at z d q w _ _ b1 (by omega)).mono ?_
    rintro e w' ⟨rfl, q2, b2, m2, s2⟩
    refine hK.out _ _ ?_ (fun hHeld => ?_)
    · exact ⟨m2.cell hHeld.1 hne1, m2.cell hHeld.2.1 hne1, m2.cell hHeld.2.2 hne1⟩
    clear hK K
    try simp only [Act.put, List.setIfInBounds_toArray, List.set_cons_zero, List.set_cons_succ]
    rename World => w2
    refine Reg.G_on (o := { dst := some 7, op := Op.assign (Operand.tmp 20), type := 59, pos := "law.go:62", after := #[{ on := 6, ground := Ground.data }, { on := 13, ground := Ground.chain }, { on := 0, ground := Ground.phase }, { on := 1, ground := Ground.phase }, { on := 2, ground := Ground.phase }, { on := 3, ground := Ground.phase }, { on := 4, ground := Ground.phase }, { on := 5, ground := Ground.phase }, { on := 6, ground := Ground.phase }, { on := 7, ground := Ground.textOnly Departure.lateStores }, { on := 8, ground := Ground.textOnly Departure.lateStores }, { on := 9, ground := Ground.textOnly Departure.lateStores }, { on := 10, ground := Ground.textOnly Departure.lateStores }, { on := 11, ground := Ground.textOnly Departure.lateStores }, { on := 12, ground := Ground.textOnly Departure.lateStores }, { on := 13, ground := Ground.textOnly Departure.lateStoresUnsure }], guard := Option.none }) (v := ?_) (by rfl) ?_ (fun wS hSw => ?_) ?_
    rotate_left
    · kernel_rfl
    · (try dsimp only at hSw); go_simp; (try with_reducible rfl)
    try simp only [Act.put, List.setIfInBounds_toArray, List.set_cons_zero, List.set_cons_succ]
    refine Reg.G_on (o := { dst := some 8, op := Op.assign (Operand.tmp 27), type := 59, pos := "law.go:62", after := #[{ on := 13, ground := Ground.data }, { on := 14, ground := Ground.chain }, { on := 0, ground := Ground.phase }, { on := 1, ground := Ground.phase }, { on := 2, ground := Ground.phase }, { on := 3, ground := Ground.phase }, { on := 4, ground := Ground.phase }, { on := 5, ground := Ground.phase }, { on := 6, ground := Ground.phase }, { on := 7, ground := Ground.phase }, { on := 8, ground := Ground.phase }, { on := 9, ground := Ground.phase }, { on := 10, ground := Ground.phase }, { on := 11, ground := Ground.phase }, { on := 12, ground := Ground.phase }, { on := 13, ground := Ground.phase }, { on := 14, ground := Ground.phase }], guard := Option.none }) (v := ?_) (by rfl) ?_ (fun wS hSw => ?_) ?_
    rotate_left
    · kernel_rfl
    · (try dsimp only at hSw); go_simp; (try with_reducible rfl)
    try simp only [Act.put, List.setIfInBounds_toArray, List.set_cons_zero, List.set_cons_succ]
    refine Reg.G_done ?_
    have q1' : QP w2 (fun k => k = W0.heap.size) W0.heap.size (mx z) (mx d) (mx q) [] 0 0 := q1.far m2 (fun k hk he => by have hk : k = W0.heap.size := hk; have he : k = w1.heap.size := he; omega)
    clear hHeld q1 m1 m2 s1 hne0 hne1
    have dj : ∀ k, k = W0.heap.size → ¬ (k = w1.heap.size) := fun k h1 h2 => by omega
    have dp : ∀ k, k = W0.heap.size → w.heap.size ≤ k := fun k h1 => by omega
    have dq : ∀ k, k = w1.heap.size → w.heap.size ≤ k := fun k h1 => by omega
    clear s1' s2 s0 b1 b0
    generalize W0.heap.size = pb at *
    generalize w1.heap.size = qb at *
    go_wp2
    go_loopw [9] (fun i wr => ∃ (k : Nat) (m1 m2 : List ByteArray) (s x y : Int) (F G : Nat → Prop), k ≤ l.length ∧ i = .int .i64 (k : Int) ∧ QP wr F pb (mx z) (mx d) (mx q) m1 s x ∧ QP wr G qb (mx z) (mx d) (mx q) m2 s y ∧
      Nums k (mx d) (mx q) m1 s x ∧ Nums k (mx d) (mx q) m2 s y ∧ (∀ k, F k → ¬ G k) ∧ (∀ k, F k → w.heap.size ≤ k) ∧ (∀ k, G k → w.heap.size ≤ k) ∧ Below w.heap.size w wr) (fun i _ => (l.length - (intOf i).toNat))
    case atStart => exact ⟨0, [], [], 0, 0, 0, _, _, by omega, rfl, q1', q2, ⟨by simpa using hd0, by simp, by omega, by omega, by omega, by omega⟩, ⟨by simpa using hd0, by simp, by omega, by omega, by omega, by omega⟩, dj, dp, dq, b2⟩
    case round =>
      obtain ⟨k, ma, mb, s, x, y, F, G, hk, rfl, hp, hq, N1, N2, dis, fF, fG, hb⟩ := hrel
      have k0 : (0 : Int) ≤ (k : Int) := by omega
      by_cases hlt : k < l.length
      · have k2 : (k : Int) < (l.length : Int) := by omega
        have hqlt := hq.lt
        by_cases hb1 : k < bs.length ∧ bs.getD k false = true
        · obtain ⟨hb1, hb2⟩ := hb1
          have k3 : (k : Int) < (bs.length : Int) := by omega
          obtain ⟨bd, rfl, hbc⟩ := Kd.at_bool (Kd.C_below hB hb) (k : Int) (by omega) (by omega)
          rw [show rdOf false bs (k : Int) = true from by unfold rdOf; rw [Int.toNat_natCast]; exact hb2, Int.toNat_natCast] at hbc
          clear hb2
          go_wp2_with fail
          refine (receive G qb _ _ _ mb s y _ hq).mono ?_
          rintro e w1 ⟨rfl, hq', mQ⟩
          have hp' := hp.far mQ dis
          have hb' := mQ.below hb hb.size fG
          have hszQ := mQ.size
          have N2' := N2.recv0
          have hqlt1 : ∀ k, G k → k < w1.heap.size := fun k hk => Nat.lt_of_lt_of_le (hqlt k hk) hszQ
          clear hp hq hb mQ N2 hbc hqlt
          have hp := hp'
          have hq := hq'
          have hb := hb'
          have N2 := N2'
          have hqlt := hqlt1
          clear hp' hq' hb' N2' hqlt1
          obtain ⟨ad, rfl, c0, c1⟩ := step_cells (Kd.C_below hC hb) k hlt
          obtain ⟨_, e', c0', _⟩ := step_cells hC k hlt
          obtain rfl := Option.some.inj e'
          have hal := World.block_lt_of_cell? w _ c0'
          clear c0'
          generalize l[k] = yy at *
          obtain ⟨yk, m⟩ := yy
          dsimp only at c0 c1
          have hsz := hb.size
          have n1 := N1.s0
          have n2 := N1.x0
          have n3 := N1.xk
          have n4 := N1.lk
          have n5 := N2.x0
          have n6 := N2.xk
          have n7 := N2.lk
          by_cases h1 : yk = 1
          · subst h1
            have M1 := N1.send (z := mx z) (m := m) (by omega) hd0
            have M2 := N2.send (z := mx z) (m := m) (by omega) hd0
            have hFa : ¬ F (ad.add (k * 2)).block := fun h => by have := fF _ h; omega
            have hGa : ¬ G (ad.add (k * 2)).block := fun h => by have := fG _ h; omega
            go_wp2_with fail
            refine Reg.wp_plan (S := fun w' => w'.cell? ⟨(ad.add (k * 2)).block, (ad.add (k * 2)).off + 1, none⟩ = some (.string m)) 22 (.fl 0 (.fl 1 (.fl 2 (.fl 3 (.fl 4 (.fl 5 (.fl 7 (.fl 8 (.fl 9 (.fl 10 (.fl 11 (.fl 12 (.one 6 (.one 13 (.fl 14 (.fl 15 (.fl 16 (.fl 18 (.one 17 (.one 19 (.fl 20 (.fl 21 .done)))))))))))))))))))))) (by kernel_rfl) (by kernel_rfl) (by kernel_rfl) (by kernel_rfl) (fun _ _ _ d _ h => by cases d <;> exact h) ?_ (fun hHeld => ?_)
            · simpa using c1
            refine Reg.G_on (o := { dst := some 57, op := Op.move (Operand.tmp 7), type := 59, pos := "law.go:69", after := #[], guard := Option.none }) (v := ?_) (by rfl) ?_ (fun wS hSw => ?_) ?_
            rotate_left
            · kernel_rfl
            · (try dsimp only at hSw); go_simp; (try with_reducible rfl)
            try simp only [Act.put, List.setIfInBounds_toArray, List.set_cons_zero, List.set_cons_succ]
            refine Reg.G_on (o := { dst := some 58, op := Op.move (Operand.tmp 1), type := 57, pos := "law.go:69", after := #[], guard := Option.none }) (v := ?_) (by rfl) ?_ (fun wS hSw => ?_) ?_
            rotate_left
            · kernel_rfl
            · (try dsimp only at hSw); go_simp; (try with_reducible rfl)
            try simp only [Act.put, List.setIfInBounds_toArray, List.set_cons_zero, List.set_cons_succ]
            refine Reg.G_on (o := { dst := some 59, op := Op.move (Operand.tmp 9), type := 3, pos := "law.go:69", after := #[], guard := Option.none }) (v := ?_) (by rfl) ?_ (fun wS hSw => ?_) ?_
            rotate_left
            · kernel_rfl
            · (try dsimp only at hSw); go_simp; (try with_reducible rfl)
            try simp only [Act.put, List.setIfInBounds_toArray, List.set_cons_zero, List.set_cons_succ]
            refine Reg.G_on (o := { dst := some 60, op := Op.indexAddr 57 (Operand.tmp 58) (Operand.tmp 59), type := 0, pos := "law.go:69", after := #[{ on := 1, ground := Ground.data }, { on := 2, ground := Ground.data }], guard := Option.none }) (v := ?_) (by rfl) ?_ (fun wS hSw => ?_) ?_
            rotate_left
            · kernel_rfl
            · (try dsimp only at hSw); go_simp; (try with_reducible rfl)
            try simp only [Act.put, List.setIfInBounds_toArray, List.set_cons_zero, List.set_cons_succ]
            refine Reg.G_on (o := { dst := some 61, op := Op.fieldAddr 64 (Operand.tmp 60) 1, type := 0, pos := "law.go:69", after := #[{ on := 3, ground := Ground.data }], guard := Option.none }) (v := ?_) (by rfl) ?_ (fun wS hSw => ?_) ?_
            rotate_left
            · kernel_rfl
            · (try dsimp only at hSw); go_simp; (try with_reducible rfl)
            try simp only [Act.put, List.setIfInBounds_toArray, List.set_cons_zero, List.set_cons_succ]
            refine Reg.G_on (o := { dst := some 62, op := Op.load 9 (Operand.tmp 61), type := 9, pos := "law.go:69", after := #[{ on := 4, ground := Ground.data }], guard := Option.none }) (v := ?_) (by rfl) ?_ (fun wS hSw => ?_) ?_
            rotate_left
            · kernel_rfl
            · (try dsimp only at hSw); go_simp; (try with_reducible rfl)
            try simp only [Act.put, List.setIfInBounds_toArray, List.set_cons_zero, List.set_cons_succ]
            refine Reg.G_on (o := { dst := some 64, op := Op.move (Operand.tmp 8), type := 59, pos := "law.go:69", after := #[], guard := Option.none }) (v := ?_) (by rfl) ?_ (fun wS hSw => ?_) ?_
            rotate_left
            · kernel_rfl
            · (try dsimp only at hSw); go_simp; (try with_reducible rfl)
            try simp only [Act.put, List.setIfInBounds_toArray, List.set_cons_zero, List.set_cons_succ]
            refine Reg.G_on (o := { dst := some 65, op := Op.move (Operand.tmp 1), type := 57, pos := "law.go:69", after := #[], guard := Option.none }) (v := ?_) (by rfl) ?_ (fun wS hSw => ?_) ?_
            rotate_left
            · kernel_rfl
            · (try dsimp only at hSw); go_simp; (try with_reducible rfl)
            try simp only [Act.put, List.setIfInBounds_toArray, List.set_cons_zero, List.set_cons_succ]
            refine Reg.G_on (o := { dst := some 66, op := Op.move (Operand.tmp 9), type := 3, pos := "law.go:69", after := #[], guard := Option.none }) (v := ?_) (by rfl) ?_ (fun wS hSw => ?_) ?_
            rotate_left
            · kernel_rfl
            · (try dsimp only at hSw); go_simp; (try with_reducible rfl)
            try simp only [Act.put, List.setIfInBounds_toArray, List.set_cons_zero, List.set_cons_succ]
            refine Reg.G_on (o := { dst := some 67, op := Op.indexAddr 57 (Operand.tmp 65) (Operand.tmp 66), type := 0, pos := "law.go:69", after := #[{ on := 8, ground := Ground.data }, { on := 9, ground := Ground.data }], guard := Option.none }) (v := ?_) (by rfl) ?_ (fun wS hSw => ?_) ?_
            rotate_left
            · kernel_rfl
            · (try dsimp only at hSw); go_simp; (try with_reducible rfl)
            try simp only [Act.put, List.setIfInBounds_toArray, List.set_cons_zero, List.set_cons_succ]
            refine Reg.G_on (o := { dst := some 68, op := Op.fieldAddr 64 (Operand.tmp 67) 1, type := 0, pos := "law.go:69", after := #[{ on := 10, ground := Ground.data }], guard := Option.none }) (v := ?_) (by rfl) ?_ (fun wS hSw => ?_) ?_
            rotate_left
            · kernel_rfl
            · (try dsimp only at hSw); go_simp; (try with_reducible rfl)
            try simp only [Act.put, List.setIfInBounds_toArray, List.set_cons_zero, List.set_cons_succ]
            refine Reg.G_on (o := { dst := some 69, op := Op.load 9 (Operand.tmp 68), type := 9, pos := "law.go:69", after := #[{ on := 11, ground := Ground.data }], guard := Option.none }) (v := ?_) (by rfl) ?_ (fun wS hSw => ?_) ?_
            rotate_left
            · kernel_rfl
            · (try dsimp only at hSw); go_simp; (try with_reducible rfl)
            try simp only [Act.put, List.setIfInBounds_toArray, List.set_cons_zero, List.set_cons_succ]
            refine Reg.G_step (o := { dst := some 63, op := Op.call { callee := Callee.value (Operand.func 32), args := #[Operand.tmp 57, Operand.tmp 62], argTypes := #[59, 9] }, type := 30, pos := "law.go:69", after := #[{ on := 0, ground := Ground.data }, { on := 5, ground := Ground.data }], guard := Option.none }) (by rfl) ?_ (fun K hK => ?_)
            · kernel_rfl
            go_simp
            refine (send F pb _ _ _ m ma s x _ hp.drew n1 HQ.out (by omega) n2 (by omega)).mono ?_
            rintro e w' ⟨rfl, ⟨⟨Fa, qa, ga⟩, mA⟩⟩
            refine hK.out _ _ ?_ (fun hHeld => ?_)
            · exact mA.cell hHeld hFa
            clear hK K
            try simp only [Act.put, List.setIfInBounds_toArray, List.set_cons_zero, List.set_cons_succ]
            rename World => wa
            have bA := mA.below hb.drew hsz fF
            have hq2 := hq.drew.far mA (fun k hg hf => dis k hf hg)
            have szA : w1.heap.size ≤ wa.heap.size := mA.size
            clear hp hq
            skip
            refine Reg.G_step (o := { dst := some 70, op := Op.call { callee := Callee.value (Operand.func 32), args := #[Operand.tmp 64, Operand.tmp 69], argTypes := #[59, 9] }, type := 30, pos := "law.go:69", after := #[{ on := 7, ground := Ground.data }, { on := 12, ground := Ground.data }, { on := 6, ground := Ground.chain }], guard := Option.none }) (by rfl) ?_ (fun K hK => ?_)
            · kernel_rfl
            go_simp
            refine (send G qb _ _ _ m mb.tail s y _ hq2 n1 HQ.out (by omega) n5 (by omega)).mono ?_
            rintro e w' ⟨rfl, ⟨⟨Fb, qB, gb⟩, mB⟩⟩
            refine hK.out _ _ ?_ (fun hHeld => ?_)
            · exact mB.cell hHeld hGa
            clear hK K
            try simp only [Act.put, List.setIfInBounds_toArray, List.set_cons_zero, List.set_cons_succ]
            rename World => wb
            have bB := mB.below bA (by omega) fG
            have qa2 : QP wb Fa pb _ _ _ _ _ _ := qa.far mB (fun k hf hg => by
              rcases ga k hf with h | h
              · exact dis k h hg
              · have h1 := hq2.lt k hg
                have h2 := hqlt k hg
                have h3 : w1.heap.size ≤ k := h
                omega)
            have dis2 : ∀ k, Fa k → ¬ Fb k := fun k hf hg => by
              rcases gb k hg with h | h
              · rcases ga k hf with h' | h'
                · exact dis k h' h
                · have h2 := hqlt k h
                  have h3 : w1.heap.size ≤ k := h'
                  omega
              · have := qa.lt k hf
                omega
            have fF2 : ∀ k, Fa k → w.heap.size ≤ k := fun k hf => (ga k hf).elim (fF k) (fun h => by have h3 : w1.heap.size ≤ k := h; omega)
            have fG2 : ∀ k, Fb k → w.heap.size ≤ k := fun k hf => (gb k hf).elim (fG k) (fun h => by omega)
            clear mA mB ga gb hq2 qa dis fF fG hFa hGa hb bA
            refine Reg.G_on (o := { dst := some 71, op := Op.binOp BinOp.neq 30 (Operand.tmp 63) (Operand.tmp 70) 30, type := 4, pos := "law.go:69", after := #[{ on := 6, ground := Ground.data }, { on := 13, ground := Ground.data }], guard := Option.none }) (v := ?_) (by rfl) ?_ (fun wS hSw => ?_) ?_
            rotate_left
            · kernel_rfl
            · (try dsimp only at hSw); go_simp; (try with_reducible rfl)
            try simp only [Act.put, List.setIfInBounds_toArray, List.set_cons_zero, List.set_cons_succ]
            refine Reg.G_on (o := { dst := some 72, op := Op.move (Operand.tmp 71), type := 4, pos := "law.go:69", after := #[{ on := 14, ground := Ground.data }, { on := 13, ground := Ground.chain }], guard := Option.none }) (v := ?_) (by rfl) ?_ (fun wS hSw => ?_) ?_
            rotate_left
            · kernel_rfl
            · (try dsimp only at hSw); go_simp; (try with_reducible rfl)
            try simp only [Act.put, List.setIfInBounds_toArray, List.set_cons_zero, List.set_cons_succ]
            refine Reg.G_on (o := { dst := some 73, op := Op.move (Operand.tmp 7), type := 59, pos := "law.go:69", after := #[{ on := 15, ground := Ground.guard }], guard := some (15, false) }) (v := ?_) (by rfl) ?_ (fun wS hSw => ?_) ?_
            rotate_left
            · kernel_rfl
            · (try dsimp only at hSw); go_simp; (try with_reducible rfl)
            try simp only [Act.put, List.setIfInBounds_toArray, List.set_cons_zero, List.set_cons_succ]
            refine Reg.G_on (o := { dst := some 75, op := Op.move (Operand.tmp 8), type := 59, pos := "law.go:69", after := #[{ on := 15, ground := Ground.guard }], guard := some (15, false) }) (v := ?_) (by rfl) ?_ (fun wS hSw => ?_) ?_
            rotate_left
            · kernel_rfl
            · (try dsimp only at hSw); go_simp; (try with_reducible rfl)
            try simp only [Act.put, List.setIfInBounds_toArray, List.set_cons_zero, List.set_cons_succ]
            refine Reg.G_step (o := { dst := some 74, op := Op.call { callee := Callee.value (Operand.func 33), args := #[Operand.tmp 73], argTypes := #[59] }, type := 3, pos := "law.go:69", after := #[{ on := 16, ground := Ground.data }, { on := 15, ground := Ground.chain }, { on := 15, ground := Ground.guard }], guard := some (15, false) }) (by rfl) ?_ (fun K hK => ?_)
            · kernel_rfl
            go_simp
            refine (sent _ _ _ _ _ _ _ _ _ qa2).mono ?_
            rintro e w' ⟨rfl, rfl⟩
            refine hK.out _ _ ?_ (fun hHeld => ?_)
            · exact hHeld
            clear hK K
            try simp only [Act.put, List.setIfInBounds_toArray, List.set_cons_zero, List.set_cons_succ]
            skip
            refine Reg.G_step (o := { dst := some 76, op := Op.call { callee := Callee.value (Operand.func 33), args := #[Operand.tmp 75], argTypes := #[59] }, type := 3, pos := "law.go:69", after := #[{ on := 18, ground := Ground.data }, { on := 17, ground := Ground.chain }, { on := 15, ground := Ground.guard }], guard := some (15, false) }) (by rfl) ?_ (fun K hK => ?_)
            · kernel_rfl
            go_simp
            refine (sent _ _ _ _ _ _ _ _ _ qB).mono ?_
            rintro e w' ⟨rfl, rfl⟩
            refine hK.out _ _ ?_ (fun hHeld => ?_)
            · exact hHeld
            clear hK K
            try simp only [Act.put, List.setIfInBounds_toArray, List.set_cons_zero, List.set_cons_succ]
            refine Reg.G_on (o := { dst := some 77, op := Op.binOp BinOp.neq 3 (Operand.tmp 74) (Operand.tmp 76) 3, type := 4, pos := "law.go:69", after := #[{ on := 17, ground := Ground.data }, { on := 19, ground := Ground.data }, { on := 15, ground := Ground.guard }], guard := some (15, false) }) (v := ?_) (by rfl) ?_ (fun wS hSw => ?_) ?_
            rotate_left
            · kernel_rfl
            · (try dsimp only at hSw); go_simp; (try with_reducible rfl)
            try simp only [Act.put, List.setIfInBounds_toArray, List.set_cons_zero, List.set_cons_succ]
            refine Reg.G_on (o := { dst := some 78, op := Op.pick (Operand.tmp 72) (Operand.const (Value.bool true)) (Operand.tmp 77), type := 4, pos := "law.go:69", after := #[{ on := 15, ground := Ground.data }, { on := 20, ground := Ground.data }], guard := Option.none }) (v := ?_) (by rfl) ?_ (fun wS hSw => ?_) ?_
            rotate_left
            · kernel_rfl
            · (try dsimp only at hSw); go_simp; (try with_reducible rfl)
            try simp only [Act.put, List.setIfInBounds_toArray, List.set_cons_zero, List.set_cons_succ]
            refine Reg.G_done ?_
            go_wp2
            go_roundw
            case rel => exact ⟨k + 1, _, _, _, _, _, Fa, Fb, by omega, by go_num, qa2, qB, M1, M2, dis2, fF2, fG2, bB⟩
            case measure => simp [intOf]; omega
          · have h1b : (yk == 1) = false := by simpa using h1
            by_cases h2 : yk = 2
            · subst h2
              go_wp2_with fail
              refine (receive F pb _ _ _ ma s x _ hp).mono ?_
              rintro e wa ⟨rfl, qa, mA⟩
              have bA := mA.below hb hsz fF
              have hq2 := hq.far mA (fun k hg hf => dis k hf hg)
              go_wp2
              go_roundw
              case rel => exact ⟨k + 1, _, _, _, _, _, F, G, by omega, by go_num, qa, hq2, N1.recv (by omega), N2.more (by omega), dis, fF, fG, bA⟩
              case measure => simp [intOf]; omega
            · have h2b : (yk == 2) = false := by simpa using h2
              go_wp2_with fail
              refine (frame F pb _ _ _ ma s x _ hp).mono ?_
              rintro e wa ⟨rfl, qa, mA⟩
              have bA := mA.below hb hsz fF
              have hq2 := hq.far mA (fun k hg hf => dis k hf hg)
              go_wp2_with fail
              refine (frame G qb _ _ _ mb.tail s y _ hq2).mono ?_
              rintro e wb ⟨rfl, qB, mB⟩
              have bB := mB.below bA (by have := mA.size; omega) fG
              have qa2 := qa.far mB dis
              go_wp2
              go_roundw
              case rel => exact ⟨k + 1, _, _, _, _, _, F, G, by omega, by go_num, qa2, qB, N1.frame (by omega), N2.frame (by omega), dis, fF, fG, bB⟩
              case measure => simp [intOf]; omega
        · have hor : (¬ (k : Int) < (bs.length : Int)) ∨ ((k : Int) < (bs.length : Int) ∧ k < bs.length ∧ bs.getD k false = false) := by
            by_cases h : k < bs.length
            · refine .inr ⟨by omega, h, ?_⟩
              cases hv : bs.getD k false
              · rfl
              · exact absurd ⟨h, hv⟩ hb1
            · exact .inl (by omega)
          clear hb1
          rcases hor with hb1 | ⟨k3, hb1, hb2⟩
          · obtain ⟨ad, rfl, c0, c1⟩ := step_cells (Kd.C_below hC hb) k hlt
            obtain ⟨_, e', c0', _⟩ := step_cells hC k hlt
            obtain rfl := Option.some.inj e'
            have hal := World.block_lt_of_cell? w _ c0'
            clear c0'
            generalize l[k] = yy at *
            obtain ⟨yk, m⟩ := yy
            dsimp only at c0 c1
            have hsz := hb.size
            have n1 := N1.s0
            have n2 := N1.x0
            have n3 := N1.xk
            have n4 := N1.lk
            have n5 := N2.x0
            have n6 := N2.xk
            have n7 := N2.lk
            by_cases h1 : yk = 1
            · subst h1
              have M1 := N1.send (z := mx z) (m := m) (by omega) hd0
              have M2 := N2.send (z := mx z) (m := m) (by omega) hd0
              have hFa : ¬ F (ad.add (k * 2)).block := fun h => by have := fF _ h; omega
              have hGa : ¬ G (ad.add (k * 2)).block := fun h => by have := fG _ h; omega
              go_wp2_with fail
              refine Reg.wp_plan (S := fun w' => w'.cell? ⟨(ad.add (k * 2)).block, (ad.add (k * 2)).off + 1, none⟩ = some (.string m)) 22 (.fl 0 (.fl 1 (.fl 2 (.fl 3 (.fl 4 (.fl 5 (.fl 7 (.fl 8 (.fl 9 (.fl 10 (.fl 11 (.fl 12 (.one 6 (.one 13 (.fl 14 (.fl 15 (.fl 16 (.fl 18 (.one 17 (.one 19 (.fl 20 (.fl 21 .done)))))))))))))))))))))) (by kernel_rfl) (by kernel_rfl) (by kernel_rfl) (by kernel_rfl) (fun _ _ _ d _ h => by cases d <;> exact h) ?_ (fun hHeld => ?_)
              · simpa using c1
              refine Reg.G_on (o := { dst := some 57, op := Op.move (Operand.tmp 7), type := 59, pos := "law.go:69", after := #[], guard := Option.none }) (v := ?_) (by rfl) ?_ (fun wS hSw => ?_) ?_
              rotate_left
              · kernel_rfl
              · (try dsimp only at hSw); go_simp; (try with_reducible rfl)
              try simp only [Act.put, List.setIfInBounds_toArray, List.set_cons_zero, List.set_cons_succ]
              refine Reg.G_on (o := { dst := some 58, op := Op.move (Operand.tmp 1), type := 57, pos := "law.go:69", after := #[], guard := Option.none }) (v := ?_) (by rfl) ?_ (fun wS hSw => ?_) ?_
              rotate_left
              · kernel_rfl
              · (try dsimp only at hSw); go_simp; (try with_reducible rfl)
              try simp only [Act.put, List.setIfInBounds_toArray, List.set_cons_zero, List.set_cons_succ]
              refine Reg.G_on (o := { dst := some 59, op := Op.move (Operand.tmp 9), type := 3, pos := "law.go:69", after := #[], guard := Option.none }) (v := ?_) (by rfl) ?_ (fun wS hSw => ?_) ?_
              rotate_left
              · kernel_rfl
              · (try dsimp only at hSw); go_simp; (try with_reducible rfl)
              try simp only [Act.put, List.setIfInBounds_toArray, List.set_cons_zero, List.set_cons_succ]
              refine Reg.G_on (o := { dst := some 60, op := Op.indexAddr 57 (Operand.tmp 58) (Operand.tmp 59), type := 0, pos := "law.go:69", after := #[{ on := 1, ground := Ground.data }, { on := 2, ground := Ground.data }], guard := Option.none }) (v := ?_) (by rfl) ?_ (fun wS hSw => ?_) ?_
              rotate_left
              · kernel_rfl
              · (try dsimp only at hSw); go_simp; (try with_reducible rfl)
              try simp only [Act.put, List.setIfInBounds_toArray, List.set_cons_zero, List.set_cons_succ]
              refine Reg.G_on (o := { dst := some 61, op := Op.fieldAddr 64 (Operand.tmp 60) 1, type := 0, pos := "law.go:69", after := #[{ on := 3, ground := Ground.data }], guard := Option.none }) (v := ?_) (by rfl) ?_ (fun wS hSw => ?_) ?_
              rotate_left
              · kernel_rfl
              · (try dsimp only at hSw); go_simp; (try with_reducible rfl)
              try simp only [Act.put, List.setIfInBounds_toArray, List.set_cons_zero, List.set_cons_succ]
              refine Reg.G_on (o := { dst := some 62, op := Op.load 9 (Operand.tmp 61), type := 9, pos := "law.go:69", after := #[{ on := 4, ground := Ground.data }], guard := Option.none }) (v := ?_) (by rfl) ?_ (fun wS hSw => ?_) ?_
              rotate_left
              · kernel_rfl
              · (try dsimp only at hSw); go_simp; (try with_reducible rfl)
              try simp only [Act.put, List.setIfInBounds_toArray, List.set_cons_zero, List.set_cons_succ]
              refine Reg.G_on (o := { dst := some 64, op := Op.move (Operand.tmp 8), type := 59, pos := "law.go:69", after := #[], guard := Option.none }) (v := ?_) (by rfl) ?_ (fun wS hSw => ?_) ?_
              rotate_left
              · kernel_rfl
              · (try dsimp only at hSw); go_simp; (try with_reducible rfl)
              try simp only [Act.put, List.setIfInBounds_toArray, List.set_cons_zero, List.set_cons_succ]
              refine Reg.G_on (o := { dst := some 65, op := Op.move (Operand.tmp 1), type := 57, pos := "law.go:69", after := #[], guard := Option.none }) (v := ?_) (by rfl) ?_ (fun wS hSw => ?_) ?_
              rotate_left
              · kernel_rfl
              · (try dsimp only at hSw); go_simp; (try with_reducible rfl)
              try simp only [Act.put, List.setIfInBounds_toArray, List.set_cons_zero, List.set_cons_succ]
              refine Reg.G_on (o := { dst := some 66, op := Op.move (Operand.tmp 9), type := 3, pos := "law.go:69", after := #[], guard := Option.none }) (v := ?_) (by rfl) ?_ (fun wS hSw => ?_) ?_
              rotate_left
              · kernel_rfl
              · (try dsimp only at hSw); go_simp; (try with_reducible rfl)
              try simp only [Act.put, List.setIfInBounds_toArray, List.set_cons_zero, List.set_cons_succ]
              refine Reg.G_on (o := { dst := some 67, op := Op.indexAddr 57 (Operand.tmp 65) (Operand.tmp 66), type := 0, pos := "law.go:69", after := #[{ on := 8, ground := Ground.data }, { on := 9, ground := Ground.data }], guard := Option.none }) (v := ?_) (by rfl) ?_ (fun wS hSw => ?_) ?_
              rotate_left
              · kernel_rfl
              · (try dsimp only at hSw); go_simp; (try with_reducible rfl)
              try simp only [Act.put, List.setIfInBounds_toArray, List.set_cons_zero, List.set_cons_succ]
              refine Reg.G_on (o := { dst := some 68, op := Op.fieldAddr 64 (Operand.tmp 67) 1, type := 0, pos := "law.go:69", after := #[{ on := 10, ground := Ground.data }], guard := Option.none }) (v := ?_) (by rfl) ?_ (fun wS hSw => ?_) ?_
              rotate_left
              · kernel_rfl
              · (try dsimp only at hSw); go_simp; (try with_reducible rfl)
              try simp only [Act.put, List.setIfInBounds_toArray, List.set_cons_zero, List.set_cons_succ]
              refine Reg.G_on (o := { dst := some 69, op := Op.load 9 (Operand.tmp 68), type := 9, pos := "law.go:69", after := #[{ on := 11, ground := Ground.data }], guard := Option.none }) (v := ?_) (by rfl) ?_ (fun wS hSw => ?_) ?_
              rotate_left
              · kernel_rfl
              · (try dsimp only at hSw); go_simp; (try with_reducible rfl)
              try simp only [Act.put, List.setIfInBounds_toArray, List.set_cons_zero, List.set_cons_succ]
              refine Reg.G_step (o := { dst := some 63, op := Op.call { callee := Callee.value (Operand.func 32), args := #[Operand.tmp 57, Operand.tmp 62], argTypes := #[59, 9] }, type := 30, pos := "law.go:69", after := #[{ on := 0, ground := Ground.data }, { on := 5, ground := Ground.data }], guard := Option.none }) (by rfl) ?_ (fun K hK => ?_)
              · kernel_rfl
              go_simp
              refine (send F pb _ _ _ m ma s x _ hp.drew n1 HQ.out (by omega) n2 (by omega)).mono ?_
              rintro e w' ⟨rfl, ⟨⟨Fa, qa, ga⟩, mA⟩⟩
              refine hK.out _ _ ?_ (fun hHeld => ?_)
              · exact mA.cell hHeld hFa
              clear hK K
              try simp only [Act.put, List.setIfInBounds_toArray, List.set_cons_zero, List.set_cons_succ]
              rename World => wa
              have bA := mA.below hb.drew hsz fF
              have hq2 := hq.drew.far mA (fun k hg hf => dis k hf hg)
              have szA : wr.heap.size ≤ wa.heap.size := mA.size
              clear hp hq
              skip
              refine Reg.G_step (o := { dst := some 70, op := Op.call { callee := Callee.value (Operand.func 32), args := #[Operand.tmp 64, Operand.tmp 69], argTypes := #[59, 9] }, type := 30, pos := "law.go:69", after := #[{ on := 7, ground := Ground.data }, { on := 12, ground := Ground.data }, { on := 6, ground := Ground.chain }], guard := Option.none }) (by rfl) ?_ (fun K hK => ?_)
              · kernel_rfl
              go_simp
              refine (send G qb _ _ _ m mb s y _ hq2 n1 HQ.out (by omega) n5 (by omega)).mono ?_
              rintro e w' ⟨rfl, ⟨⟨Fb, qB, gb⟩, mB⟩⟩
              refine hK.out _ _ ?_ (fun hHeld => ?_)
              · exact mB.cell hHeld hGa
              clear hK K
              try simp only [Act.put, List.setIfInBounds_toArray, List.set_cons_zero, List.set_cons_succ]
              rename World => wb
              have bB := mB.below bA (by omega) fG
              have qa2 : QP wb Fa pb _ _ _ _ _ _ := qa.far mB (fun k hf hg => by
                rcases ga k hf with h | h
                · exact dis k h hg
                · have h1 := hq2.lt k hg
                  have h2 := hqlt k hg
                  have h3 : wr.heap.size ≤ k := h
                  omega)
              have dis2 : ∀ k, Fa k → ¬ Fb k := fun k hf hg => by
                rcases gb k hg with h | h
                · rcases ga k hf with h' | h'
                  · exact dis k h' h
                  · have h2 := hqlt k h
                    have h3 : wr.heap.size ≤ k := h'
                    omega
                · have := qa.lt k hf
                  omega
              have fF2 : ∀ k, Fa k → w.heap.size ≤ k := fun k hf => (ga k hf).elim (fF k) (fun h => by have h3 : wr.heap.size ≤ k := h; omega)
              have fG2 : ∀ k, Fb k → w.heap.size ≤ k := fun k hf => (gb k hf).elim (fG k) (fun h => by omega)
              clear mA mB ga gb hq2 qa dis fF fG hFa hGa hb bA
              refine Reg.G_on (o := { dst := some 71, op := Op.binOp BinOp.neq 30 (Operand.tmp 63) (Operand.tmp 70) 30, type := 4, pos := "law.go:69", after := #[{ on := 6, ground := Ground.data }, { on := 13, ground := Ground.data }], guard := Option.none }) (v := ?_) (by rfl) ?_ (fun wS hSw => ?_) ?_
              rotate_left
              · kernel_rfl
              · (try dsimp only at hSw); go_simp; (try with_reducible rfl)
              try simp only [Act.put, List.setIfInBounds_toArray, List.set_cons_zero, List.set_cons_succ]
              refine Reg.G_on (o := { dst := some 72, op := Op.move (Operand.tmp 71), type := 4, pos := "law.go:69", after := #[{ on := 14, ground := Ground.data }, { on := 13, ground := Ground.chain }], guard := Option.none }) (v := ?_) (by rfl) ?_ (fun wS hSw => ?_) ?_
              rotate_left
              · kernel_rfl
              · (try dsimp only at hSw); go_simp; (try with_reducible rfl)
              try simp only [Act.put, List.setIfInBounds_toArray, List.set_cons_zero, List.set_cons_succ]
              refine Reg.G_on (o := { dst := some 73, op := Op.move (Operand.tmp 7), type := 59, pos := "law.go:69", after := #[{ on := 15, ground := Ground.guard }], guard := some (15, false) }) (v := ?_) (by rfl) ?_ (fun wS hSw => ?_) ?_
              rotate_left
              · kernel_rfl
              · (try dsimp only at hSw); go_simp; (try with_reducible rfl)
              try simp only [Act.put, List.setIfInBounds_toArray, List.set_cons_zero, List.set_cons_succ]
              refine Reg.G_on (o := { dst := some 75, op := Op.move (Operand.tmp 8), type := 59, pos := "law.go:69", after := #[{ on := 15, ground := Ground.guard }], guard := some (15, false) }) (v := ?_) (by rfl) ?_ (fun wS hSw => ?_) ?_
              rotate_left
              · kernel_rfl
              · (try dsimp only at hSw); go_simp; (try with_reducible rfl)
              try simp only [Act.put, List.setIfInBounds_toArray, List.set_cons_zero, List.set_cons_succ]
              refine Reg.G_step (o := { dst := some 74, op := Op.call { callee := Callee.value (Operand.func 33), args := #[Operand.tmp 73], argTypes := #[59] }, type := 3, pos := "law.go:69", after := #[{ on := 16, ground := Ground.data }, { on := 15, ground := Ground.chain }, { on := 15, ground := Ground.guard }], guard := some (15, false) }) (by rfl) ?_ (fun K hK => ?_)
              · kernel_rfl
              go_simp
              refine (sent _ _ _ _ _ _ _ _ _ qa2).mono ?_
              rintro e w' ⟨rfl, rfl⟩
              refine hK.out _ _ ?_ (fun hHeld => ?_)
              · exact hHeld
              clear hK K
              try simp only [Act.put, List.setIfInBounds_toArray, List.set_cons_zero, List.set_cons_succ]
              skip
              refine Reg.G_step (o := { dst := some 76, op := Op.call { callee := Callee.value (Operand.func 33), args := #[Operand.tmp 75], argTypes := #[59] }, type := 3, pos := "law.go:69", after := #[{ on := 18, ground := Ground.data }, { on := 17, ground := Ground.chain }, { on := 15, ground := Ground.guard }], guard := some (15, false) }) (by rfl) ?_ (fun K hK => ?_)
              · kernel_rfl
              go_simp
              refine (sent _ _ _ _ _ _ _ _ _ qB).mono ?_
              rintro e w' ⟨rfl, rfl⟩
              refine hK.out _ _ ?_ (fun hHeld => ?_)
              · exact hHeld
              clear hK K
              try simp only [Act.put, List.setIfInBounds_toArray, List.set_cons_zero, List.set_cons_succ]
              refine Reg.G_on (o := { dst := some 77, op := Op.binOp BinOp.neq 3 (Operand.tmp 74) (Operand.tmp 76) 3, type := 4, pos := "law.go:69", after := #[{ on := 17, ground := Ground.data }, { on := 19, ground := Ground.data }, { on := 15, ground := Ground.guard }], guard := some (15, false) }) (v := ?_) (by rfl) ?_ (fun wS hSw => ?_) ?_
              rotate_left
              · kernel_rfl
              · (try dsimp only at hSw); go_simp; (try with_reducible rfl)
              try simp only [Act.put, List.setIfInBounds_toArray, List.set_cons_zero, List.set_cons_succ]
              refine Reg.G_on (o := { dst := some 78, op := Op.pick (Operand.tmp 72) (Operand.const (Value.bool true)) (Operand.tmp 77), type := 4, pos := "law.go:69", after := #[{ on := 15, ground := Ground.data }, { on := 20, ground := Ground.data }], guard := Option.none }) (v := ?_) (by rfl) ?_ (fun wS hSw => ?_) ?_
              rotate_left
              · kernel_rfl
              · (try dsimp only at hSw); go_simp; (try with_reducible rfl)
              try simp only [Act.put, List.setIfInBounds_toArray, List.set_cons_zero, List.set_cons_succ]
              refine Reg.G_done ?_
              go_wp2
              go_roundw
              case rel => exact ⟨k + 1, _, _, _, _, _, Fa, Fb, by omega, by go_num, qa2, qB, M1, M2, dis2, fF2, fG2, bB⟩
              case measure => simp [intOf]; omega
            · have h1b : (yk == 1) = false := by simpa using h1
              by_cases h2 : yk = 2
              · subst h2
                go_wp2_with fail
                refine (receive F pb _ _ _ ma s x _ hp).mono ?_
                rintro e wa ⟨rfl, qa, mA⟩
                have bA := mA.below hb hsz fF
                have hq2 := hq.far mA (fun k hg hf => dis k hf hg)
                go_wp2
                go_roundw
                case rel => exact ⟨k + 1, _, _, _, _, _, F, G, by omega, by go_num, qa, hq2, N1.recv (by omega), N2.more (by omega), dis, fF, fG, bA⟩
                case measure => simp [intOf]; omega
              · have h2b : (yk == 2) = false := by simpa using h2
                go_wp2_with fail
                refine (frame F pb _ _ _ ma s x _ hp).mono ?_
                rintro e wa ⟨rfl, qa, mA⟩
                have bA := mA.below hb hsz fF
                have hq2 := hq.far mA (fun k hg hf => dis k hf hg)
                go_wp2_with fail
                refine (frame G qb _ _ _ mb s y _ hq2).mono ?_
                rintro e wb ⟨rfl, qB, mB⟩
                have bB := mB.below bA (by have := mA.size; omega) fG
                have qa2 := qa.far mB dis
                go_wp2
                go_roundw
                case rel => exact ⟨k + 1, _, _, _, _, _, F, G, by omega, by go_num, qa2, qB, N1.frame (by omega), N2.frame (by omega), dis, fF, fG, bB⟩
                case measure => simp [intOf]; omega
          · obtain ⟨bd, rfl, hbc⟩ := Kd.at_bool (Kd.C_below hB hb) (k : Int) (by omega) (by omega)
            rw [show rdOf false bs (k : Int) = false from by unfold rdOf; rw [Int.toNat_natCast]; exact hb2, Int.toNat_natCast] at hbc
            clear hb2
            obtain ⟨ad, rfl, c0, c1⟩ := step_cells (Kd.C_below hC hb) k hlt
            obtain ⟨_, e', c0', _⟩ := step_cells hC k hlt
            obtain rfl := Option.some.inj e'
            have hal := World.block_lt_of_cell? w _ c0'
            clear c0'
            generalize l[k] = yy at *
            obtain ⟨yk, m⟩ := yy
            dsimp only at c0 c1
            have hsz := hb.size
            have n1 := N1.s0
            have n2 := N1.x0
            have n3 := N1.xk
            have n4 := N1.lk
            have n5 := N2.x0
            have n6 := N2.xk
            have n7 := N2.lk
            by_cases h1 : yk = 1
            · subst h1
              have M1 := N1.send (z := mx z) (m := m) (by omega) hd0
              have M2 := N2.send (z := mx z) (m := m) (by omega) hd0
              have hFa : ¬ F (ad.add (k * 2)).block := fun h => by have := fF _ h; omega
              have hGa : ¬ G (ad.add (k * 2)).block := fun h => by have := fG _ h; omega
              go_wp2_with fail
              refine Reg.wp_plan (S := fun w' => w'.cell? ⟨(ad.add (k * 2)).block, (ad.add (k * 2)).off + 1, none⟩ = some (.string m)) 22 (.fl 0 (.fl 1 (.fl 2 (.fl 3 (.fl 4 (.fl 5 (.fl 7 (.fl 8 (.fl 9 (.fl 10 (.fl 11 (.fl 12 (.one 6 (.one 13 (.fl 14 (.fl 15 (.fl 16 (.fl 18 (.one 17 (.one 19 (.fl 20 (.fl 21 .done)))))))))))))))))))))) (by kernel_rfl) (by kernel_rfl) (by kernel_rfl) (by kernel_rfl) (fun _ _ _ d _ h => by cases d <;> exact h) ?_ (fun hHeld => ?_)
              · simpa using c1
              refine Reg.G_on (o := { dst := some 57, op := Op.move (Operand.tmp 7), type := 59, pos := "law.go:69", after := #[], guard := Option.none }) (v := ?_) (by rfl) ?_ (fun wS hSw => ?_) ?_
              rotate_left
              · kernel_rfl
              · (try dsimp only at hSw); go_simp; (try with_reducible rfl)
              try simp only [Act.put, List.setIfInBounds_toArray, List.set_cons_zero, List.set_cons_succ]
              refine Reg.G_on (o := { dst := some 58, op := Op.move (Operand.tmp 1), type := 57, pos := "law.go:69", after := #[], guard := Option.none }) (v := ?_) (by rfl) ?_ (fun wS hSw => ?_) ?_
              rotate_left
              · kernel_rfl
              · (try dsimp only at hSw); go_simp; (try with_reducible rfl)
              try simp only [Act.put, List.setIfInBounds_toArray, List.set_cons_zero, List.set_cons_succ]
              refine Reg.G_on (o := { dst := some 59, op := Op.move (Operand.tmp 9), type := 3, pos := "law.go:69", after := #[], guard := Option.none }) (v := ?_) (by rfl) ?_ (fun wS hSw => ?_) ?_
              rotate_left
              · kernel_rfl
              · (try dsimp only at hSw); go_simp; (try with_reducible rfl)
              try simp only [Act.put, List.setIfInBounds_toArray, List.set_cons_zero, List.set_cons_succ]
              refine Reg.G_on (o := { dst := some 60, op := Op.indexAddr 57 (Operand.tmp 58) (Operand.tmp 59), type := 0, pos := "law.go:69", after := #[{ on := 1, ground := Ground.data }, { on := 2, ground := Ground.data }], guard := Option.none }) (v := ?_) (by rfl) ?_ (fun wS hSw => ?_) ?_
              rotate_left
              · kernel_rfl
              · (try dsimp only at hSw); go_simp; (try with_reducible rfl)
              try simp only [Act.put, List.setIfInBounds_toArray, List.set_cons_zero, List.set_cons_succ]
              refine Reg.G_on (o := { dst := some 61, op := Op.fieldAddr 64 (Operand.tmp 60) 1, type := 0, pos := "law.go:69", after := #[{ on := 3, ground := Ground.data }], guard := Option.none }) (v := ?_) (by rfl) ?_ (fun wS hSw => ?_) ?_
              rotate_left
              · kernel_rfl
              · (try dsimp only at hSw); go_simp; (try with_reducible rfl)
              try simp only [Act.put, List.setIfInBounds_toArray, List.set_cons_zero, List.set_cons_succ]
              refine Reg.G_on (o := { dst := some 62, op := Op.load 9 (Operand.tmp 61), type := 9, pos := "law.go:69", after := #[{ on := 4, ground := Ground.data }], guard := Option.none }) (v := ?_) (by rfl) ?_ (fun wS hSw => ?_) ?_
              rotate_left
              · kernel_rfl
              · (try dsimp only at hSw); go_simp; (try with_reducible rfl)
              try simp only [Act.put, List.setIfInBounds_toArray, List.set_cons_zero, List.set_cons_succ]
              refine Reg.G_on (o := { dst := some 64, op := Op.move (Operand.tmp 8), type := 59, pos := "law.go:69", after := #[], guard := Option.none }) (v := ?_) (by rfl) ?_ (fun wS hSw => ?_) ?_
              rotate_left
              · kernel_rfl
              · (try dsimp only at hSw); go_simp; (try with_reducible rfl)
              try simp only [Act.put, List.setIfInBounds_toArray, List.set_cons_zero, List.set_cons_succ]
              refine Reg.G_on (o := { dst := some 65, op := Op.move (Operand.tmp 1), type := 57, pos := "law.go:69", after := #[], guard := Option.none }) (v := ?_) (by rfl) ?_ (fun wS hSw => ?_) ?_
              rotate_left
              · kernel_rfl
              · (try dsimp only at hSw); go_simp; (try with_reducible rfl)
              try simp only [Act.put, List.setIfInBounds_toArray, List.set_cons_zero, List.set_cons_succ]
              refine Reg.G_on (o := { dst := some 66, op := Op.move (Operand.tmp 9), type := 3, pos := "law.go:69", after := #[], guard := Option.none }) (v := ?_) (by rfl) ?_ (fun wS hSw => ?_) ?_
              rotate_left
              · kernel_rfl
              · (try dsimp only at hSw); go_simp; (try with_reducible rfl)
              try simp only [Act.put, List.setIfInBounds_toArray, List.set_cons_zero, List.set_cons_succ]
              refine Reg.G_on (o := { dst := some 67, op := Op.indexAddr 57 (Operand.tmp 65) (Operand.tmp 66), type := 0, pos := "law.go:69", after := #[{ on := 8, ground := Ground.data }, { on := 9, ground := Ground.data }], guard := Option.none }) (v := ?_) (by rfl) ?_ (fun wS hSw => ?_) ?_
              rotate_left
              · kernel_rfl
              · (try dsimp only at hSw); go_simp; (try with_reducible rfl)
              try simp only [Act.put, List.setIfInBounds_toArray, List.set_cons_zero, List.set_cons_succ]
              refine Reg.G_on (o := { dst := some 68, op := Op.fieldAddr 64 (Operand.tmp 67) 1, type := 0, pos := "law.go:69", after := #[{ on := 10, ground := Ground.data }], guard := Option.none }) (v := ?_) (by rfl) ?_ (fun wS hSw => ?_) ?_
              rotate_left
              · kernel_rfl
              · (try dsimp only at hSw); go_simp; (try with_reducible rfl)
              try simp only [Act.put, List.setIfInBounds_toArray, List.set_cons_zero, List.set_cons_succ]
              refine Reg.G_on (o := { dst := some 69, op := Op.load 9 (Operand.tmp 68), type := 9, pos := "law.go:69", after := #[{ on := 11, ground := Ground.data }], guard := Option.none }) (v := ?_) (by rfl) ?_ (fun wS hSw => ?_) ?_
              rotate_left
              · kernel_rfl
              · (try dsimp only at hSw); go_simp; (try with_reducible rfl)
              try simp only [Act.put, List.setIfInBounds_toArray, List.set_cons_zero, List.set_cons_succ]
              refine Reg.G_step (o := { dst := some 63, op := Op.call { callee := Callee.value (Operand.func 32), args := #[Operand.tmp 57, Operand.tmp 62], argTypes := #[59, 9] }, type := 30, pos := "law.go:69", after := #[{ on := 0, ground := Ground.data }, { on := 5, ground := Ground.data }], guard := Option.none }) (by rfl) ?_ (fun K hK => ?_)
              · kernel_rfl
              go_simp
              refine (send F pb _ _ _ m ma s x _ hp.drew n1 HQ.out (by omega) n2 (by omega)).mono ?_
              rintro e w' ⟨rfl, ⟨⟨Fa, qa, ga⟩, mA⟩⟩
              refine hK.out _ _ ?_ (fun hHeld => ?_)
              · exact mA.cell hHeld hFa
              clear hK K
              try simp only [Act.put, List.setIfInBounds_toArray, List.set_cons_zero, List.set_cons_succ]
              rename World => wa
              have bA := mA.below hb.drew hsz fF
              have hq2 := hq.drew.far mA (fun k hg hf => dis k hf hg)
              have szA : wr.heap.size ≤ wa.heap.size := mA.size
              clear hp hq
              skip
              refine Reg.G_step (o := { dst := some 70, op := Op.call { callee := Callee.value (Operand.func 32), args := #[Operand.tmp 64, Operand.tmp 69], argTypes := #[59, 9] }, type := 30, pos := "law.go:69", after := #[{ on := 7, ground := Ground.data }, { on := 12, ground := Ground.data }, { on := 6, ground := Ground.chain }], guard := Option.none }) (by rfl) ?_ (fun K hK => ?_)
              · kernel_rfl
              go_simp
              refine (send G qb _ _ _ m mb s y _ hq2 n1 HQ.out (by omega) n5 (by omega)).mono ?_
              rintro e w' ⟨rfl, ⟨⟨Fb, qB, gb⟩, mB⟩⟩
              refine hK.out _ _ ?_ (fun hHeld => ?_)
              · exact mB.cell hHeld hGa
              clear hK K
              try simp only [Act.put, List.setIfInBounds_toArray, List.set_cons_zero, List.set_cons_succ]
              rename World => wb
              have bB := mB.below bA (by omega) fG
              have qa2 : QP wb Fa pb _ _ _ _ _ _ := qa.far mB (fun k hf hg => by
                rcases ga k hf with h | h
                · exact dis k h hg
                · have h1 := hq2.lt k hg
                  have h2 := hqlt k hg
                  have h3 : wr.heap.size ≤ k := h
                  omega)
              have dis2 : ∀ k, Fa k → ¬ Fb k := fun k hf hg => by
                rcases gb k hg with h | h
                · rcases ga k hf with h' | h'
                  · exact dis k h' h
                  · have h2 := hqlt k h
                    have h3 : wr.heap.size ≤ k := h'
                    omega
                · have := qa.lt k hf
                  omega
              have fF2 : ∀ k, Fa k → w.heap.size ≤ k := fun k hf => (ga k hf).elim (fF k) (fun h => by have h3 : wr.heap.size ≤ k := h; omega)
              have fG2 : ∀ k, Fb k → w.heap.size ≤ k := fun k hf => (gb k hf).elim (fG k) (fun h => by omega)
              clear mA mB ga gb hq2 qa dis fF fG hFa hGa hb bA
              refine Reg.G_on (o := { dst := some 71, op := Op.binOp BinOp.neq 30 (Operand.tmp 63) (Operand.tmp 70) 30, type := 4, pos := "law.go:69", after := #[{ on := 6, ground := Ground.data }, { on := 13, ground := Ground.data }], guard := Option.none }) (v := ?_) (by rfl) ?_ (fun wS hSw => ?_) ?_
              rotate_left
              · kernel_rfl
              · (try dsimp only at hSw); go_simp; (try with_reducible rfl)
              try simp only [Act.put, List.setIfInBounds_toArray, List.set_cons_zero, List.set_cons_succ]
              refine Reg.G_on (o := { dst := some 72, op := Op.move (Operand.tmp 71), type := 4, pos := "law.go:69", after := #[{ on := 14, ground := Ground.data }, { on := 13, ground := Ground.chain }], guard := Option.none }) (v := ?_) (by rfl) ?_ (fun wS hSw => ?_) ?_
              rotate_left
              · kernel_rfl
              · (try dsimp only at hSw); go_simp; (try with_reducible rfl)
              try simp only [Act.put, List.setIfInBounds_toArray, List.set_cons_zero, List.set_cons_succ]
              refine Reg.G_on (o := { dst := some 73, op := Op.move (Operand.tmp 7), type := 59, pos := "law.go:69", after := #[{ on := 15, ground := Ground.guard }], guard := some (15, false) }) (v := ?_) (by rfl) ?_ (fun wS hSw => ?_) ?_
              rotate_left
              · kernel_rfl
              · (try dsimp only at hSw); go_simp; (try with_reducible rfl)
              try simp only [Act.put, List.setIfInBounds_toArray, List.set_cons_zero, List.set_cons_succ]
              refine Reg.G_on (o := { dst := some 75, op := Op.move (Operand.tmp 8), type := 59, pos := "law.go:69", after := #[{ on := 15, ground := Ground.guard }], guard := some (15, false) }) (v := ?_) (by rfl) ?_ (fun wS hSw => ?_) ?_
              rotate_left
              · kernel_rfl
              · (try dsimp only at hSw); go_simp; (try with_reducible rfl)
              try simp only [Act.put, List.setIfInBounds_toArray, List.set_cons_zero, List.set_cons_succ]
              refine Reg.G_step (o := { dst := some 74, op := Op.call { callee := Callee.value (Operand.func 33), args := #[Operand.tmp 73], argTypes := #[59] }, type := 3, pos := "law.go:69", after := #[{ on := 16, ground := Ground.data }, { on := 15, ground := Ground.chain }, { on := 15, ground := Ground.guard }], guard := some (15, false) }) (by rfl) ?_ (fun K hK => ?_)
              · kernel_rfl
              go_simp
              refine (sent _ _ _ _ _ _ _ _ _ qa2).mono ?_
              rintro e w' ⟨rfl, rfl⟩
              refine hK.out _ _ ?_ (fun hHeld => ?_)
              · exact hHeld
              clear hK K
              try simp only [Act.put, List.setIfInBounds_toArray, List.set_cons_zero, List.set_cons_succ]
              skip
              refine Reg.G_step (o := { dst := some 76, op := Op.call { callee := Callee.value (Operand.func 33), args := #[Operand.tmp 75], argTypes := #[59] }, type := 3, pos := "law.go:69", after := #[{ on := 18, ground := Ground.data }, { on := 17, ground := Ground.chain }, { on := 15, ground := Ground.guard }], guard := some (15, false) }) (by rfl) ?_ (fun K hK => ?_)
              · kernel_rfl
              go_simp
              refine (sent _ _ _ _ _ _ _ _ _ qB).mono ?_
              rintro e w' ⟨rfl, rfl⟩
              refine hK.out _ _ ?_ (fun hHeld => ?_)
              · exact hHeld
              clear hK K
              try simp only [Act.put, List.setIfInBounds_toArray, List.set_cons_zero, List.set_cons_succ]
              refine Reg.G_on (o := { dst := some 77, op := Op.binOp BinOp.neq 3 (Operand.tmp 74) (Operand.tmp 76) 3, type := 4, pos := "law.go:69", after := #[{ on := 17, ground := Ground.data }, { on := 19, ground := Ground.data }, { on := 15, ground := Ground.guard }], guard := some (15, false) }) (v := ?_) (by rfl) ?_ (fun wS hSw => ?_) ?_
              rotate_left
              · kernel_rfl
              · (try dsimp only at hSw); go_simp; (try with_reducible rfl)
              try simp only [Act.put, List.setIfInBounds_toArray, List.set_cons_zero, List.set_cons_succ]
              refine Reg.G_on (o := { dst := some 78, op := Op.pick (Operand.tmp 72) (Operand.const (Value.bool true)) (Operand.tmp 77), type := 4, pos := "law.go:69", after := #[{ on := 15, ground := Ground.data }, { on := 20, ground := Ground.data }], guard := Option.none }) (v := ?_) (by rfl) ?_ (fun wS hSw => ?_) ?_
              rotate_left
              · kernel_rfl
              · (try dsimp only at hSw); go_simp; (try with_reducible rfl)
              try simp only [Act.put, List.setIfInBounds_toArray, List.set_cons_zero, List.set_cons_succ]
              refine Reg.G_done ?_
              go_wp2
              go_roundw
              case rel => exact ⟨k + 1, _, _, _, _, _, Fa, Fb, by omega, by go_num, qa2, qB, M1, M2, dis2, fF2, fG2, bB⟩
              case measure => simp [intOf]; omega
            · have h1b : (yk == 1) = false := by simpa using h1
              by_cases h2 : yk = 2
              · subst h2
                go_wp2_with fail
                refine (receive F pb _ _ _ ma s x _ hp).mono ?_
                rintro e wa ⟨rfl, qa, mA⟩
                have bA := mA.below hb hsz fF
                have hq2 := hq.far mA (fun k hg hf => dis k hf hg)
                go_wp2
                go_roundw
                case rel => exact ⟨k + 1, _, _, _, _, _, F, G, by omega, by go_num, qa, hq2, N1.recv (by omega), N2.more (by omega), dis, fF, fG, bA⟩
                case measure => simp [intOf]; omega
              · have h2b : (yk == 2) = false := by simpa using h2
                go_wp2_with fail
                refine (frame F pb _ _ _ ma s x _ hp).mono ?_
                rintro e wa ⟨rfl, qa, mA⟩
                have bA := mA.below hb hsz fF
                have hq2 := hq.far mA (fun k hg hf => dis k hf hg)
                go_wp2_with fail
                refine (frame G qb _ _ _ mb s y _ hq2).mono ?_
                rintro e wb ⟨rfl, qB, mB⟩
                have bB := mB.below bA (by have := mA.size; omega) fG
                have qa2 := qa.far mB dis
                go_wp2
                go_roundw
                case rel => exact ⟨k + 1, _, _, _, _, _, F, G, by omega, by go_num, qa2, qB, N1.frame (by omega), N2.frame (by omega), dis, fF, fG, bB⟩
                case measure => simp [intOf]; omega
      · go_wp2_with fail
        refine (awake _).mono ?_
        rintro e w' ⟨rfl, hb2⟩
        go_wp2
        go_ret
        exact ⟨rfl, hb.trans (hb2.mono hb.size)⟩
end Go.Proofs.Ytkijeknopnjamaa.Queuing
