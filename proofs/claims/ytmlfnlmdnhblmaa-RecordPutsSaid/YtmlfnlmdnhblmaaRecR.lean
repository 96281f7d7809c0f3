import Derived.Test.YtmlfnlmdnhblmaaRec
import Derived.Test.YtmlfnlmdnhblmaaRegion
set_option linter.unusedVariables false
set_option linter.unusedSimpArgs false
namespace Go.Proofs.Ytmlfnlmdnhblmaa.Rec
open Go.RowKit Base Sp Flat Go.Proofs.YtmlfnlmdnhblmaaW.PrintWords Go.Proofs.YtmlfnlmdnhblmaaW.PrintLast Go.Proofs.YtmlfnlmdnhblmaaW.PrintMore Wd Al Buf Smp Go.Proofs.Ytmlfnlmdnhblmaa.PRecordPuts
def rh2 (x : Smp) : List UInt8 := nbytes x.frame 8 ++ nbytes x.run 8
def rm1 (x : Smp) : List UInt8 := rhd x ++ nbytes x.op 1
def rm2 (x : Smp) : List UInt8 := rm1 x ++ nbytes x.writer 1
/-- The bytes before key byte j. -/
def kk (x : Smp) (j : Nat) : List UInt8 := rmd x ++ kby (x.key.take j)
theorem rh2_len (x : Smp) : (rh2 x).length = 16 := by unfold rh2; rw [List.length_append, nbytes_len, nbytes_len]; rfl
theorem rm1_len (x : Smp) : (rm1 x).length = 25 := by unfold rm1; rw [List.length_append, rhd_len, nbytes_len]; rfl
theorem rm2_len (x : Smp) : (rm2 x).length = 26 := by unfold rm2; rw [List.length_append, rm1_len, nbytes_len]; rfl
theorem kk_zero (x : Smp) : kk x 0 = rmd x := by unfold kk; rw [List.take_zero]; exact List.append_nil _
theorem kk_all (x : Smp) : kk x 17 = rmd x ++ kby x.key := by unfold kk; rw [List.take_of_length_le (by rw [key_len]; omega)]
theorem kk_len (x : Smp) (j : Nat) (h : j ≤ 17) : (kk x j).length = 28 + j := by unfold kk; rw [List.length_append, rmd_len, kby_len, List.length_take, key_len]; omega
theorem kk_succ (x : Smp) (j : Nat) (h : j < 17) : tx (kk x j) ++ strOfNums [x.key.getD j 0] = tx (kk x (j + 1)) := by
  have hj : j < x.key.length := by rw [key_len]; exact h
  rw [kby_tx, ← tx_app]
  unfold kk
  rw [List.append_assoc, List.take_succ_eq_append_getElem hj, List.getD_eq_getElem?_getD, List.getElem?_eq_getElem hj]
  unfold kby
  rw [List.map_append]
  rfl
theorem meas17 {j : Nat} (h : j < 17) : 17 - (intOf (Value.int IntKind.i64 ((j : Int) + 1))).toNat < 17 - (intOf (Value.int IntKind.i64 (j : Int))).toNat := by simp [intOf]; omega
theorem pto_flat (L : List UInt8) (n s : Int) (m : Nat) (hl : L.length = m) (hg : gapv m s = 0) (hc : pcode n s = 0) : pto L n s = L ++ nbytes n s := by
  unfold pto
  rw [if_pos hc, pbytes_flat L n s m hl hg]
theorem rput40 (L : List UInt8) (n s : Int) (m : Nat) (hl : L.length = m) (hm : m ≤ 100) (hg : gapv m s = 0) (h0 : 0 ≤ n) (h1 : n < 18446744073709551616) (hc : pcode n s = 0) (w : World) :
    Calls Try.prog 22 #[.string (tx L), .int .u64 n, .int .i64 s] w fun e w' => e = .returned (.string (tx (L ++ nbytes n s))) ∧ Below w.heap.size w w' := by
  have h := rput2_eq L n s (by omega) h0 h1
  refine broadsheetref40_put.calls 12 (tx L) n s _ w ?_
  unfold broadsheetref40_put.f
  rw [h, Option.bind_some, pto_flat L n s m hl hg hc]
theorem zeros_eq (n : Nat) (hn : n ≤ 1000) : broadsheetref02_Zeros.f (n : Int) = some (tx (List.replicate n 0)) := by
  unfold broadsheetref02_Zeros.f
  rw [if_pos (by omega), if_pos (by omega), Int.toNat_natCast, nums_zeros]
theorem zeros (n : Nat) (hn : n ≤ 1000) (w : World) : Calls Try.prog 23 #[.int .i64 (n : Int)] w fun e w' => e = .returned (.string (tx (List.replicate n 0))) ∧ Below w.heap.size w w' :=
  broadsheetref02_Zeros.calls (n : Int) _ w (zeros_eq n hn)
set_option maxRecDepth 20000 in
set_option maxHeartbeats 4000000 in
theorem rput_bad (x : Smp) (hb : bad x = true) (w : World) :
    Calls Try.prog 8 #[.agg (cells x).toArray] w fun e' w' => e' = .returned (.tuple #[.string (rput x).1, .int .i64 (rput x).2]) ∧ Below w.heap.size w w' := by
  have hr : rput x = (⟨#[]⟩, 7) := by unfold rput; rw [if_pos hb]
  rw [hr]
  have b0 : Below w.heap.size w (w.alloc (.cells (cells x).toArray 26)) := (Below.refl _ _).alloc (Nat.le_refl _) _
  have BX := BoxC.of (heap_alloc_new w (.cells (cells x).toArray 26))
  have c0 := BX.c0
  have c1 := BX.c1
  clear BX
  unfold bad at hb
  simp only [Bool.or_eq_true, decide_eq_true_eq] at hb
  by_cases h1 : x.op < 0
  · clear hb
    go_enter Try.func8, Try.ntmps8
    go_wp2
    go_ret2
    exact ⟨rfl, b0⟩
  by_cases h2 : 255 < x.op
  · clear hb
    go_enter Try.func8, Try.ntmps8
    go_wp2
    go_ret2
    exact ⟨rfl, b0⟩
  by_cases h3 : x.writer < 0
  · clear hb
    go_enter Try.func8, Try.ntmps8
    go_wp2
    go_ret2
    exact ⟨rfl, b0⟩
  · have h4 : 255 < x.writer := by omega
    clear hb
    go_enter Try.func8, Try.ntmps8
    go_wp2
    go_ret2
    exact ⟨rfl, b0⟩
set_option maxRecDepth 20000 in
set_option maxHeartbeats 4000000 in
theorem rput_long (x : Smp) (hb : bad x = false) (hl : 512 < x.data.size) (w : World) :
    Calls Try.prog 8 #[.agg (cells x).toArray] w fun e' w' => e' = .returned (.tuple #[.string (rput x).1, .int .i64 (rput x).2]) ∧ Below w.heap.size w w' := by
  have hr : rput x = (⟨#[]⟩, 3) := by unfold rput; rw [if_neg (by rw [hb]; decide), if_pos hl]
  rw [hr]
  have b0 : Below w.heap.size w (w.alloc (.cells (cells x).toArray 26)) := (Below.refl _ _).alloc (Nat.le_refl _) _
  have BX := BoxC.of (heap_alloc_new w (.cells (cells x).toArray 26))
  have c0 := BX.c0
  have c1 := BX.c1
  have c22 := BX.c22
  clear BX
  obtain ⟨h1, h2, h3, h4⟩ := bad_f hb
  have hl2 : (512 : Int) < (x.data.size : Int) := by omega
  clear hb hl
  go_enter Try.func8, Try.ntmps8
  go_wp2
  go_ret2
  exact ⟨rfl, b0⟩
set_option maxRecDepth 20000 in
set_option maxHeartbeats 4000000 in
theorem rput_fine (x : Smp) (hb : bad x = false) (hl : x.data.size ≤ 512) (w : World) :
    Calls Try.prog 8 #[.agg (cells x).toArray] w fun e' w' => e' = .returned (.tuple #[.string (rput x).1, .int .i64 (rput x).2]) ∧ Below w.heap.size w w' := by
  have hr : rput x = (tx (recb x), 0) := by unfold rput; rw [if_neg (by rw [hb]; decide), if_neg (by omega)]
  rw [hr]
  have b0 : Below w.heap.size w (w.alloc (.cells (cells x).toArray 26)) := (Below.refl _ _).alloc (Nat.le_refl _) _
  have h0 := heap_alloc_new w (.cells (cells x).toArray 26)
  have BX := BoxC.of h0
  have c0 := BX.c0
  have c1 := BX.c1
  have c22 := BX.c22
  have c2 := BX.c2
  have c3 := BX.c3
  have c4 := BX.c4
  clear BX
  have GD := Lib.hid x.good
  have HB := Lib.hid (bad_f hb)
  have HS := Lib.hid hl
  obtain ⟨h1, h2, h3, h4⟩ := bad_f hb
  have hl2 : (x.data.size : Int) ≤ 512 := by omega
  have HP1 : ∀ w, Calls Try.prog 22 #[.string ⟨#[]⟩, .int .u64 x.frame, .int .i64 8] w fun e w' => e = .returned (.string (tx (nbytes x.frame 8))) ∧ Below w.heap.size w w' := fun w =>
    rput40 [] x.frame 8 0 rfl (by decide) (by kernel_rfl) (u64r x.good.2.2.1).1 (u64r x.good.2.2.1).2 (pcode8 _ (u64r x.good.2.2.1).2) w
  have HP2 : ∀ w, Calls Try.prog 22 #[.string (tx (nbytes x.frame 8)), .int .u64 x.run, .int .i64 8] w fun e w' => e = .returned (.string (tx (rh2 x))) ∧ Below w.heap.size w w' := fun w => rput40 (nbytes x.frame 8) x.run 8 8 (nbytes_len _ _) (by decide) (by kernel_rfl) (u64r x.good.2.2.2.1).1 (u64r x.good.2.2.2.1).2 (pcode8 _ (u64r x.good.2.2.2.1).2) w
  have HP3 : ∀ w, Calls Try.prog 22 #[.string (tx (rh2 x)), .int .u64 x.seq, .int .i64 8] w fun e w' => e = .returned (.string (tx (rhd x))) ∧ Below w.heap.size w w' := fun w => rput40 (rh2 x) x.seq 8 16 (rh2_len x) (by decide) (by kernel_rfl) (u64r x.good.2.2.2.2.1).1 (u64r x.good.2.2.2.2.1).2 (pcode8 _ (u64r x.good.2.2.2.2.1).2) w
  have HP4 : ∀ w, Calls Try.prog 22 #[.string (tx (rhd x)), .int .u64 (IntKind.u64.wrap x.op), .int .i64 1] w fun e w' => e = .returned (.string (tx (rm1 x))) ∧ Below w.heap.size w w' := fun w => by
    rw [wf_byte h1 (by omega)]
    exact rput40 (rhd x) x.op 1 24 (rhd_len x) (by decide) (by kernel_rfl) h1 (by omega) (pcode1 _ h2) w
  have HP5 : ∀ w, Calls Try.prog 22 #[.string (tx (rm1 x)), .int .u64 (IntKind.u64.wrap x.writer), .int .i64 1] w fun e w' => e = .returned (.string (tx (rm2 x))) ∧ Below w.heap.size w w' := fun w => by
    rw [wf_byte h3 (by omega)]
    exact rput40 (rm1 x) x.writer 1 25 (rm1_len x) (by decide) (by kernel_rfl) h3 (by omega) (pcode1 _ h4) w
  have HP6 : ∀ w, Calls Try.prog 22 #[.string (tx (rm2 x)), .int .u64 (IntKind.u64.wrap (x.data.size : Int)), .int .i64 2] w fun e w' => e = .returned (.string (tx (rmd x))) ∧ Below w.heap.size w w' := fun w => by
    rw [wf_byte (by omega) (by omega)]
    exact rput40 (rm2 x) (x.data.size : Int) 2 26 (rm2_len x) (by decide) (by kernel_rfl) (by omega) (by omega) (pcode2 _ (by omega)) w
  clear hb hl
  obtain ⟨W0, hW0⟩ : ∃ W0, W0 = w.alloc (.cells (cells x).toArray 26) := ⟨_, rfl⟩
  rw [← hW0] at b0 h0 c2 c3 c4
  go_enter Try.func8, Try.ntmps8
  go_wp2_with fail
  rw [← hW0]
  clear hW0 c0 c1 c22 h1 h2 h3 h4 hl2
  refine Reg.wp_plan (S := fun w' => w'.cell? ⟨w.heap.size, 2, none⟩ = some (.int .u64 x.frame) ∧ w'.cell? ⟨w.heap.size, 3, none⟩ = some (.int .u64 x.run) ∧ w'.cell? ⟨w.heap.size, 4, none⟩ = some (.int .u64 x.seq) ∧ w'.heap[w.heap.size]? = some (.cells (cells x).toArray 26 (0, 0))) 10 (.fl 0 (.fl 1 (.fl 3 (.fl 4 (.fl 6 (.fl 7 (.one 2 (.one 5 (.one 8 (.fl 9 .done)))))))))) (by kernel_rfl) (by kernel_rfl) (by kernel_rfl) (by kernel_rfl) (fun _ _ _ d _ h => by cases d <;> exact h) ?_ (fun hHeld => ?_)
  · exact ⟨c2, c3, c4, h0⟩
  refine Reg.G_on (o := { dst := some 28, op := Op.fieldAddr 26 (Operand.tmp 1) 2, type := 0, pos := "ref.go:35", after := #[], guard := Option.none }) (v := ?_) (by rfl) ?_ (fun wS hSw => ?_) ?_
  rotate_left
  · kernel_rfl
  · (try dsimp only at hSw); go_simp; (try with_reducible rfl)
  try simp only [Act.put, List.setIfInBounds_toArray, List.set_cons_zero, List.set_cons_succ]
  refine Reg.G_on (o := { dst := some 29, op := Op.load 22 (Operand.tmp 28), type := 22, pos := "ref.go:35", after := #[{ on := 0, ground := Ground.data }], guard := Option.none }) (v := ?_) (by rfl) ?_ (fun wS hSw => ?_) ?_
  rotate_left
  · kernel_rfl
  · (try dsimp only at hSw); go_simp; (try with_reducible rfl)
  try simp only [Act.put, List.setIfInBounds_toArray, List.set_cons_zero, List.set_cons_succ]
  refine Reg.G_on (o := { dst := some 31, op := Op.fieldAddr 26 (Operand.tmp 1) 3, type := 0, pos := "ref.go:35", after := #[], guard := Option.none }) (v := ?_) (by rfl) ?_ (fun wS hSw => ?_) ?_
  rotate_left
  · kernel_rfl
  · (try dsimp only at hSw); go_simp; (try with_reducible rfl)
  try simp only [Act.put, List.setIfInBounds_toArray, List.set_cons_zero, List.set_cons_succ]
  refine Reg.G_on (o := { dst := some 32, op := Op.load 22 (Operand.tmp 31), type := 22, pos := "ref.go:35", after := #[{ on := 3, ground := Ground.data }], guard := Option.none }) (v := ?_) (by rfl) ?_ (fun wS hSw => ?_) ?_
  rotate_left
  · kernel_rfl
  · (try dsimp only at hSw); go_simp; (try with_reducible rfl)
  try simp only [Act.put, List.setIfInBounds_toArray, List.set_cons_zero, List.set_cons_succ]
  refine Reg.G_on (o := { dst := some 34, op := Op.fieldAddr 26 (Operand.tmp 1) 4, type := 0, pos := "ref.go:35", after := #[], guard := Option.none }) (v := ?_) (by rfl) ?_ (fun wS hSw => ?_) ?_
  rotate_left
  · kernel_rfl
  · (try dsimp only at hSw); go_simp; (try with_reducible rfl)
  try simp only [Act.put, List.setIfInBounds_toArray, List.set_cons_zero, List.set_cons_succ]
  refine Reg.G_on (o := { dst := some 35, op := Op.load 22 (Operand.tmp 34), type := 22, pos := "ref.go:35", after := #[{ on := 6, ground := Ground.data }], guard := Option.none }) (v := ?_) (by rfl) ?_ (fun wS hSw => ?_) ?_
  rotate_left
  · kernel_rfl
  · (try dsimp only at hSw); go_simp; (try with_reducible rfl)
  try simp only [Act.put, List.setIfInBounds_toArray, List.set_cons_zero, List.set_cons_succ]
  refine Reg.G_step (o := { dst := some 30, op := Op.call { callee := Callee.value (Operand.func 22), args := #[Operand.const (Value.string { data := #[] }), Operand.tmp 29, Operand.const (Value.int IntKind.i64 8)], argTypes := #[9, 22, 3] }, type := 9, pos := "ref.go:35", after := #[{ on := 1, ground := Ground.data }], guard := Option.none }) (by rfl) ?_ (fun K hK => ?_)
  · kernel_rfl
  go_simp
  refine (HP1 _).mono ?_
  rintro e w' ⟨rfl, hb1⟩
  refine hK.out _ _ ?_ (fun hHeld => ?_)
  · exact ⟨argb hb1 hHeld.1, argb hb1 hHeld.2.1, argb hb1 hHeld.2.2.1, blk_below hHeld.2.2.2 hb1⟩
  clear hK K
  try simp only [Act.put, List.setIfInBounds_toArray, List.set_cons_zero, List.set_cons_succ]
  skip
  refine Reg.G_step (o := { dst := some 33, op := Op.call { callee := Callee.value (Operand.func 22), args := #[Operand.tmp 30, Operand.tmp 32, Operand.const (Value.int IntKind.i64 8)], argTypes := #[9, 22, 3] }, type := 9, pos := "ref.go:35", after := #[{ on := 2, ground := Ground.data }, { on := 4, ground := Ground.data }, { on := 2, ground := Ground.chain }], guard := Option.none }) (by rfl) ?_ (fun K hK => ?_)
  · kernel_rfl
  go_simp
  refine (HP2 _).mono ?_
  rintro e w' ⟨rfl, hb2⟩
  refine hK.out _ _ ?_ (fun hHeld => ?_)
  · exact ⟨argb hb2 hHeld.1, argb hb2 hHeld.2.1, argb hb2 hHeld.2.2.1, blk_below hHeld.2.2.2 hb2⟩
  clear hK K
  try simp only [Act.put, List.setIfInBounds_toArray, List.set_cons_zero, List.set_cons_succ]
  skip
  refine Reg.G_step (o := { dst := some 36, op := Op.call { callee := Callee.value (Operand.func 22), args := #[Operand.tmp 33, Operand.tmp 35, Operand.const (Value.int IntKind.i64 8)], argTypes := #[9, 22, 3] }, type := 9, pos := "ref.go:35", after := #[{ on := 5, ground := Ground.data }, { on := 7, ground := Ground.data }, { on := 5, ground := Ground.chain }], guard := Option.none }) (by rfl) ?_ (fun K hK => ?_)
  · kernel_rfl
  go_simp
  refine (HP3 _).mono ?_
  rintro e w' ⟨rfl, hb3⟩
  refine hK.out _ _ ?_ (fun hHeld => ?_)
  · exact ⟨argb hb3 hHeld.1, argb hb3 hHeld.2.1, argb hb3 hHeld.2.2.1, blk_below hHeld.2.2.2 hb3⟩
  clear hK K
  try simp only [Act.put, List.setIfInBounds_toArray, List.set_cons_zero, List.set_cons_succ]
  refine Reg.G_on (o := { dst := some 4, op := Op.assign (Operand.tmp 36), type := 9, pos := "ref.go:35", after := #[{ on := 8, ground := Ground.data }, { on := 8, ground := Ground.chain }, { on := 0, ground := Ground.phase }, { on := 1, ground := Ground.phase }, { on := 2, ground := Ground.phase }, { on := 3, ground := Ground.phase }, { on := 4, ground := Ground.phase }, { on := 5, ground := Ground.phase }, { on := 6, ground := Ground.phase }, { on := 7, ground := Ground.phase }, { on := 8, ground := Ground.phase }], guard := Option.none }) (v := ?_) (by rfl) ?_ (fun wS hSw => ?_) ?_
  rotate_left
  · kernel_rfl
  · (try dsimp only at hSw); go_simp; (try with_reducible rfl)
  try simp only [Act.put, List.setIfInBounds_toArray, List.set_cons_zero, List.set_cons_succ]
  refine Reg.G_done ?_
  have bb5 := bstep (bstep (bstep b0.drew hb1) hb2) hb3
  have hx5 := hHeld.2.2.2
  clear hb1 hb2 hb3 HP1 HP2 HP3 hHeld b0 h0 c2 c3 c4
  have BX := BoxC.of hx5
  have c0 := BX.c0
  have c1 := BX.c1
  have c22 := BX.c22
  clear BX
  rename World => w5
  go_wp2_with fail
  refine Reg.wp_plan (S := fun w' => w'.cell? ⟨w.heap.size, 0, none⟩ = some (.int .i64 x.op) ∧ w'.cell? ⟨w.heap.size, 1, none⟩ = some (.int .i64 x.writer) ∧ w'.cell? ⟨w.heap.size, 22, none⟩ = some (.string x.data) ∧ w'.heap[w.heap.size]? = some (.cells (cells x).toArray 26 (0, 0))) 15 (.fl 0 (.fl 1 (.fl 2 (.fl 3 (.fl 5 (.fl 6 (.fl 7 (.fl 9 (.fl 10 (.fl 11 (.fl 12 (.one 4 (.one 8 (.one 13 (.fl 14 .done))))))))))))))) (by kernel_rfl) (by kernel_rfl) (by kernel_rfl) (by kernel_rfl) (fun _ _ _ d _ h => by cases d <;> exact h) ?_ (fun hHeld => ?_)
  · exact ⟨c0, c1, c22, hx5⟩
  refine Reg.G_on (o := { dst := some 37, op := Op.move (Operand.tmp 4), type := 9, pos := "ref.go:36", after := #[], guard := Option.none }) (v := ?_) (by rfl) ?_ (fun wS hSw => ?_) ?_
  rotate_left
  · kernel_rfl
  · (try dsimp only at hSw); go_simp; (try with_reducible rfl)
  try simp only [Act.put, List.setIfInBounds_toArray, List.set_cons_zero, List.set_cons_succ]
  refine Reg.G_on (o := { dst := some 38, op := Op.fieldAddr 26 (Operand.tmp 1) 0, type := 0, pos := "ref.go:36", after := #[], guard := Option.none }) (v := ?_) (by rfl) ?_ (fun wS hSw => ?_) ?_
  rotate_left
  · kernel_rfl
  · (try dsimp only at hSw); go_simp; (try with_reducible rfl)
  try simp only [Act.put, List.setIfInBounds_toArray, List.set_cons_zero, List.set_cons_succ]
  refine Reg.G_on (o := { dst := some 39, op := Op.load 3 (Operand.tmp 38), type := 3, pos := "ref.go:36", after := #[{ on := 1, ground := Ground.data }], guard := Option.none }) (v := ?_) (by rfl) ?_ (fun wS hSw => ?_) ?_
  rotate_left
  · kernel_rfl
  · (try dsimp only at hSw); go_simp; (try with_reducible rfl)
  try simp only [Act.put, List.setIfInBounds_toArray, List.set_cons_zero, List.set_cons_succ]
  refine Reg.G_on (o := { dst := some 40, op := Op.convert 3 22 (Operand.tmp 39), type := 22, pos := "ref.go:36", after := #[{ on := 2, ground := Ground.data }], guard := Option.none }) (v := ?_) (by rfl) ?_ (fun wS hSw => ?_) ?_
  rotate_left
  · kernel_rfl
  · (try dsimp only at hSw); go_simp; (try with_reducible rfl)
  try simp only [Act.put, List.setIfInBounds_toArray, List.set_cons_zero, List.set_cons_succ]
  refine Reg.G_on (o := { dst := some 42, op := Op.fieldAddr 26 (Operand.tmp 1) 1, type := 0, pos := "ref.go:36", after := #[], guard := Option.none }) (v := ?_) (by rfl) ?_ (fun wS hSw => ?_) ?_
  rotate_left
  · kernel_rfl
  · (try dsimp only at hSw); go_simp; (try with_reducible rfl)
  try simp only [Act.put, List.setIfInBounds_toArray, List.set_cons_zero, List.set_cons_succ]
  refine Reg.G_on (o := { dst := some 43, op := Op.load 3 (Operand.tmp 42), type := 3, pos := "ref.go:36", after := #[{ on := 5, ground := Ground.data }], guard := Option.none }) (v := ?_) (by rfl) ?_ (fun wS hSw => ?_) ?_
  rotate_left
  · kernel_rfl
  · (try dsimp only at hSw); go_simp; (try with_reducible rfl)
  try simp only [Act.put, List.setIfInBounds_toArray, List.set_cons_zero, List.set_cons_succ]
  refine Reg.G_on (o := { dst := some 44, op := Op.convert 3 22 (Operand.tmp 43), type := 22, pos := "ref.go:36", after := #[{ on := 6, ground := Ground.data }], guard := Option.none }) (v := ?_) (by rfl) ?_ (fun wS hSw => ?_) ?_
  rotate_left
  · kernel_rfl
  · (try dsimp only at hSw); go_simp; (try with_reducible rfl)
  try simp only [Act.put, List.setIfInBounds_toArray, List.set_cons_zero, List.set_cons_succ]
  refine Reg.G_on (o := { dst := some 46, op := Op.fieldAddr 26 (Operand.tmp 1) 6, type := 0, pos := "ref.go:36", after := #[], guard := Option.none }) (v := ?_) (by rfl) ?_ (fun wS hSw => ?_) ?_
  rotate_left
  · kernel_rfl
  · (try dsimp only at hSw); go_simp; (try with_reducible rfl)
  try simp only [Act.put, List.setIfInBounds_toArray, List.set_cons_zero, List.set_cons_succ]
  refine Reg.G_on (o := { dst := some 47, op := Op.load 9 (Operand.tmp 46), type := 9, pos := "ref.go:36", after := #[{ on := 9, ground := Ground.data }], guard := Option.none }) (v := ?_) (by rfl) ?_ (fun wS hSw => ?_) ?_
  rotate_left
  · kernel_rfl
  · (try dsimp only at hSw); go_simp; (try with_reducible rfl)
  try simp only [Act.put, List.setIfInBounds_toArray, List.set_cons_zero, List.set_cons_succ]
  refine Reg.G_on (o := { dst := some 48, op := Op.call { callee := Callee.builtin Builtin.len, args := #[Operand.tmp 47], argTypes := #[9] }, type := 3, pos := "ref.go:36", after := #[{ on := 10, ground := Ground.data }], guard := Option.none }) (v := ?_) (by rfl) ?_ (fun wS hSw => ?_) ?_
  rotate_left
  · kernel_rfl
  · (try dsimp only at hSw); go_simp; (try with_reducible rfl)
  try simp only [Act.put, List.setIfInBounds_toArray, List.set_cons_zero, List.set_cons_succ]
  refine Reg.G_on (o := { dst := some 49, op := Op.convert 3 22 (Operand.tmp 48), type := 22, pos := "ref.go:36", after := #[{ on := 11, ground := Ground.data }], guard := Option.none }) (v := ?_) (by rfl) ?_ (fun wS hSw => ?_) ?_
  rotate_left
  · kernel_rfl
  · (try dsimp only at hSw); go_simp; (try with_reducible rfl)
  try simp only [Act.put, List.setIfInBounds_toArray, List.set_cons_zero, List.set_cons_succ]
  refine Reg.G_step (o := { dst := some 41, op := Op.call { callee := Callee.value (Operand.func 22), args := #[Operand.tmp 37, Operand.tmp 40, Operand.const (Value.int IntKind.i64 1)], argTypes := #[9, 22, 3] }, type := 9, pos := "ref.go:36", after := #[{ on := 0, ground := Ground.data }, { on := 3, ground := Ground.data }], guard := Option.none }) (by rfl) ?_ (fun K hK => ?_)
  · kernel_rfl
  go_simp
  refine (HP4 _).mono ?_
  rintro e w' ⟨rfl, hb1⟩
  refine hK.out _ _ ?_ (fun hHeld => ?_)
  · exact ⟨argb hb1 hHeld.1, argb hb1 hHeld.2.1, argb hb1 hHeld.2.2.1, blk_below hHeld.2.2.2 hb1⟩
  clear hK K
  try simp only [Act.put, List.setIfInBounds_toArray, List.set_cons_zero, List.set_cons_succ]
  skip
  refine Reg.G_step (o := { dst := some 45, op := Op.call { callee := Callee.value (Operand.func 22), args := #[Operand.tmp 41, Operand.tmp 44, Operand.const (Value.int IntKind.i64 1)], argTypes := #[9, 22, 3] }, type := 9, pos := "ref.go:36", after := #[{ on := 4, ground := Ground.data }, { on := 7, ground := Ground.data }, { on := 4, ground := Ground.chain }], guard := Option.none }) (by rfl) ?_ (fun K hK => ?_)
  · kernel_rfl
  go_simp
  refine (HP5 _).mono ?_
  rintro e w' ⟨rfl, hb2⟩
  refine hK.out _ _ ?_ (fun hHeld => ?_)
  · exact ⟨argb hb2 hHeld.1, argb hb2 hHeld.2.1, argb hb2 hHeld.2.2.1, blk_below hHeld.2.2.2 hb2⟩
  clear hK K
  try simp only [Act.put, List.setIfInBounds_toArray, List.set_cons_zero, List.set_cons_succ]
  skip
  refine Reg.G_step (o := { dst := some 50, op := Op.call { callee := Callee.value (Operand.func 22), args := #[Operand.tmp 45, Operand.tmp 49, Operand.const (Value.int IntKind.i64 2)], argTypes := #[9, 22, 3] }, type := 9, pos := "ref.go:36", after := #[{ on := 8, ground := Ground.data }, { on := 12, ground := Ground.data }, { on := 8, ground := Ground.chain }], guard := Option.none }) (by rfl) ?_ (fun K hK => ?_)
  · kernel_rfl
  go_simp
  refine (HP6 _).mono ?_
  rintro e w' ⟨rfl, hb3⟩
  refine hK.out _ _ ?_ (fun hHeld => ?_)
  · exact ⟨argb hb3 hHeld.1, argb hb3 hHeld.2.1, argb hb3 hHeld.2.2.1, blk_below hHeld.2.2.2 hb3⟩
  clear hK K
  try simp only [Act.put, List.setIfInBounds_toArray, List.set_cons_zero, List.set_cons_succ]
  refine Reg.G_on (o := { dst := some 4, op := Op.assign (Operand.tmp 50), type := 9, pos := "ref.go:36", after := #[{ on := 13, ground := Ground.data }, { on := 13, ground := Ground.chain }, { on := 0, ground := Ground.phase }, { on := 1, ground := Ground.phase }, { on := 2, ground := Ground.phase }, { on := 3, ground := Ground.phase }, { on := 4, ground := Ground.phase }, { on := 5, ground := Ground.phase }, { on := 6, ground := Ground.phase }, { on := 7, ground := Ground.phase }, { on := 8, ground := Ground.phase }, { on := 9, ground := Ground.phase }, { on := 10, ground := Ground.phase }, { on := 11, ground := Ground.phase }, { on := 12, ground := Ground.phase }, { on := 13, ground := Ground.phase }], guard := Option.none }) (v := ?_) (by rfl) ?_ (fun wS hSw => ?_) ?_
  rotate_left
  · kernel_rfl
  · (try dsimp only at hSw); go_simp; (try with_reducible rfl)
  try simp only [Act.put, List.setIfInBounds_toArray, List.set_cons_zero, List.set_cons_succ]
  refine Reg.G_done ?_
  have bb6 := bstep (bstep (bstep bb5.drew hb1) hb2) hb3
  have hx6 := hHeld.2.2.2
  clear hb1 hb2 hb3 HP4 HP5 HP6 hHeld hx5 bb5 c0 c1 c22
  rename World => w6
  have hk0 := kk_zero x
  go_wp2_with fail
  go_loopw [4, 5] (fun v4 v5 wr => ∃ j : Nat, v5 = .int .i64 (j : Int) ∧ v4 = .string (tx (kk x j)) ∧ j ≤ 17 ∧ wr.heap[w.heap.size]? = some (.cells (cells x).toArray 26 (0, 0)) ∧ Below w.heap.size w wr) (fun _ i _ => (17 - (intOf i).toNat))
  case atStart => exact ⟨0, rfl, by rw [hk0], by decide, hx6, bb6⟩
  case round =>
    clear hx6 bb6 hk0
    obtain ⟨j, rfl, rfl, hj, hxr, bbr⟩ := hrel
    by_cases hlt : j < 17
    · have j0 : (0 : Int) ≤ (j : Int) := by omega
      have j1 : (j : Int) < 17 := by omega
      have BX := BoxC.of hxr
      have ck := BX.ck j hlt
      clear BX
      have hwj : wrap64 ((j : Int) + 1) = ((j + 1 : Nat) : Int) := by unfold wrap64; omega
      have hsum := kk_succ x j hlt
      have hz : (tx (kk x j)).size + (strOfNums [x.key.getD j 0]).size ≤ 100 := by rw [tx_size, kk_len x j hj, strOfNums_size]; simp; omega
      generalize x.key.getD j 0 = v at *
      have hcv := run_convert_bytes_arg (P := Try.prog) (wr.alloc (.cells #[.int .u8 v] 5)) 46 5 Try.underlying46 Try.underlying5 wr.heap.size 0 1 1 [v] rfl (fun i hi => by
        have : i = 0 := by omega
        subst this
        rw [blk_cell (heap_alloc_new _ _)]
        rfl) 9 Try.underlying9
      have hlt2 := Lib.hid hlt
      have hxr2 := blk_alloc hxr (.cells #[.int .u8 v] 5)
      have bbr2 := bbr.alloc bbr.size (.cells #[.int .u8 v] 5)
      clear hlt hj hxr bbr
      go_wp2_with fail
      exact ⟨⟨j + 1, rfl, rfl, hlt2.out, hxr2, bbr2⟩, meas17 hlt2.out⟩
    · have hk : j = 17 := by omega
      subst hk
      clear hlt hj
      have BX := BoxC.of hxr
      have c22 := BX.c22
      clear BX hxr
      have hn := HS.out
      have hsum : tx (kk x 17) ++ x.data = tx (rbd x) := by rw [kk_all]; unfold rbd; rw [tx_app (rmd x ++ kby x.key) x.data.data.toList]; rfl
      have hz : (tx (kk x 17)).size + x.data.size ≤ 1000 := by rw [tx_size, kk_len x 17 (by decide)]; omega
      have hz2 : (tx (rbd x)).size = 45 + x.data.size := by rw [tx_size, rbd_len]
      have hgp := rgp_le x
      have hrs : rsz (x.data.size : Int) = 45 + (x.data.size : Int) + (rgp x : Int) := by
        have := gapv_le (45 + (x.data.size : Int)) 8
        unfold rsz rgp
        rw [if_neg (by omega)]
        omega
      have hP := rsize (x.data.size : Int) (by omega) wr
      rw [hrs] at hP
      have hQ := fun w => zeros (rgp x) (by omega) w
      have hsum2 : tx (rbd x) ++ tx (List.replicate (rgp x) 0) = tx (recb x) := by unfold recb; rw [tx_app]
      have hz3 : (tx (rbd x)).size + (tx (List.replicate (rgp x) 0)).size ≤ 2000 := by rw [hz2, tx_size, List.length_replicate]; omega
      have hsub : wrap64 (45 + (x.data.size : Int) + (rgp x : Int) - ((tx (rbd x)).size : Int)) = (rgp x : Int) := by rw [hz2]; unfold wrap64; omega
      clear hn hgp hrs hz2
      generalize rgp x = q at *
      go_wp2_with fail
      refine hP.mono ?_
      rintro e w7 ⟨rfl, b7⟩
      go_wp2_with fail
      refine (hQ _).mono ?_
      rintro e w8 ⟨rfl, b8⟩
      go_wp2
      go_ret2
      exact ⟨rfl, bstep (bstep bbr b7) b8⟩
theorem rputs (x : Smp) (w : World) :
    Calls Try.prog 8 #[.agg (cells x).toArray] w fun e' w' => e' = .returned (.tuple #[.string (rput x).1, .int .i64 (rput x).2]) ∧ Below w.heap.size w w' := by
  by_cases hb : bad x = true
  · exact rput_bad x hb w
  · have hb2 : bad x = false := by simpa using hb
    by_cases hl : 512 < x.data.size
    · exact rput_long x hb2 hl w
    · exact rput_fine x hb2 (by omega) w
end Go.Proofs.Ytmlfnlmdnhblmaa.Rec
