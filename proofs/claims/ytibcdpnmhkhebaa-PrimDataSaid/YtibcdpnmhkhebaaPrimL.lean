import Derived.Test.YtibcdpnmhkhebaaPrimE
import Derived.Test.YtibcdpnmhkhebaaPrimK
import Derived.Test.YtibcdpnmhkhebaaRegion
import Derived.Test.YtibcdpnmhkhebaaStep
set_option linter.unusedVariables false
set_option linter.unusedSimpArgs false
namespace Go.Proofs.Ytibcdpnmhkhebaa.Prim
open Go.RowKit Base Flat Go.Proofs.YtibcdpnmhkhebaaW.PrintWords Go.Proofs.YtibcdpnmhkhebaaW.PrintLast Go.Proofs.YtibcdpnmhkhebaaW.PrintMore Wd Go.Proofs.Ytibcdpnmhkhebaa.PPrimData
set_option maxRecDepth 20000 in
set_option maxHeartbeats 4000000 in
theorem data (k n : Int) (k1 : Int) (s1 : Bool) (n1 : Int) (t1 : ByteArray) (k2 : Int) (s2 : Bool) (n2 : Int) (t2 : ByteArray) (h0 : 0 ≤ n) (h1 : n < 18446744073709551616) (q0 : 0 ≤ n1) (q1 : n1 < 18446744073709551616) (q2 : 0 ≤ n2) (w : World) :
    Calls Try.prog 7 #[.int .i64 k, .int .u64 n, .agg #[.int .i64 k1, .bool s1, .int .u64 n1, .string t1, .int .i64 k2, .bool s2, .int .u64 n2, .string t2]] w fun e w' => e = .returned (.bool true) ∧ Below w.heap.size w w' := by
  have HO := fun w => of_ k k1 s1 n1 t1 q0 q1 w
  obtain ⟨v, hv, hv2⟩ := rof k k1 s1 n1 t1 q0 q1
  have HRO := fun w => broadsheetref05_Of.calls 81 k k1 s1 n1 t1 _ _ w hv
  have HD := fun w => datum k n h0 h1 w
  have HRD := fun w => broadsheetref05_Datum.calls 12 k n _ _ _ _ w (rdatum k n h0 h1)
  have HC := fun w => cmp_ k1 s1 n1 t1 k2 s2 n2 t2 q0 q2 w
  have HRC := fun w => rcmp_ k1 s1 n1 t1 k2 s2 n2 t2 q0 q2 w
  have HA := fun w => awake w
  clear hv h0 h1 q0 q1 q2
  generalize dcmp k1 s1 n1 t1 k2 s2 n2 t2 = cc at *
  generalize dat k n = dd at *
  obtain ⟨d0, d1, d2⟩ := dd
  have hof : ofv k k1 s1 n1 t1 = if ofb k k1 s1 n1 t1 then nn s1 n1 else 0 := rfl
  rw [hof] at HO
  clear hof
  have b0 : Below w.heap.size w (w.alloc (.cells #[.int .i64 k1, .bool s1, .int .u64 n1, .string t1, .int .i64 k2, .bool s2, .int .u64 n2, .string t2] 51)) := (Below.refl _ _).alloc (Nat.le_refl _) _
  have h0 : (w.alloc (.cells #[.int .i64 k1, .bool s1, .int .u64 n1, .string t1, .int .i64 k2, .bool s2, .int .u64 n2, .string t2] 51)).heap[w.heap.size]? = some (.cells #[.int .i64 k1, .bool s1, .int .u64 n1, .string t1, .int .i64 k2, .bool s2, .int .u64 n2, .string t2] 51 (0, 0)) := heap_alloc_new _ _
  generalize ofb k k1 s1 n1 t1 = b at *
  cases b with
  | true =>
    rw [if_pos rfl, ← hv2 rfl] at HO
    clear hv2
    obtain ⟨W0, hW0⟩ : ∃ W0, W0 = w.alloc (.cells #[.int .i64 k1, .bool s1, .int .u64 n1, .string t1, .int .i64 k2, .bool s2, .int .u64 n2, .string t2] 51) := ⟨_, rfl⟩
    rw [← hW0] at b0 h0
    go_enter Try.func7, Try.ntmps7
    go_wp2_with fail
    rw [← hW0]
    clear hW0
    refine (HO _).mono ?_
    rintro e' w1 ⟨rfl, b1⟩
    have HH := (b1.block _ (blk_lt h0)).trans h0
    have b2 := bstep b0 b1
    clear h0 b0 b1
    have c0 : w1.cell? ⟨w.heap.size, 0, none⟩ = some (.int .i64 k1) := blk_cell HH 0
    have c1 : w1.cell? ⟨w.heap.size, 1, none⟩ = some (.bool s1) := blk_cell HH 1
    have c2 : w1.cell? ⟨w.heap.size, 2, none⟩ = some (.int .u64 n1) := blk_cell HH 2
    have c3 : w1.cell? ⟨w.heap.size, 3, none⟩ = some (.string t1) := blk_cell HH 3
    go_wp2_with fail
    refine (HRO _).mono ?_
    rintro e' w2 ⟨rfl, b3⟩
    have HH := (b3.block _ (blk_lt HH)).trans HH
    have b2 := bstep b2 b3
    clear c0 c1 c2 c3 b3
    have HL := Lib.hid HH
    clear HH
    go_wp2_with fail
    have HH := HL.out
    refine Reg.wp_plan (S := fun w' => w'.cell? ⟨w.heap.size, 0, none⟩ = some (.int .i64 k1) ∧ w'.cell? ⟨w.heap.size, 1, none⟩ = some (.bool s1) ∧ w'.cell? ⟨w.heap.size, 2, none⟩ = some (.int .u64 n1) ∧ w'.cell? ⟨w.heap.size, 3, none⟩ = some (.string t1) ∧ w'.cell? ⟨w.heap.size, 4, none⟩ = some (.int .i64 k2) ∧ w'.cell? ⟨w.heap.size, 5, none⟩ = some (.bool s2) ∧ w'.cell? ⟨w.heap.size, 6, none⟩ = some (.int .u64 n2) ∧ w'.cell? ⟨w.heap.size, 7, none⟩ = some (.string t2)) 34 (.fl 0 (.fl 1 (.fl 3 (.fl 4 (.one 2 (.one 5 (.fl 6 (.fl 7 (.fl 8 (.fl 9 (.fl 10 (.fl 11 (.fl 12 (.fl 13 (.fl 14 (.fl 15 (.fl 16 (.fl 17 (.fl 18 (.fl 19 (.fl 20 (.fl 21 (.fl 23 (.fl 24 (.fl 25 (.fl 26 (.one 22 (.one 27 (.fl 28 (.fl 29 (.fl 30 (.one 31 (.fl 32 (.fl 33 .done)))))))))))))))))))))))))))))))))) (by kernel_rfl) (by kernel_rfl) (by kernel_rfl) (by kernel_rfl) (fun _ _ _ d _ h => by cases d <;> exact h) ?_ (fun hHeld => ?_)
    · exact ⟨blk_cell HH 0, blk_cell HH 1, blk_cell HH 2, blk_cell HH 3, blk_cell HH 4, blk_cell HH 5, blk_cell HH 6, blk_cell HH 7⟩
    refine Reg.G_on (o := { dst := some 27, op := Op.move (Operand.tmp 0), type := 3, pos := "law.go:28", after := #[], guard := Option.none }) (v := ?_) (by rfl) ?_ (fun wS hSw => ?_) ?_
    rotate_left
    · kernel_rfl
    · (try dsimp only at hSw); go_simp; (try with_reducible rfl)
    try simp only [Act.put, List.setIfInBounds_toArray, List.set_cons_zero, List.set_cons_succ]
    refine Reg.G_on (o := { dst := some 28, op := Op.move (Operand.tmp 1), type := 22, pos := "law.go:28", after := #[], guard := Option.none }) (v := ?_) (by rfl) ?_ (fun wS hSw => ?_) ?_
    rotate_left
    · kernel_rfl
    · (try dsimp only at hSw); go_simp; (try with_reducible rfl)
    try simp only [Act.put, List.setIfInBounds_toArray, List.set_cons_zero, List.set_cons_succ]
    refine Reg.G_on (o := { dst := some 30, op := Op.move (Operand.tmp 0), type := 3, pos := "law.go:28", after := #[], guard := Option.none }) (v := ?_) (by rfl) ?_ (fun wS hSw => ?_) ?_
    rotate_left
    · kernel_rfl
    · (try dsimp only at hSw); go_simp; (try with_reducible rfl)
    try simp only [Act.put, List.setIfInBounds_toArray, List.set_cons_zero, List.set_cons_succ]
    refine Reg.G_on (o := { dst := some 31, op := Op.move (Operand.tmp 1), type := 22, pos := "law.go:28", after := #[], guard := Option.none }) (v := ?_) (by rfl) ?_ (fun wS hSw => ?_) ?_
    rotate_left
    · kernel_rfl
    · (try dsimp only at hSw); go_simp; (try with_reducible rfl)
    try simp only [Act.put, List.setIfInBounds_toArray, List.set_cons_zero, List.set_cons_succ]
    refine Reg.G_step (o := { dst := some 29, op := Op.call { callee := Callee.value (Operand.func 29), args := #[Operand.tmp 27, Operand.tmp 28], argTypes := #[3, 22] }, type := 31, pos := "law.go:28", after := #[{ on := 0, ground := Ground.data }, { on := 1, ground := Ground.data }], guard := Option.none }) (by rfl) ?_ (fun K hK => ?_)
    · kernel_rfl
    go_simp
    refine (HD _).mono ?_
    rintro e w' ⟨rfl, hb⟩
    refine hK.out _ _ ?_ (fun hHeld => ?_)
    · exact ⟨argb hb hHeld.1, argb hb hHeld.2.1, argb hb hHeld.2.2.1, argb hb hHeld.2.2.2.1, argb hb hHeld.2.2.2.2.1, argb hb hHeld.2.2.2.2.2.1, argb hb hHeld.2.2.2.2.2.2.1, argb hb hHeld.2.2.2.2.2.2.2⟩
    clear hK K
    try simp only [Act.put, List.setIfInBounds_toArray, List.set_cons_zero, List.set_cons_succ]
    skip
    have hb1 := hb
    clear hb
    refine Reg.G_step (o := { dst := some 32, op := Op.call { callee := Callee.value (Operand.func 42), args := #[Operand.tmp 30, Operand.tmp 31], argTypes := #[3, 22] }, type := 31, pos := "law.go:28", after := #[{ on := 3, ground := Ground.data }, { on := 4, ground := Ground.data }, { on := 2, ground := Ground.chain }], guard := Option.none }) (by rfl) ?_ (fun K hK => ?_)
    · kernel_rfl
    go_simp
    refine (HRD _).mono ?_
    rintro e w' ⟨rfl, hb⟩
    refine hK.out _ _ ?_ (fun hHeld => ?_)
    · exact ⟨argb hb hHeld.1, argb hb hHeld.2.1, argb hb hHeld.2.2.1, argb hb hHeld.2.2.2.1, argb hb hHeld.2.2.2.2.1, argb hb hHeld.2.2.2.2.2.1, argb hb hHeld.2.2.2.2.2.2.1, argb hb hHeld.2.2.2.2.2.2.2⟩
    clear hK K
    try simp only [Act.put, List.setIfInBounds_toArray, List.set_cons_zero, List.set_cons_succ]
    refine Reg.G_on (o := { dst := some 33, op := Op.binOp BinOp.eql 31 (Operand.tmp 29) (Operand.tmp 32) 31, type := 4, pos := "law.go:28", after := #[{ on := 2, ground := Ground.data }, { on := 5, ground := Ground.data }], guard := Option.none }) (v := ?_) (by rfl) ?_ (fun wS hSw => ?_) ?_
    rotate_left
    · kernel_rfl
    · (try dsimp only at hSw); go_simp; (try with_reducible rfl)
    try simp only [Act.put, List.setIfInBounds_toArray, List.set_cons_zero, List.set_cons_succ]
    refine Reg.G_on (o := { dst := some 34, op := Op.move (Operand.tmp 33), type := 4, pos := "law.go:28", after := #[{ on := 6, ground := Ground.data }, { on := 5, ground := Ground.chain }], guard := Option.none }) (v := ?_) (by rfl) ?_ (fun wS hSw => ?_) ?_
    rotate_left
    · kernel_rfl
    · (try dsimp only at hSw); go_simp; (try with_reducible rfl)
    try simp only [Act.put, List.setIfInBounds_toArray, List.set_cons_zero, List.set_cons_succ]
    refine Reg.G_on (o := { dst := some 35, op := Op.move (Operand.tmp 7), type := 22, pos := "law.go:28", after := #[{ on := 7, ground := Ground.guard }], guard := some (7, true) }) (v := ?_) (by rfl) ?_ (fun wS hSw => ?_) ?_
    rotate_left
    · kernel_rfl
    · (try dsimp only at hSw); go_simp; (try with_reducible rfl)
    try simp only [Act.put, List.setIfInBounds_toArray, List.set_cons_zero, List.set_cons_succ]
    refine Reg.G_on (o := { dst := some 36, op := Op.move (Operand.tmp 9), type := 22, pos := "law.go:28", after := #[{ on := 7, ground := Ground.guard }], guard := some (7, true) }) (v := ?_) (by rfl) ?_ (fun wS hSw => ?_) ?_
    rotate_left
    · kernel_rfl
    · (try dsimp only at hSw); go_simp; (try with_reducible rfl)
    try simp only [Act.put, List.setIfInBounds_toArray, List.set_cons_zero, List.set_cons_succ]
    refine Reg.G_on (o := { dst := some 37, op := Op.binOp BinOp.eql 22 (Operand.tmp 35) (Operand.tmp 36) 22, type := 4, pos := "law.go:28", after := #[{ on := 8, ground := Ground.data }, { on := 9, ground := Ground.data }, { on := 7, ground := Ground.guard }], guard := some (7, true) }) (v := ?_) (by rfl) ?_ (fun wS hSw => ?_) ?_
    rotate_left
    · kernel_rfl
    · (try dsimp only at hSw); go_simp; (try with_reducible rfl)
    try simp only [Act.put, List.setIfInBounds_toArray, List.set_cons_zero, List.set_cons_succ]
    refine Reg.G_on (o := { dst := some 38, op := Op.pick (Operand.tmp 34) (Operand.tmp 37) (Operand.const (Value.bool false)), type := 4, pos := "law.go:28", after := #[{ on := 7, ground := Ground.data }, { on := 10, ground := Ground.data }], guard := Option.none }) (v := ?_) (by rfl) ?_ (fun wS hSw => ?_) ?_
    rotate_left
    · kernel_rfl
    · (try dsimp only at hSw); go_simp; (try with_reducible rfl)
    try simp only [Act.put, List.setIfInBounds_toArray, List.set_cons_zero, List.set_cons_succ]
    refine Reg.G_on (o := { dst := some 39, op := Op.move (Operand.tmp 38), type := 4, pos := "law.go:28", after := #[{ on := 11, ground := Ground.data }, { on := 7, ground := Ground.chain }], guard := Option.none }) (v := ?_) (by rfl) ?_ (fun wS hSw => ?_) ?_
    rotate_left
    · kernel_rfl
    · (try dsimp only at hSw); go_simp; (try with_reducible rfl)
    try simp only [Act.put, List.setIfInBounds_toArray, List.set_cons_zero, List.set_cons_succ]
    refine Reg.G_on (o := { dst := some 40, op := Op.move (Operand.tmp 8), type := 4, pos := "law.go:28", after := #[{ on := 12, ground := Ground.guard }], guard := some (12, true) }) (v := ?_) (by rfl) ?_ (fun wS hSw => ?_) ?_
    rotate_left
    · kernel_rfl
    · (try dsimp only at hSw); go_simp; (try with_reducible rfl)
    try simp only [Act.put, List.setIfInBounds_toArray, List.set_cons_zero, List.set_cons_succ]
    refine Reg.G_on (o := { dst := some 41, op := Op.move (Operand.tmp 10), type := 4, pos := "law.go:28", after := #[{ on := 12, ground := Ground.guard }], guard := some (12, true) }) (v := ?_) (by rfl) ?_ (fun wS hSw => ?_) ?_
    rotate_left
    · kernel_rfl
    · (try dsimp only at hSw); go_simp; (try with_reducible rfl)
    try simp only [Act.put, List.setIfInBounds_toArray, List.set_cons_zero, List.set_cons_succ]
    refine Reg.G_on (o := { dst := some 42, op := Op.binOp BinOp.eql 4 (Operand.tmp 40) (Operand.tmp 41) 4, type := 4, pos := "law.go:28", after := #[{ on := 13, ground := Ground.data }, { on := 14, ground := Ground.data }, { on := 12, ground := Ground.guard }], guard := some (12, true) }) (v := ?_) (by rfl) ?_ (fun wS hSw => ?_) ?_
    rotate_left
    · kernel_rfl
    · (try dsimp only at hSw); go_simp; (try with_reducible rfl)
    try simp only [Act.put, List.setIfInBounds_toArray, List.set_cons_zero, List.set_cons_succ]
    refine Reg.G_on (o := { dst := some 43, op := Op.pick (Operand.tmp 39) (Operand.tmp 42) (Operand.const (Value.bool false)), type := 4, pos := "law.go:28", after := #[{ on := 12, ground := Ground.data }, { on := 15, ground := Ground.data }], guard := Option.none }) (v := ?_) (by rfl) ?_ (fun wS hSw => ?_) ?_
    rotate_left
    · kernel_rfl
    · (try dsimp only at hSw); go_simp; (try with_reducible rfl)
    try simp only [Act.put, List.setIfInBounds_toArray, List.set_cons_zero, List.set_cons_succ]
    refine Reg.G_on (o := { dst := some 44, op := Op.move (Operand.tmp 43), type := 4, pos := "law.go:28", after := #[{ on := 16, ground := Ground.data }, { on := 12, ground := Ground.chain }], guard := Option.none }) (v := ?_) (by rfl) ?_ (fun wS hSw => ?_) ?_
    rotate_left
    · kernel_rfl
    · (try dsimp only at hSw); go_simp; (try with_reducible rfl)
    try simp only [Act.put, List.setIfInBounds_toArray, List.set_cons_zero, List.set_cons_succ]
    refine Reg.G_on (o := { dst := some 45, op := Op.indexAddr 51 (Operand.tmp 5) (Operand.const (Value.int IntKind.i64 0)), type := 0, pos := "law.go:28", after := #[{ on := 17, ground := Ground.guard }], guard := some (17, true) }) (v := ?_) (by rfl) ?_ (fun wS hSw => ?_) ?_
    rotate_left
    · kernel_rfl
    · (try dsimp only at hSw); go_simp; (try with_reducible rfl)
    try simp only [Act.put, List.setIfInBounds_toArray, List.set_cons_zero, List.set_cons_succ]
    refine Reg.G_on (o := { dst := some 46, op := Op.load 31 (Operand.tmp 45), type := 31, pos := "law.go:28", after := #[{ on := 18, ground := Ground.data }, { on := 17, ground := Ground.guard }], guard := some (17, true) }) (v := ?_) (by rfl) ?_ (fun wS hSw => ?_) ?_
    rotate_left
    · kernel_rfl
    · (try dsimp only at hSw); go_simp; (try with_reducible rfl)
    try simp only [Act.put, List.setIfInBounds_toArray, List.set_cons_zero, List.set_cons_succ]
    refine Reg.G_on (o := { dst := some 47, op := Op.indexAddr 51 (Operand.tmp 5) (Operand.const (Value.int IntKind.i64 1)), type := 0, pos := "law.go:28", after := #[{ on := 17, ground := Ground.guard }], guard := some (17, true) }) (v := ?_) (by rfl) ?_ (fun wS hSw => ?_) ?_
    rotate_left
    · kernel_rfl
    · (try dsimp only at hSw); go_simp; (try with_reducible rfl)
    try simp only [Act.put, List.setIfInBounds_toArray, List.set_cons_zero, List.set_cons_succ]
    refine Reg.G_on (o := { dst := some 48, op := Op.load 31 (Operand.tmp 47), type := 31, pos := "law.go:28", after := #[{ on := 20, ground := Ground.data }, { on := 17, ground := Ground.guard }], guard := some (17, true) }) (v := ?_) (by rfl) ?_ (fun wS hSw => ?_) ?_
    rotate_left
    · kernel_rfl
    · (try dsimp only at hSw); go_simp; (try with_reducible rfl)
    try simp only [Act.put, List.setIfInBounds_toArray, List.set_cons_zero, List.set_cons_succ]
    refine Reg.G_on (o := { dst := some 50, op := Op.indexAddr 51 (Operand.tmp 5) (Operand.const (Value.int IntKind.i64 0)), type := 0, pos := "law.go:28", after := #[{ on := 17, ground := Ground.guard }], guard := some (17, true) }) (v := ?_) (by rfl) ?_ (fun wS hSw => ?_) ?_
    rotate_left
    · kernel_rfl
    · (try dsimp only at hSw); go_simp; (try with_reducible rfl)
    try simp only [Act.put, List.setIfInBounds_toArray, List.set_cons_zero, List.set_cons_succ]
    refine Reg.G_on (o := { dst := some 51, op := Op.load 31 (Operand.tmp 50), type := 31, pos := "law.go:28", after := #[{ on := 23, ground := Ground.data }, { on := 17, ground := Ground.guard }], guard := some (17, true) }) (v := ?_) (by rfl) ?_ (fun wS hSw => ?_) ?_
    rotate_left
    · kernel_rfl
    · (try dsimp only at hSw); go_simp; (try with_reducible rfl)
    try simp only [Act.put, List.setIfInBounds_toArray, List.set_cons_zero, List.set_cons_succ]
    refine Reg.G_on (o := { dst := some 52, op := Op.indexAddr 51 (Operand.tmp 5) (Operand.const (Value.int IntKind.i64 1)), type := 0, pos := "law.go:28", after := #[{ on := 17, ground := Ground.guard }], guard := some (17, true) }) (v := ?_) (by rfl) ?_ (fun wS hSw => ?_) ?_
    rotate_left
    · kernel_rfl
    · (try dsimp only at hSw); go_simp; (try with_reducible rfl)
    try simp only [Act.put, List.setIfInBounds_toArray, List.set_cons_zero, List.set_cons_succ]
    refine Reg.G_on (o := { dst := some 53, op := Op.load 31 (Operand.tmp 52), type := 31, pos := "law.go:28", after := #[{ on := 25, ground := Ground.data }, { on := 17, ground := Ground.guard }], guard := some (17, true) }) (v := ?_) (by rfl) ?_ (fun wS hSw => ?_) ?_
    rotate_left
    · kernel_rfl
    · (try dsimp only at hSw); go_simp; (try with_reducible rfl)
    try simp only [Act.put, List.setIfInBounds_toArray, List.set_cons_zero, List.set_cons_succ]
    have hb1 := bstep hb1 hb
    clear hb
    refine Reg.G_step (o := { dst := some 49, op := Op.call { callee := Callee.value (Operand.func 43), args := #[Operand.tmp 46, Operand.tmp 48], argTypes := #[31, 31] }, type := 3, pos := "law.go:28", after := #[{ on := 19, ground := Ground.data }, { on := 21, ground := Ground.data }, { on := 17, ground := Ground.chain }, { on := 17, ground := Ground.guard }], guard := some (17, true) }) (by rfl) ?_ (fun K hK => ?_)
    · kernel_rfl
    go_simp
    refine (HC _).mono ?_
    rintro e w' ⟨rfl, hb⟩
    refine hK.out _ _ ?_ (fun hHeld => ?_)
    · exact ⟨argb hb hHeld.1, argb hb hHeld.2.1, argb hb hHeld.2.2.1, argb hb hHeld.2.2.2.1, argb hb hHeld.2.2.2.2.1, argb hb hHeld.2.2.2.2.2.1, argb hb hHeld.2.2.2.2.2.2.1, argb hb hHeld.2.2.2.2.2.2.2⟩
    clear hK K
    try simp only [Act.put, List.setIfInBounds_toArray, List.set_cons_zero, List.set_cons_succ]
    skip
    have hb1 := bstep hb1 hb
    clear hb
    refine Reg.G_step (o := { dst := some 54, op := Op.call { callee := Callee.value (Operand.func 44), args := #[Operand.tmp 51, Operand.tmp 53], argTypes := #[31, 31] }, type := 3, pos := "law.go:28", after := #[{ on := 24, ground := Ground.data }, { on := 26, ground := Ground.data }, { on := 22, ground := Ground.chain }, { on := 17, ground := Ground.guard }], guard := some (17, true) }) (by rfl) ?_ (fun K hK => ?_)
    · kernel_rfl
    go_simp
    refine (HRC _).mono ?_
    rintro e w' ⟨rfl, hb⟩
    refine hK.out _ _ ?_ (fun hHeld => ?_)
    · exact ⟨argb hb hHeld.1, argb hb hHeld.2.1, argb hb hHeld.2.2.1, argb hb hHeld.2.2.2.1, argb hb hHeld.2.2.2.2.1, argb hb hHeld.2.2.2.2.2.1, argb hb hHeld.2.2.2.2.2.2.1, argb hb hHeld.2.2.2.2.2.2.2⟩
    clear hK K
    try simp only [Act.put, List.setIfInBounds_toArray, List.set_cons_zero, List.set_cons_succ]
    refine Reg.G_on (o := { dst := some 55, op := Op.binOp BinOp.eql 3 (Operand.tmp 49) (Operand.tmp 54) 3, type := 4, pos := "law.go:28", after := #[{ on := 22, ground := Ground.data }, { on := 27, ground := Ground.data }, { on := 17, ground := Ground.guard }], guard := some (17, true) }) (v := ?_) (by rfl) ?_ (fun wS hSw => ?_) ?_
    rotate_left
    · kernel_rfl
    · (try dsimp only at hSw); go_simp; (try with_reducible rfl)
    try simp only [Act.put, List.setIfInBounds_toArray, List.set_cons_zero, List.set_cons_succ]
    refine Reg.G_on (o := { dst := some 56, op := Op.pick (Operand.tmp 44) (Operand.tmp 55) (Operand.const (Value.bool false)), type := 4, pos := "law.go:28", after := #[{ on := 17, ground := Ground.data }, { on := 28, ground := Ground.data }], guard := Option.none }) (v := ?_) (by rfl) ?_ (fun wS hSw => ?_) ?_
    rotate_left
    · kernel_rfl
    · (try dsimp only at hSw); go_simp; (try with_reducible rfl)
    try simp only [Act.put, List.setIfInBounds_toArray, List.set_cons_zero, List.set_cons_succ]
    refine Reg.G_on (o := { dst := some 57, op := Op.move (Operand.tmp 56), type := 4, pos := "law.go:28", after := #[{ on := 29, ground := Ground.data }, { on := 27, ground := Ground.chain }], guard := Option.none }) (v := ?_) (by rfl) ?_ (fun wS hSw => ?_) ?_
    rotate_left
    · kernel_rfl
    · (try dsimp only at hSw); go_simp; (try with_reducible rfl)
    try simp only [Act.put, List.setIfInBounds_toArray, List.set_cons_zero, List.set_cons_succ]
    have hb1 := bstep hb1 hb
    clear hb
    refine Reg.G_step (o := { dst := some 58, op := Op.call { callee := Callee.value (Operand.func 27), args := #[], argTypes := #[] }, type := 4, pos := "law.go:28", after := #[{ on := 30, ground := Ground.chain }, { on := 30, ground := Ground.guard }], guard := some (30, true) }) (by rfl) ?_ (fun K hK => ?_)
    · kernel_rfl
    go_simp
    refine (HA _).mono ?_
    rintro e w' ⟨rfl, hb⟩
    refine hK.out _ _ ?_ (fun hHeld => ?_)
    · exact ⟨argb hb hHeld.1, argb hb hHeld.2.1, argb hb hHeld.2.2.1, argb hb hHeld.2.2.2.1, argb hb hHeld.2.2.2.2.1, argb hb hHeld.2.2.2.2.2.1, argb hb hHeld.2.2.2.2.2.2.1, argb hb hHeld.2.2.2.2.2.2.2⟩
    clear hK K
    try simp only [Act.put, List.setIfInBounds_toArray, List.set_cons_zero, List.set_cons_succ]
    refine Reg.G_on (o := { dst := some 59, op := Op.pick (Operand.tmp 57) (Operand.tmp 58) (Operand.const (Value.bool false)), type := 4, pos := "law.go:28", after := #[{ on := 30, ground := Ground.data }, { on := 31, ground := Ground.data }], guard := Option.none }) (v := ?_) (by rfl) ?_ (fun wS hSw => ?_) ?_
    rotate_left
    · kernel_rfl
    · (try dsimp only at hSw); go_simp; (try with_reducible rfl)
    try simp only [Act.put, List.setIfInBounds_toArray, List.set_cons_zero, List.set_cons_succ]
    refine Reg.G_on (o := { dst := some 6, op := Op.assign (Operand.tmp 59), type := 4, pos := "law.go:28", after := #[{ on := 32, ground := Ground.data }, { on := 31, ground := Ground.chain }, { on := 0, ground := Ground.phase }, { on := 1, ground := Ground.phase }, { on := 2, ground := Ground.phase }, { on := 3, ground := Ground.phase }, { on := 4, ground := Ground.phase }, { on := 5, ground := Ground.phase }, { on := 6, ground := Ground.phase }, { on := 7, ground := Ground.phase }, { on := 8, ground := Ground.phase }, { on := 9, ground := Ground.phase }, { on := 10, ground := Ground.phase }, { on := 11, ground := Ground.phase }, { on := 12, ground := Ground.phase }, { on := 13, ground := Ground.phase }, { on := 14, ground := Ground.phase }, { on := 15, ground := Ground.phase }, { on := 16, ground := Ground.phase }, { on := 17, ground := Ground.phase }, { on := 18, ground := Ground.phase }, { on := 19, ground := Ground.phase }, { on := 20, ground := Ground.phase }, { on := 21, ground := Ground.phase }, { on := 22, ground := Ground.phase }, { on := 23, ground := Ground.phase }, { on := 24, ground := Ground.phase }, { on := 25, ground := Ground.phase }, { on := 26, ground := Ground.phase }, { on := 27, ground := Ground.phase }, { on := 28, ground := Ground.phase }, { on := 29, ground := Ground.phase }, { on := 30, ground := Ground.phase }, { on := 31, ground := Ground.phase }, { on := 32, ground := Ground.phase }], guard := Option.none }) (v := ?_) (by rfl) ?_ (fun wS hSw => ?_) ?_
    rotate_left
    · kernel_rfl
    · (try dsimp only at hSw); go_simp; (try with_reducible rfl)
    try simp only [Act.put, List.setIfInBounds_toArray, List.set_cons_zero, List.set_cons_succ]
    refine Reg.G_done ?_
    go_wp2
    go_ret
    exact ⟨rfl, bstep b2 ((Below.refl _ _).drew.trans (bstep hb1 hb))⟩
  | false =>
    rw [if_neg (by decide)] at HO
    clear hv2
    obtain ⟨W0, hW0⟩ : ∃ W0, W0 = w.alloc (.cells #[.int .i64 k1, .bool s1, .int .u64 n1, .string t1, .int .i64 k2, .bool s2, .int .u64 n2, .string t2] 51) := ⟨_, rfl⟩
    rw [← hW0] at b0 h0
    go_enter Try.func7, Try.ntmps7
    go_wp2_with fail
    rw [← hW0]
    clear hW0
    refine (HO _).mono ?_
    rintro e' w1 ⟨rfl, b1⟩
    have HH := (b1.block _ (blk_lt h0)).trans h0
    have b2 := bstep b0 b1
    clear h0 b0 b1
    have c0 : w1.cell? ⟨w.heap.size, 0, none⟩ = some (.int .i64 k1) := blk_cell HH 0
    have c1 : w1.cell? ⟨w.heap.size, 1, none⟩ = some (.bool s1) := blk_cell HH 1
    have c2 : w1.cell? ⟨w.heap.size, 2, none⟩ = some (.int .u64 n1) := blk_cell HH 2
    have c3 : w1.cell? ⟨w.heap.size, 3, none⟩ = some (.string t1) := blk_cell HH 3
    go_wp2_with fail
    refine (HRO _).mono ?_
    rintro e' w2 ⟨rfl, b3⟩
    have HH := (b3.block _ (blk_lt HH)).trans HH
    have b2 := bstep b2 b3
    clear c0 c1 c2 c3 b3
    have HL := Lib.hid HH
    clear HH
    go_wp2_with fail
    have HH := HL.out
    refine Reg.wp_plan (S := fun w' => w'.cell? ⟨w.heap.size, 0, none⟩ = some (.int .i64 k1) ∧ w'.cell? ⟨w.heap.size, 1, none⟩ = some (.bool s1) ∧ w'.cell? ⟨w.heap.size, 2, none⟩ = some (.int .u64 n1) ∧ w'.cell? ⟨w.heap.size, 3, none⟩ = some (.string t1) ∧ w'.cell? ⟨w.heap.size, 4, none⟩ = some (.int .i64 k2) ∧ w'.cell? ⟨w.heap.size, 5, none⟩ = some (.bool s2) ∧ w'.cell? ⟨w.heap.size, 6, none⟩ = some (.int .u64 n2) ∧ w'.cell? ⟨w.heap.size, 7, none⟩ = some (.string t2)) 34 (.fl 0 (.fl 1 (.fl 3 (.fl 4 (.one 2 (.one 5 (.fl 6 (.fl 7 (.fl 8 (.fl 9 (.fl 10 (.fl 11 (.fl 12 (.fl 13 (.fl 14 (.fl 15 (.fl 16 (.fl 17 (.fl 18 (.fl 19 (.fl 20 (.fl 21 (.fl 23 (.fl 24 (.fl 25 (.fl 26 (.one 22 (.one 27 (.fl 28 (.fl 29 (.fl 30 (.one 31 (.fl 32 (.fl 33 .done)))))))))))))))))))))))))))))))))) (by kernel_rfl) (by kernel_rfl) (by kernel_rfl) (by kernel_rfl) (fun _ _ _ d _ h => by cases d <;> exact h) ?_ (fun hHeld => ?_)
    · exact ⟨blk_cell HH 0, blk_cell HH 1, blk_cell HH 2, blk_cell HH 3, blk_cell HH 4, blk_cell HH 5, blk_cell HH 6, blk_cell HH 7⟩
    refine Reg.G_on (o := { dst := some 27, op := Op.move (Operand.tmp 0), type := 3, pos := "law.go:28", after := #[], guard := Option.none }) (v := ?_) (by rfl) ?_ (fun wS hSw => ?_) ?_
    rotate_left
    · kernel_rfl
    · (try dsimp only at hSw); go_simp; (try with_reducible rfl)
    try simp only [Act.put, List.setIfInBounds_toArray, List.set_cons_zero, List.set_cons_succ]
    refine Reg.G_on (o := { dst := some 28, op := Op.move (Operand.tmp 1), type := 22, pos := "law.go:28", after := #[], guard := Option.none }) (v := ?_) (by rfl) ?_ (fun wS hSw => ?_) ?_
    rotate_left
    · kernel_rfl
    · (try dsimp only at hSw); go_simp; (try with_reducible rfl)
    try simp only [Act.put, List.setIfInBounds_toArray, List.set_cons_zero, List.set_cons_succ]
    refine Reg.G_on (o := { dst := some 30, op := Op.move (Operand.tmp 0), type := 3, pos := "law.go:28", after := #[], guard := Option.none }) (v := ?_) (by rfl) ?_ (fun wS hSw => ?_) ?_
    rotate_left
    · kernel_rfl
    · (try dsimp only at hSw); go_simp; (try with_reducible rfl)
    try simp only [Act.put, List.setIfInBounds_toArray, List.set_cons_zero, List.set_cons_succ]
    refine Reg.G_on (o := { dst := some 31, op := Op.move (Operand.tmp 1), type := 22, pos := "law.go:28", after := #[], guard := Option.none }) (v := ?_) (by rfl) ?_ (fun wS hSw => ?_) ?_
    rotate_left
    · kernel_rfl
    · (try dsimp only at hSw); go_simp; (try with_reducible rfl)
    try simp only [Act.put, List.setIfInBounds_toArray, List.set_cons_zero, List.set_cons_succ]
    refine Reg.G_step (o := { dst := some 29, op := Op.call { callee := Callee.value (Operand.func 29), args := #[Operand.tmp 27, Operand.tmp 28], argTypes := #[3, 22] }, type := 31, pos := "law.go:28", after := #[{ on := 0, ground := Ground.data }, { on := 1, ground := Ground.data }], guard := Option.none }) (by rfl) ?_ (fun K hK => ?_)
    · kernel_rfl
    go_simp
    refine (HD _).mono ?_
    rintro e w' ⟨rfl, hb⟩
    refine hK.out _ _ ?_ (fun hHeld => ?_)
    · exact ⟨argb hb hHeld.1, argb hb hHeld.2.1, argb hb hHeld.2.2.1, argb hb hHeld.2.2.2.1, argb hb hHeld.2.2.2.2.1, argb hb hHeld.2.2.2.2.2.1, argb hb hHeld.2.2.2.2.2.2.1, argb hb hHeld.2.2.2.2.2.2.2⟩
    clear hK K
    try simp only [Act.put, List.setIfInBounds_toArray, List.set_cons_zero, List.set_cons_succ]
    skip
    have hb1 := hb
    clear hb
    refine Reg.G_step (o := { dst := some 32, op := Op.call { callee := Callee.value (Operand.func 42), args := #[Operand.tmp 30, Operand.tmp 31], argTypes := #[3, 22] }, type := 31, pos := "law.go:28", after := #[{ on := 3, ground := Ground.data }, { on := 4, ground := Ground.data }, { on := 2, ground := Ground.chain }], guard := Option.none }) (by rfl) ?_ (fun K hK => ?_)
    · kernel_rfl
    go_simp
    refine (HRD _).mono ?_
    rintro e w' ⟨rfl, hb⟩
    refine hK.out _ _ ?_ (fun hHeld => ?_)
    · exact ⟨argb hb hHeld.1, argb hb hHeld.2.1, argb hb hHeld.2.2.1, argb hb hHeld.2.2.2.1, argb hb hHeld.2.2.2.2.1, argb hb hHeld.2.2.2.2.2.1, argb hb hHeld.2.2.2.2.2.2.1, argb hb hHeld.2.2.2.2.2.2.2⟩
    clear hK K
    try simp only [Act.put, List.setIfInBounds_toArray, List.set_cons_zero, List.set_cons_succ]
    refine Reg.G_on (o := { dst := some 33, op := Op.binOp BinOp.eql 31 (Operand.tmp 29) (Operand.tmp 32) 31, type := 4, pos := "law.go:28", after := #[{ on := 2, ground := Ground.data }, { on := 5, ground := Ground.data }], guard := Option.none }) (v := ?_) (by rfl) ?_ (fun wS hSw => ?_) ?_
    rotate_left
    · kernel_rfl
    · (try dsimp only at hSw); go_simp; (try with_reducible rfl)
    try simp only [Act.put, List.setIfInBounds_toArray, List.set_cons_zero, List.set_cons_succ]
    refine Reg.G_on (o := { dst := some 34, op := Op.move (Operand.tmp 33), type := 4, pos := "law.go:28", after := #[{ on := 6, ground := Ground.data }, { on := 5, ground := Ground.chain }], guard := Option.none }) (v := ?_) (by rfl) ?_ (fun wS hSw => ?_) ?_
    rotate_left
    · kernel_rfl
    · (try dsimp only at hSw); go_simp; (try with_reducible rfl)
    try simp only [Act.put, List.setIfInBounds_toArray, List.set_cons_zero, List.set_cons_succ]
    refine Reg.G_on (o := { dst := some 35, op := Op.move (Operand.tmp 7), type := 22, pos := "law.go:28", after := #[{ on := 7, ground := Ground.guard }], guard := some (7, true) }) (v := ?_) (by rfl) ?_ (fun wS hSw => ?_) ?_
    rotate_left
    · kernel_rfl
    · (try dsimp only at hSw); go_simp; (try with_reducible rfl)
    try simp only [Act.put, List.setIfInBounds_toArray, List.set_cons_zero, List.set_cons_succ]
    refine Reg.G_on (o := { dst := some 36, op := Op.move (Operand.tmp 9), type := 22, pos := "law.go:28", after := #[{ on := 7, ground := Ground.guard }], guard := some (7, true) }) (v := ?_) (by rfl) ?_ (fun wS hSw => ?_) ?_
    rotate_left
    · kernel_rfl
    · (try dsimp only at hSw); go_simp; (try with_reducible rfl)
    try simp only [Act.put, List.setIfInBounds_toArray, List.set_cons_zero, List.set_cons_succ]
    refine Reg.G_on (o := { dst := some 37, op := Op.binOp BinOp.eql 22 (Operand.tmp 35) (Operand.tmp 36) 22, type := 4, pos := "law.go:28", after := #[{ on := 8, ground := Ground.data }, { on := 9, ground := Ground.data }, { on := 7, ground := Ground.guard }], guard := some (7, true) }) (v := ?_) (by rfl) ?_ (fun wS hSw => ?_) ?_
    rotate_left
    · kernel_rfl
    · (try dsimp only at hSw); go_simp; (try with_reducible rfl)
    try simp only [Act.put, List.setIfInBounds_toArray, List.set_cons_zero, List.set_cons_succ]
    refine Reg.G_on (o := { dst := some 38, op := Op.pick (Operand.tmp 34) (Operand.tmp 37) (Operand.const (Value.bool false)), type := 4, pos := "law.go:28", after := #[{ on := 7, ground := Ground.data }, { on := 10, ground := Ground.data }], guard := Option.none }) (v := ?_) (by rfl) ?_ (fun wS hSw => ?_) ?_
    rotate_left
    · kernel_rfl
    · (try dsimp only at hSw); go_simp; (try with_reducible rfl)
    try simp only [Act.put, List.setIfInBounds_toArray, List.set_cons_zero, List.set_cons_succ]
    refine Reg.G_on (o := { dst := some 39, op := Op.move (Operand.tmp 38), type := 4, pos := "law.go:28", after := #[{ on := 11, ground := Ground.data }, { on := 7, ground := Ground.chain }], guard := Option.none }) (v := ?_) (by rfl) ?_ (fun wS hSw => ?_) ?_
    rotate_left
    · kernel_rfl
    · (try dsimp only at hSw); go_simp; (try with_reducible rfl)
    try simp only [Act.put, List.setIfInBounds_toArray, List.set_cons_zero, List.set_cons_succ]
    refine Reg.G_on (o := { dst := some 40, op := Op.move (Operand.tmp 8), type := 4, pos := "law.go:28", after := #[{ on := 12, ground := Ground.guard }], guard := some (12, true) }) (v := ?_) (by rfl) ?_ (fun wS hSw => ?_) ?_
    rotate_left
    · kernel_rfl
    · (try dsimp only at hSw); go_simp; (try with_reducible rfl)
    try simp only [Act.put, List.setIfInBounds_toArray, List.set_cons_zero, List.set_cons_succ]
    refine Reg.G_on (o := { dst := some 41, op := Op.move (Operand.tmp 10), type := 4, pos := "law.go:28", after := #[{ on := 12, ground := Ground.guard }], guard := some (12, true) }) (v := ?_) (by rfl) ?_ (fun wS hSw => ?_) ?_
    rotate_left
    · kernel_rfl
    · (try dsimp only at hSw); go_simp; (try with_reducible rfl)
    try simp only [Act.put, List.setIfInBounds_toArray, List.set_cons_zero, List.set_cons_succ]
    refine Reg.G_on (o := { dst := some 42, op := Op.binOp BinOp.eql 4 (Operand.tmp 40) (Operand.tmp 41) 4, type := 4, pos := "law.go:28", after := #[{ on := 13, ground := Ground.data }, { on := 14, ground := Ground.data }, { on := 12, ground := Ground.guard }], guard := some (12, true) }) (v := ?_) (by rfl) ?_ (fun wS hSw => ?_) ?_
    rotate_left
    · kernel_rfl
    · (try dsimp only at hSw); go_simp; (try with_reducible rfl)
    try simp only [Act.put, List.setIfInBounds_toArray, List.set_cons_zero, List.set_cons_succ]
    refine Reg.G_on (o := { dst := some 43, op := Op.pick (Operand.tmp 39) (Operand.tmp 42) (Operand.const (Value.bool false)), type := 4, pos := "law.go:28", after := #[{ on := 12, ground := Ground.data }, { on := 15, ground := Ground.data }], guard := Option.none }) (v := ?_) (by rfl) ?_ (fun wS hSw => ?_) ?_
    rotate_left
    · kernel_rfl
    · (try dsimp only at hSw); go_simp; (try with_reducible rfl)
    try simp only [Act.put, List.setIfInBounds_toArray, List.set_cons_zero, List.set_cons_succ]
    refine Reg.G_on (o := { dst := some 44, op := Op.move (Operand.tmp 43), type := 4, pos := "law.go:28", after := #[{ on := 16, ground := Ground.data }, { on := 12, ground := Ground.chain }], guard := Option.none }) (v := ?_) (by rfl) ?_ (fun wS hSw => ?_) ?_
    rotate_left
    · kernel_rfl
    · (try dsimp only at hSw); go_simp; (try with_reducible rfl)
    try simp only [Act.put, List.setIfInBounds_toArray, List.set_cons_zero, List.set_cons_succ]
    refine Reg.G_on (o := { dst := some 45, op := Op.indexAddr 51 (Operand.tmp 5) (Operand.const (Value.int IntKind.i64 0)), type := 0, pos := "law.go:28", after := #[{ on := 17, ground := Ground.guard }], guard := some (17, true) }) (v := ?_) (by rfl) ?_ (fun wS hSw => ?_) ?_
    rotate_left
    · kernel_rfl
    · (try dsimp only at hSw); go_simp; (try with_reducible rfl)
    try simp only [Act.put, List.setIfInBounds_toArray, List.set_cons_zero, List.set_cons_succ]
    refine Reg.G_on (o := { dst := some 46, op := Op.load 31 (Operand.tmp 45), type := 31, pos := "law.go:28", after := #[{ on := 18, ground := Ground.data }, { on := 17, ground := Ground.guard }], guard := some (17, true) }) (v := ?_) (by rfl) ?_ (fun wS hSw => ?_) ?_
    rotate_left
    · kernel_rfl
    · (try dsimp only at hSw); go_simp; (try with_reducible rfl)
    try simp only [Act.put, List.setIfInBounds_toArray, List.set_cons_zero, List.set_cons_succ]
    refine Reg.G_on (o := { dst := some 47, op := Op.indexAddr 51 (Operand.tmp 5) (Operand.const (Value.int IntKind.i64 1)), type := 0, pos := "law.go:28", after := #[{ on := 17, ground := Ground.guard }], guard := some (17, true) }) (v := ?_) (by rfl) ?_ (fun wS hSw => ?_) ?_
    rotate_left
    · kernel_rfl
    · (try dsimp only at hSw); go_simp; (try with_reducible rfl)
    try simp only [Act.put, List.setIfInBounds_toArray, List.set_cons_zero, List.set_cons_succ]
    refine Reg.G_on (o := { dst := some 48, op := Op.load 31 (Operand.tmp 47), type := 31, pos := "law.go:28", after := #[{ on := 20, ground := Ground.data }, { on := 17, ground := Ground.guard }], guard := some (17, true) }) (v := ?_) (by rfl) ?_ (fun wS hSw => ?_) ?_
    rotate_left
    · kernel_rfl
    · (try dsimp only at hSw); go_simp; (try with_reducible rfl)
    try simp only [Act.put, List.setIfInBounds_toArray, List.set_cons_zero, List.set_cons_succ]
    refine Reg.G_on (o := { dst := some 50, op := Op.indexAddr 51 (Operand.tmp 5) (Operand.const (Value.int IntKind.i64 0)), type := 0, pos := "law.go:28", after := #[{ on := 17, ground := Ground.guard }], guard := some (17, true) }) (v := ?_) (by rfl) ?_ (fun wS hSw => ?_) ?_
    rotate_left
    · kernel_rfl
    · (try dsimp only at hSw); go_simp; (try with_reducible rfl)
    try simp only [Act.put, List.setIfInBounds_toArray, List.set_cons_zero, List.set_cons_succ]
    refine Reg.G_on (o := { dst := some 51, op := Op.load 31 (Operand.tmp 50), type := 31, pos := "law.go:28", after := #[{ on := 23, ground := Ground.data }, { on := 17, ground := Ground.guard }], guard := some (17, true) }) (v := ?_) (by rfl) ?_ (fun wS hSw => ?_) ?_
    rotate_left
    · kernel_rfl
    · (try dsimp only at hSw); go_simp; (try with_reducible rfl)
    try simp only [Act.put, List.setIfInBounds_toArray, List.set_cons_zero, List.set_cons_succ]
    refine Reg.G_on (o := { dst := some 52, op := Op.indexAddr 51 (Operand.tmp 5) (Operand.const (Value.int IntKind.i64 1)), type := 0, pos := "law.go:28", after := #[{ on := 17, ground := Ground.guard }], guard := some (17, true) }) (v := ?_) (by rfl) ?_ (fun wS hSw => ?_) ?_
    rotate_left
    · kernel_rfl
    · (try dsimp only at hSw); go_simp; (try with_reducible rfl)
    try simp only [Act.put, List.setIfInBounds_toArray, List.set_cons_zero, List.set_cons_succ]
    refine Reg.G_on (o := { dst := some 53, op := Op.load 31 (Operand.tmp 52), type := 31, pos := "law.go:28", after := #[{ on := 25, ground := Ground.data }, { on := 17, ground := Ground.guard }], guard := some (17, true) }) (v := ?_) (by rfl) ?_ (fun wS hSw => ?_) ?_
    rotate_left
    · kernel_rfl
    · (try dsimp only at hSw); go_simp; (try with_reducible rfl)
    try simp only [Act.put, List.setIfInBounds_toArray, List.set_cons_zero, List.set_cons_succ]
    have hb1 := bstep hb1 hb
    clear hb
    refine Reg.G_step (o := { dst := some 49, op := Op.call { callee := Callee.value (Operand.func 43), args := #[Operand.tmp 46, Operand.tmp 48], argTypes := #[31, 31] }, type := 3, pos := "law.go:28", after := #[{ on := 19, ground := Ground.data }, { on := 21, ground := Ground.data }, { on := 17, ground := Ground.chain }, { on := 17, ground := Ground.guard }], guard := some (17, true) }) (by rfl) ?_ (fun K hK => ?_)
    · kernel_rfl
    go_simp
    refine (HC _).mono ?_
    rintro e w' ⟨rfl, hb⟩
    refine hK.out _ _ ?_ (fun hHeld => ?_)
    · exact ⟨argb hb hHeld.1, argb hb hHeld.2.1, argb hb hHeld.2.2.1, argb hb hHeld.2.2.2.1, argb hb hHeld.2.2.2.2.1, argb hb hHeld.2.2.2.2.2.1, argb hb hHeld.2.2.2.2.2.2.1, argb hb hHeld.2.2.2.2.2.2.2⟩
    clear hK K
    try simp only [Act.put, List.setIfInBounds_toArray, List.set_cons_zero, List.set_cons_succ]
    skip
    have hb1 := bstep hb1 hb
    clear hb
    refine Reg.G_step (o := { dst := some 54, op := Op.call { callee := Callee.value (Operand.func 44), args := #[Operand.tmp 51, Operand.tmp 53], argTypes := #[31, 31] }, type := 3, pos := "law.go:28", after := #[{ on := 24, ground := Ground.data }, { on := 26, ground := Ground.data }, { on := 22, ground := Ground.chain }, { on := 17, ground := Ground.guard }], guard := some (17, true) }) (by rfl) ?_ (fun K hK => ?_)
    · kernel_rfl
    go_simp
    refine (HRC _).mono ?_
    rintro e w' ⟨rfl, hb⟩
    refine hK.out _ _ ?_ (fun hHeld => ?_)
    · exact ⟨argb hb hHeld.1, argb hb hHeld.2.1, argb hb hHeld.2.2.1, argb hb hHeld.2.2.2.1, argb hb hHeld.2.2.2.2.1, argb hb hHeld.2.2.2.2.2.1, argb hb hHeld.2.2.2.2.2.2.1, argb hb hHeld.2.2.2.2.2.2.2⟩
    clear hK K
    try simp only [Act.put, List.setIfInBounds_toArray, List.set_cons_zero, List.set_cons_succ]
    refine Reg.G_on (o := { dst := some 55, op := Op.binOp BinOp.eql 3 (Operand.tmp 49) (Operand.tmp 54) 3, type := 4, pos := "law.go:28", after := #[{ on := 22, ground := Ground.data }, { on := 27, ground := Ground.data }, { on := 17, ground := Ground.guard }], guard := some (17, true) }) (v := ?_) (by rfl) ?_ (fun wS hSw => ?_) ?_
    rotate_left
    · kernel_rfl
    · (try dsimp only at hSw); go_simp; (try with_reducible rfl)
    try simp only [Act.put, List.setIfInBounds_toArray, List.set_cons_zero, List.set_cons_succ]
    refine Reg.G_on (o := { dst := some 56, op := Op.pick (Operand.tmp 44) (Operand.tmp 55) (Operand.const (Value.bool false)), type := 4, pos := "law.go:28", after := #[{ on := 17, ground := Ground.data }, { on := 28, ground := Ground.data }], guard := Option.none }) (v := ?_) (by rfl) ?_ (fun wS hSw => ?_) ?_
    rotate_left
    · kernel_rfl
    · (try dsimp only at hSw); go_simp; (try with_reducible rfl)
    try simp only [Act.put, List.setIfInBounds_toArray, List.set_cons_zero, List.set_cons_succ]
    refine Reg.G_on (o := { dst := some 57, op := Op.move (Operand.tmp 56), type := 4, pos := "law.go:28", after := #[{ on := 29, ground := Ground.data }, { on := 27, ground := Ground.chain }], guard := Option.none }) (v := ?_) (by rfl) ?_ (fun wS hSw => ?_) ?_
    rotate_left
    · kernel_rfl
    · (try dsimp only at hSw); go_simp; (try with_reducible rfl)
    try simp only [Act.put, List.setIfInBounds_toArray, List.set_cons_zero, List.set_cons_succ]
    have hb1 := bstep hb1 hb
    clear hb
    refine Reg.G_step (o := { dst := some 58, op := Op.call { callee := Callee.value (Operand.func 27), args := #[], argTypes := #[] }, type := 4, pos := "law.go:28", after := #[{ on := 30, ground := Ground.chain }, { on := 30, ground := Ground.guard }], guard := some (30, true) }) (by rfl) ?_ (fun K hK => ?_)
    · kernel_rfl
    go_simp
    refine (HA _).mono ?_
    rintro e w' ⟨rfl, hb⟩
    refine hK.out _ _ ?_ (fun hHeld => ?_)
    · exact ⟨argb hb hHeld.1, argb hb hHeld.2.1, argb hb hHeld.2.2.1, argb hb hHeld.2.2.2.1, argb hb hHeld.2.2.2.2.1, argb hb hHeld.2.2.2.2.2.1, argb hb hHeld.2.2.2.2.2.2.1, argb hb hHeld.2.2.2.2.2.2.2⟩
    clear hK K
    try simp only [Act.put, List.setIfInBounds_toArray, List.set_cons_zero, List.set_cons_succ]
    refine Reg.G_on (o := { dst := some 59, op := Op.pick (Operand.tmp 57) (Operand.tmp 58) (Operand.const (Value.bool false)), type := 4, pos := "law.go:28", after := #[{ on := 30, ground := Ground.data }, { on := 31, ground := Ground.data }], guard := Option.none }) (v := ?_) (by rfl) ?_ (fun wS hSw => ?_) ?_
    rotate_left
    · kernel_rfl
    · (try dsimp only at hSw); go_simp; (try with_reducible rfl)
    try simp only [Act.put, List.setIfInBounds_toArray, List.set_cons_zero, List.set_cons_succ]
    refine Reg.G_on (o := { dst := some 6, op := Op.assign (Operand.tmp 59), type := 4, pos := "law.go:28", after := #[{ on := 32, ground := Ground.data }, { on := 31, ground := Ground.chain }, { on := 0, ground := Ground.phase }, { on := 1, ground := Ground.phase }, { on := 2, ground := Ground.phase }, { on := 3, ground := Ground.phase }, { on := 4, ground := Ground.phase }, { on := 5, ground := Ground.phase }, { on := 6, ground := Ground.phase }, { on := 7, ground := Ground.phase }, { on := 8, ground := Ground.phase }, { on := 9, ground := Ground.phase }, { on := 10, ground := Ground.phase }, { on := 11, ground := Ground.phase }, { on := 12, ground := Ground.phase }, { on := 13, ground := Ground.phase }, { on := 14, ground := Ground.phase }, { on := 15, ground := Ground.phase }, { on := 16, ground := Ground.phase }, { on := 17, ground := Ground.phase }, { on := 18, ground := Ground.phase }, { on := 19, ground := Ground.phase }, { on := 20, ground := Ground.phase }, { on := 21, ground := Ground.phase }, { on := 22, ground := Ground.phase }, { on := 23, ground := Ground.phase }, { on := 24, ground := Ground.phase }, { on := 25, ground := Ground.phase }, { on := 26, ground := Ground.phase }, { on := 27, ground := Ground.phase }, { on := 28, ground := Ground.phase }, { on := 29, ground := Ground.phase }, { on := 30, ground := Ground.phase }, { on := 31, ground := Ground.phase }, { on := 32, ground := Ground.phase }], guard := Option.none }) (v := ?_) (by rfl) ?_ (fun wS hSw => ?_) ?_
    rotate_left
    · kernel_rfl
    · (try dsimp only at hSw); go_simp; (try with_reducible rfl)
    try simp only [Act.put, List.setIfInBounds_toArray, List.set_cons_zero, List.set_cons_succ]
    refine Reg.G_done ?_
    go_wp2
    go_ret
    exact ⟨rfl, bstep b2 ((Below.refl _ _).drew.trans (bstep hb1 hb))⟩
end Go.Proofs.Ytibcdpnmhkhebaa.Prim
