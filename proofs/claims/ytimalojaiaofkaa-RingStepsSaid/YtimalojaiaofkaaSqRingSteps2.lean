import Derived.Great.BuildSlice
import Derived.Test.YtimalojaiaofkaaSqRingSteps1
set_option linter.unusedVariables false
set_option linter.unusedSimpArgs false
namespace Go.Proofs.Ytimalojaiaofkaa.His
open Go.RowKit Base Sp Flat Go.Proofs.YtimalojaiaofkaaW.PrintWords Go.Shelf Smp
section
variable {o : Oper} {a : Act} {W : World} {K : Act → World → Prop} {Q : Exit → Act → World → Prop}
theorem fill1 (z : Array Value) (x : Smp) (hz : z.size = 23) : Instr.fill (fun i => some (i * 23, 23)) z [(0, .agg (cells x).toArray)] = some (cells x).toArray := by
  have h := Great.fill_whole (s := 23) (by decide) [.agg (cells x).toArray] z (fun v hv => by rw [List.mem_singleton.1 hv]; show (cells x).toArray.size = 23; rw [List.size_toArray, cells_len]) (by rw [hz]; rfl)
  have e : ([Value.agg (cells x).toArray].zipIdx 0).map (fun x => (x.2, x.1)) = [(0, Value.agg (cells x).toArray)] := rfl
  rw [e] at h
  rw [h]
  simp [Value.cells]
/-- A slice literal of one sample. -/
theorem build1 {x : Smp} {y : Operand} (ho : o.op = .buildSlice 56 1 #[(0, y)]) (hy : a.eval y = .agg (cells x).toArray)
    (h : K (a.put o.dst (.slice (some ⟨W.heap.size, 0, none⟩) 1 1)) (W.alloc (.cells (cells x).toArray 60))) : o.wp Try.prog a W K Q := by
  obtain ⟨i0, hi, hzz⟩ := Option.map_eq_some_iff.1 info
  simp only [Prod.mk.injEq] at hzz
  obtain ⟨hz0, hz1, hz2⟩ := hzz
  refine wp_buildSlice 56 60 1 #[(0, y)] ho (cells x).toArray i0 _ Try.underlying56 hi hz0 (by rw [hz1]; decide) (by rw [hz1]; decide) ?_ h
  rw [hz1]
  have e : (#[(0, y)].map fun (p : Nat × Operand) => (p.1, a.eval p.2)).toList = [(0, Value.agg (cells x).toArray)] := by simp [hy]
  rw [show (#[(0, y)].map fun (i, x) => (i, a.eval x)).toList = [(0, Value.agg (cells x).toArray)] from e]
  exact fill1 _ x (by simp)
end
set_option maxHeartbeats 1000000 in
set_option maxRecDepth 20000 in
theorem put_e {w : World} {F : Nat → Prop} {b : Nat} {d s : Int} {xs : List Smp} (h : HS w F b d s xs) (x : Smp) (ho : x.op = 1) (hd : d = 0) (hs : ¬ s = 0) (hl : ¬ s ≤ (xs.length : Int)) (hlen : (xs.length + 1) * 80 ≤ 140737488355328) :
    Calls Try.prog 41 #[.pointer (some ⟨b, 0, none⟩), .agg (cells x).toArray] w fun e w' => e = .returned (.tuple #[]) ∧ ∃ F', HS w' F' b d s (xs ++ [x]) ∧ Grow F F' w ∧ Mod (HM F b) w w' := by
  obtain ⟨v0, h1, h2⟩ := h.at_
  have hmf : ∀ (fn : Fn) (first cap : Array Value) (w : World), (Instr.makeFunc fn first cap).run Try.prog w = .ok (.func fn first cap) w := fun _ _ _ _ => rfl
  have b1 : Below w.heap.size w (w.alloc (.cells (cells x).toArray 60)) := (Below.refl _ _).alloc (Nat.le_refl _) _
  have n1 := heap_alloc_new w (.cells (cells x).toArray 60)
  have o0 : (w.alloc (.cells (cells x).toArray 60)).cell? ⟨w.heap.size, 0, none⟩ = some (.int .i64 1) := by rw [← ho]; exact blk_cell n1 0
  have HB := h.below b1
  have p1 := its_pr w.heap.size x _ n1
  have hd0 : (w.alloc (.cells (cells x).toArray 60)).cell? ⟨b, 0, none⟩ = some (.int .i64 d) := blk_cell (blk_alloc h1 _) 0
  have hd1 : (w.alloc (.cells (cells x).toArray 60)).cell? ⟨b, 1, none⟩ = some (.int .i64 s) := blk_cell (blk_alloc h1 _) 1
  have hd2 : (w.alloc (.cells (cells x).toArray 60)).cell? ⟨b, 2, none⟩ = some v0 := blk_cell (blk_alloc h1 _) 2
  have HLEN := Lib.hid hlen
  have hgs : Hid (¬ F w.heap.size) := Lib.hid (fun hf => by have := h.old _ hf; omega)
  have M1 := Lib.hid (Mod.of (F := HM F b) b1)
  obtain ⟨A0, c0, rfl, _, _⟩ := h2.slice
  subst hd
  have hs2 : (s == 0) = false := beq_eq_false_iff_ne.2 hs
  have H5 : HS (w.alloc (.cells (cells x).toArray 60)).drew.drew F b 0 s xs := HB.below (below_drew (below_drew (Below.refl _ _)))
  have M5 : Hid (Mod (HM F b) w (w.alloc (.cells (cells x).toArray 60)).drew.drew) := Lib.hid M1.out.drew.drew
  have n5 : (w.alloc (.cells (cells x).toArray 60)).drew.drew.heap[w.heap.size]? = some (.cells (cells x).toArray 60 (0, 0)) := n1
  clear h h1 h2 hlen b1 p1 ho hs n1 HB M1
  go_enter Try.func41, Try.ntmps41
  go_wp2_with fail
  refine Reg.wp_plan (S := fun w' => w'.cell? ⟨b, 0, none⟩ = some (.int .i64 0)) 17 (.fl 0 (.fl 1 (.fl 2 (.fl 3 (.fl 4 (.fl 5 (.fl 6 (.fl 7 (.fl 8 (.fl 10 (.fl 11 (.fl 12 (.fl 13 (.one 9 (.fl 14 (.fl 15 (.fl 16 .done))))))))))))))))) (by kernel_rfl) (by kernel_rfl) (by kernel_rfl) (by kernel_rfl) (fun _ _ _ d _ h => by cases d <;> exact h) ?_ (fun hHeld => ?_)
  · simpa using hd0
  refine Reg.G_on (o := { dst := some 16, op := Op.move (Operand.tmp 0), type := 54, pos := "history.go:42", after := #[], guard := Option.none }) (v := ?_) (by rfl) ?_ (fun wS hSw => ?_) ?_
  rotate_left
  · kernel_rfl
  · (try dsimp only at hSw); go_simp; (try with_reducible rfl)
  try simp only [Act.put, List.setIfInBounds_toArray, List.set_cons_zero, List.set_cons_succ]
  refine Reg.G_on (o := { dst := some 17, op := Op.nilCheck (Operand.tmp 16), type := 0, pos := "history.go:42", after := #[{ on := 0, ground := Ground.data }], guard := Option.none }) (v := ?_) (by rfl) ?_ (fun wS hSw => ?_) ?_
  rotate_left
  · kernel_rfl
  · (try dsimp only at hSw); go_simp; (try with_reducible rfl)
  try simp only [Act.put, List.setIfInBounds_toArray, List.set_cons_zero, List.set_cons_succ]
  refine Reg.G_on (o := { dst := some 18, op := Op.fieldAddr 75 (Operand.tmp 17) 0, type := 0, pos := "history.go:42", after := #[{ on := 1, ground := Ground.data }], guard := Option.none }) (v := ?_) (by rfl) ?_ (fun wS hSw => ?_) ?_
  rotate_left
  · kernel_rfl
  · (try dsimp only at hSw); go_simp; (try with_reducible rfl)
  try simp only [Act.put, List.setIfInBounds_toArray, List.set_cons_zero, List.set_cons_succ]
  refine Reg.G_on (o := { dst := some 19, op := Op.load 3 (Operand.tmp 18), type := 3, pos := "history.go:42", after := #[{ on := 2, ground := Ground.data }], guard := Option.none }) (v := ?_) (by rfl) ?_ (fun wS hSw => ?_) ?_
  rotate_left
  · kernel_rfl
  · (try dsimp only at hSw); go_simp; (try with_reducible rfl)
  try simp only [Act.put, List.setIfInBounds_toArray, List.set_cons_zero, List.set_cons_succ]
  refine Reg.G_on (o := { dst := some 20, op := Op.binOp BinOp.gtr 3 (Operand.tmp 19) (Operand.const (Value.int IntKind.i64 0)) 3, type := 4, pos := "history.go:42", after := #[{ on := 3, ground := Ground.data }], guard := Option.none }) (v := ?_) (by rfl) ?_ (fun wS hSw => ?_) ?_
  rotate_left
  · kernel_rfl
  · (try dsimp only at hSw); go_simp; (try with_reducible rfl)
  try simp only [Act.put, List.setIfInBounds_toArray, List.set_cons_zero, List.set_cons_succ]
  refine Reg.G_on (o := { dst := some 21, op := Op.move (Operand.tmp 20), type := 4, pos := "history.go:42", after := #[{ on := 4, ground := Ground.data }], guard := Option.none }) (v := ?_) (by rfl) ?_ (fun wS hSw => ?_) ?_
  rotate_left
  · kernel_rfl
  · (try dsimp only at hSw); go_simp; (try with_reducible rfl)
  try simp only [Act.put, List.setIfInBounds_toArray, List.set_cons_zero, List.set_cons_succ]
  refine Reg.G_off (o := { dst := some 22, op := Op.move (Operand.tmp 0), type := 54, pos := "history.go:42", after := #[{ on := 5, ground := Ground.guard }], guard := some (5, true) }) (by rfl) ?_ ?_
  · kernel_rfl
  try simp only [Act.put, List.setIfInBounds_toArray, List.set_cons_zero, List.set_cons_succ]
  refine Reg.G_off (o := { dst := some 23, op := Op.fieldAddr 60 (Operand.tmp 3) 5, type := 0, pos := "history.go:42", after := #[{ on := 5, ground := Ground.guard }], guard := some (5, true) }) (by rfl) ?_ ?_
  · kernel_rfl
  try simp only [Act.put, List.setIfInBounds_toArray, List.set_cons_zero, List.set_cons_succ]
  refine Reg.G_off (o := { dst := some 24, op := Op.load 53 (Operand.tmp 23), type := 53, pos := "history.go:42", after := #[{ on := 7, ground := Ground.data }, { on := 5, ground := Ground.guard }], guard := some (5, true) }) (by rfl) ?_ ?_
  · kernel_rfl
  try simp only [Act.put, List.setIfInBounds_toArray, List.set_cons_zero, List.set_cons_succ]
  refine Reg.G_off (o := { dst := some 26, op := Op.move (Operand.tmp 0), type := 54, pos := "history.go:42", after := #[{ on := 5, ground := Ground.guard }], guard := some (5, true) }) (by rfl) ?_ ?_
  · kernel_rfl
  try simp only [Act.put, List.setIfInBounds_toArray, List.set_cons_zero, List.set_cons_succ]
  refine Reg.G_off (o := { dst := some 27, op := Op.nilCheck (Operand.tmp 26), type := 0, pos := "history.go:42", after := #[{ on := 10, ground := Ground.data }, { on := 5, ground := Ground.guard }], guard := some (5, true) }) (by rfl) ?_ ?_
  · kernel_rfl
  try simp only [Act.put, List.setIfInBounds_toArray, List.set_cons_zero, List.set_cons_succ]
  refine Reg.G_off (o := { dst := some 28, op := Op.fieldAddr 75 (Operand.tmp 27) 0, type := 0, pos := "history.go:42", after := #[{ on := 11, ground := Ground.data }, { on := 5, ground := Ground.guard }], guard := some (5, true) }) (by rfl) ?_ ?_
  · kernel_rfl
  try simp only [Act.put, List.setIfInBounds_toArray, List.set_cons_zero, List.set_cons_succ]
  refine Reg.G_off (o := { dst := some 29, op := Op.load 3 (Operand.tmp 28), type := 3, pos := "history.go:42", after := #[{ on := 12, ground := Ground.data }, { on := 5, ground := Ground.guard }], guard := some (5, true) }) (by rfl) ?_ ?_
  · kernel_rfl
  try simp only [Act.put, List.setIfInBounds_toArray, List.set_cons_zero, List.set_cons_succ]
  refine Reg.G_skip (o := { dst := some 25, op := Op.call { callee := Callee.value (Operand.func 37), args := #[Operand.tmp 22, Operand.tmp 24], argTypes := #[54, 53] }, type := 3, pos := "history.go:42", after := #[{ on := 6, ground := Ground.data }, { on := 8, ground := Ground.data }, { on := 5, ground := Ground.chain }, { on := 5, ground := Ground.guard }], guard := some (5, true) }) (by rfl) ?_ (by assumption) ?_
  · kernel_rfl
  try simp only [Act.put, List.setIfInBounds_toArray, List.set_cons_zero, List.set_cons_succ]
  refine Reg.G_off (o := { dst := some 30, op := Op.binOp BinOp.geq 3 (Operand.tmp 25) (Operand.tmp 29) 3, type := 4, pos := "history.go:42", after := #[{ on := 9, ground := Ground.data }, { on := 13, ground := Ground.data }, { on := 5, ground := Ground.guard }], guard := some (5, true) }) (by rfl) ?_ ?_
  · kernel_rfl
  try simp only [Act.put, List.setIfInBounds_toArray, List.set_cons_zero, List.set_cons_succ]
  refine Reg.G_on (o := { dst := some 31, op := Op.pick (Operand.tmp 21) (Operand.tmp 30) (Operand.const (Value.bool false)), type := 4, pos := "history.go:42", after := #[{ on := 5, ground := Ground.data }, { on := 14, ground := Ground.data }], guard := Option.none }) (v := ?_) (by rfl) ?_ (fun wS hSw => ?_) ?_
  rotate_left
  · kernel_rfl
  · (try dsimp only at hSw); go_simp; (try with_reducible rfl)
  try simp only [Act.put, List.setIfInBounds_toArray, List.set_cons_zero, List.set_cons_succ]
  refine Reg.G_on (o := { dst := some 15, op := Op.assign (Operand.tmp 31), type := 4, pos := "history.go:42", after := #[{ on := 15, ground := Ground.data }, { on := 9, ground := Ground.chain }], guard := Option.none }) (v := ?_) (by rfl) ?_ (fun wS hSw => ?_) ?_
  rotate_left
  · kernel_rfl
  · (try dsimp only at hSw); go_simp; (try with_reducible rfl)
  try simp only [Act.put, List.setIfInBounds_toArray, List.set_cons_zero, List.set_cons_succ]
  refine Reg.G_done ?_
  clear hHeld
  go_wp2
  refine Reg.wp_plan (S := fun w' => w'.cell? ⟨b, 0, none⟩ = some (.int .i64 0) ∧ w'.cell? ⟨b, 1, none⟩ = some (.int .i64 s) ∧ w'.cell? ⟨b, 2, none⟩ = some (.slice A0 xs.length c0)) 18 (.fl 0 (.fl 1 (.fl 2 (.fl 3 (.fl 4 (.fl 5 (.fl 6 (.fl 7 (.fl 8 (.fl 9 (.fl 10 (.fl 11 (.fl 12 (.fl 13 (.fl 14 (.fl 15 (.fl 16 (.fl 17 .done)))))))))))))))))) (by kernel_rfl) (by kernel_rfl) (by kernel_rfl) (by kernel_rfl) (fun _ _ _ d _ h => by cases d <;> exact h) ?_ (fun hHeld => ?_)
  · exact ⟨by simpa using hd0, by simpa using hd1, by simpa using hd2⟩
  refine Reg.G_on (o := { dst := some 49, op := Op.move (Operand.tmp 0), type := 54, pos := "history.go:46", after := #[], guard := Option.none }) (v := ?_) (by rfl) ?_ (fun wS hSw => ?_) ?_
  rotate_left
  · kernel_rfl
  · (try dsimp only at hSw); go_simp; (try with_reducible rfl)
  try simp only [Act.put, List.setIfInBounds_toArray, List.set_cons_zero, List.set_cons_succ]
  refine Reg.G_on (o := { dst := some 50, op := Op.nilCheck (Operand.tmp 49), type := 0, pos := "history.go:46", after := #[{ on := 0, ground := Ground.data }], guard := Option.none }) (v := ?_) (by rfl) ?_ (fun wS hSw => ?_) ?_
  rotate_left
  · kernel_rfl
  · (try dsimp only at hSw); go_simp; (try with_reducible rfl)
  try simp only [Act.put, List.setIfInBounds_toArray, List.set_cons_zero, List.set_cons_succ]
  refine Reg.G_on (o := { dst := some 51, op := Op.fieldAddr 75 (Operand.tmp 50) 0, type := 0, pos := "history.go:46", after := #[{ on := 1, ground := Ground.data }], guard := Option.none }) (v := ?_) (by rfl) ?_ (fun wS hSw => ?_) ?_
  rotate_left
  · kernel_rfl
  · (try dsimp only at hSw); go_simp; (try with_reducible rfl)
  try simp only [Act.put, List.setIfInBounds_toArray, List.set_cons_zero, List.set_cons_succ]
  refine Reg.G_on (o := { dst := some 52, op := Op.load 3 (Operand.tmp 51), type := 3, pos := "history.go:46", after := #[{ on := 2, ground := Ground.data }], guard := Option.none }) (v := ?_) (by rfl) ?_ (fun wS hSw => ?_) ?_
  rotate_left
  · kernel_rfl
  · (try dsimp only at hSw); go_simp; (try with_reducible rfl)
  try simp only [Act.put, List.setIfInBounds_toArray, List.set_cons_zero, List.set_cons_succ]
  refine Reg.G_on (o := { dst := some 53, op := Op.binOp BinOp.eql 3 (Operand.tmp 52) (Operand.const (Value.int IntKind.i64 0)) 3, type := 4, pos := "history.go:46", after := #[{ on := 3, ground := Ground.data }], guard := Option.none }) (v := ?_) (by rfl) ?_ (fun wS hSw => ?_) ?_
  rotate_left
  · kernel_rfl
  · (try dsimp only at hSw); go_simp; (try with_reducible rfl)
  try simp only [Act.put, List.setIfInBounds_toArray, List.set_cons_zero, List.set_cons_succ]
  refine Reg.G_on (o := { dst := some 54, op := Op.move (Operand.tmp 53), type := 4, pos := "history.go:46", after := #[{ on := 4, ground := Ground.data }], guard := Option.none }) (v := ?_) (by rfl) ?_ (fun wS hSw => ?_) ?_
  rotate_left
  · kernel_rfl
  · (try dsimp only at hSw); go_simp; (try with_reducible rfl)
  try simp only [Act.put, List.setIfInBounds_toArray, List.set_cons_zero, List.set_cons_succ]
  refine Reg.G_on (o := { dst := some 55, op := Op.move (Operand.tmp 0), type := 54, pos := "history.go:46", after := #[{ on := 5, ground := Ground.guard }], guard := some (5, true) }) (v := ?_) (by rfl) ?_ (fun wS hSw => ?_) ?_
  rotate_left
  · kernel_rfl
  · (try dsimp only at hSw); go_simp; (try with_reducible rfl)
  try simp only [Act.put, List.setIfInBounds_toArray, List.set_cons_zero, List.set_cons_succ]
  refine Reg.G_on (o := { dst := some 56, op := Op.nilCheck (Operand.tmp 55), type := 0, pos := "history.go:46", after := #[{ on := 6, ground := Ground.data }, { on := 5, ground := Ground.guard }], guard := some (5, true) }) (v := ?_) (by rfl) ?_ (fun wS hSw => ?_) ?_
  rotate_left
  · kernel_rfl
  · (try dsimp only at hSw); go_simp; (try with_reducible rfl)
  try simp only [Act.put, List.setIfInBounds_toArray, List.set_cons_zero, List.set_cons_succ]
  refine Reg.G_on (o := { dst := some 57, op := Op.fieldAddr 75 (Operand.tmp 56) 2, type := 0, pos := "history.go:46", after := #[{ on := 7, ground := Ground.data }, { on := 5, ground := Ground.guard }], guard := some (5, true) }) (v := ?_) (by rfl) ?_ (fun wS hSw => ?_) ?_
  rotate_left
  · kernel_rfl
  · (try dsimp only at hSw); go_simp; (try with_reducible rfl)
  try simp only [Act.put, List.setIfInBounds_toArray, List.set_cons_zero, List.set_cons_succ]
  refine Reg.G_on (o := { dst := some 58, op := Op.load 56 (Operand.tmp 57), type := 56, pos := "history.go:46", after := #[{ on := 8, ground := Ground.data }, { on := 5, ground := Ground.guard }], guard := some (5, true) }) (v := ?_) (by rfl) ?_ (fun wS hSw => ?_) ?_
  rotate_left
  · kernel_rfl
  · (try dsimp only at hSw); go_simp; (try with_reducible rfl)
  try simp only [Act.put, List.setIfInBounds_toArray, List.set_cons_zero, List.set_cons_succ]
  refine Reg.G_on (o := { dst := some 59, op := Op.call { callee := Callee.builtin Builtin.len, args := #[Operand.tmp 58], argTypes := #[56] }, type := 3, pos := "history.go:46", after := #[{ on := 9, ground := Ground.data }, { on := 5, ground := Ground.guard }], guard := some (5, true) }) (v := ?_) (by rfl) ?_ (fun wS hSw => ?_) ?_
  rotate_left
  · kernel_rfl
  · (try dsimp only at hSw); go_simp; (try with_reducible rfl)
  try simp only [Act.put, List.setIfInBounds_toArray, List.set_cons_zero, List.set_cons_succ]
  refine Reg.G_on (o := { dst := some 60, op := Op.move (Operand.tmp 0), type := 54, pos := "history.go:46", after := #[{ on := 5, ground := Ground.guard }], guard := some (5, true) }) (v := ?_) (by rfl) ?_ (fun wS hSw => ?_) ?_
  rotate_left
  · kernel_rfl
  · (try dsimp only at hSw); go_simp; (try with_reducible rfl)
  try simp only [Act.put, List.setIfInBounds_toArray, List.set_cons_zero, List.set_cons_succ]
  refine Reg.G_on (o := { dst := some 61, op := Op.nilCheck (Operand.tmp 60), type := 0, pos := "history.go:46", after := #[{ on := 11, ground := Ground.data }, { on := 5, ground := Ground.guard }], guard := some (5, true) }) (v := ?_) (by rfl) ?_ (fun wS hSw => ?_) ?_
  rotate_left
  · kernel_rfl
  · (try dsimp only at hSw); go_simp; (try with_reducible rfl)
  try simp only [Act.put, List.setIfInBounds_toArray, List.set_cons_zero, List.set_cons_succ]
  refine Reg.G_on (o := { dst := some 62, op := Op.fieldAddr 75 (Operand.tmp 61) 1, type := 0, pos := "history.go:46", after := #[{ on := 12, ground := Ground.data }, { on := 5, ground := Ground.guard }], guard := some (5, true) }) (v := ?_) (by rfl) ?_ (fun wS hSw => ?_) ?_
  rotate_left
  · kernel_rfl
  · (try dsimp only at hSw); go_simp; (try with_reducible rfl)
  try simp only [Act.put, List.setIfInBounds_toArray, List.set_cons_zero, List.set_cons_succ]
  refine Reg.G_on (o := { dst := some 63, op := Op.load 3 (Operand.tmp 62), type := 3, pos := "history.go:46", after := #[{ on := 13, ground := Ground.data }, { on := 5, ground := Ground.guard }], guard := some (5, true) }) (v := ?_) (by rfl) ?_ (fun wS hSw => ?_) ?_
  rotate_left
  · kernel_rfl
  · (try dsimp only at hSw); go_simp; (try with_reducible rfl)
  try simp only [Act.put, List.setIfInBounds_toArray, List.set_cons_zero, List.set_cons_succ]
  refine Reg.G_on (o := { dst := some 64, op := Op.binOp BinOp.geq 3 (Operand.tmp 59) (Operand.tmp 63) 3, type := 4, pos := "history.go:46", after := #[{ on := 10, ground := Ground.data }, { on := 14, ground := Ground.data }, { on := 5, ground := Ground.guard }], guard := some (5, true) }) (v := ?_) (by rfl) ?_ (fun wS hSw => ?_) ?_
  rotate_left
  · kernel_rfl
  · (try dsimp only at hSw); go_simp; (try with_reducible rfl)
  try simp only [Act.put, List.setIfInBounds_toArray, List.set_cons_zero, List.set_cons_succ]
  refine Reg.G_on (o := { dst := some 65, op := Op.pick (Operand.tmp 54) (Operand.tmp 64) (Operand.const (Value.bool false)), type := 4, pos := "history.go:46", after := #[{ on := 5, ground := Ground.data }, { on := 15, ground := Ground.data }], guard := Option.none }) (v := ?_) (by rfl) ?_ (fun wS hSw => ?_) ?_
  rotate_left
  · kernel_rfl
  · (try dsimp only at hSw); go_simp; (try with_reducible rfl)
  try simp only [Act.put, List.setIfInBounds_toArray, List.set_cons_zero, List.set_cons_succ]
  refine Reg.G_on (o := { dst := some 48, op := Op.assign (Operand.tmp 65), type := 4, pos := "history.go:46", after := #[{ on := 16, ground := Ground.data }, { on := 5, ground := Ground.chain }], guard := Option.none }) (v := ?_) (by rfl) ?_ (fun wS hSw => ?_) ?_
  rotate_left
  · kernel_rfl
  · (try dsimp only at hSw); go_simp; (try with_reducible rfl)
  try simp only [Act.put, List.setIfInBounds_toArray, List.set_cons_zero, List.set_cons_succ]
  refine Reg.G_done ?_
  clear hHeld
  go_wp2
  obtain ⟨v5, h5, r5⟩ := H5.at_
  have y5 : (w.alloc (.cells (cells x).toArray 60)).drew.drew.cell? ⟨b, 2, none⟩ = some v5 := blk_cell h5 2
  obtain ⟨v7, w7, hrun, r7, g7, s7⟩ := (show Row (w.alloc (.cells (cells x).toArray 60)).drew.drew.drew F v5 xs from r5).append H5.old x HLEN.out 56
  have hown := r5.own
  obtain ⟨A5, c5, rfl, _, _⟩ := r5.slice
  have n7 := blk_grown (w := (w.alloc (.cells (cells x).toArray 60)).drew.drew.drew) n5 g7 (fun e => by have h9 := (hown _ e.symm).1; exact hgs.out h9)
  have k7 := blk_grown (w := (w.alloc (.cells (cells x).toArray 60)).drew.drew.drew) h5 g7 (fun e => by have h9 := (hown _ e.symm).1; exact H5.off h9)
  have y7 : w7.cell? ⟨b, 2, none⟩ = some (.slice A5 xs.length c5) := blk_cell k7 2
  have z7 := blk_frozen k7 2
  have HSZ : (w.alloc (.cells (cells x).toArray 60)).drew.drew.drew.heap.size = (w.alloc (.cells (cells x).toArray 60)).drew.drew.heap.size := rfl
  have HX : Hid (HS (w7.setCell ⟨b, 2, none⟩ v7) (fun k => F k ∨ (w.heap.size ≤ k ∧ k < w7.heap.size ∧ k ≠ b)) b 0 s (xs ++ [x]) ∧ Mod (HM F b) w (w7.setCell ⟨b, 2, none⟩ v7)) := Lib.hid (by
    have hbl := blk_lt h5
    have hFm : ∀ k, (F k ∨ ((w.alloc (.cells (cells x).toArray 60)).drew.drew.drew.heap.size ≤ k ∧ k < w7.heap.size)) → (F k ∨ (w.heap.size ≤ k ∧ k < w7.heap.size ∧ k ≠ b)) := fun k hk => hk.imp id (fun hh => ⟨by have := M5.out.size; omega, hh.2, by omega⟩)
    have hoff : ¬ (F b ∨ (w.heap.size ≤ b ∧ b < w7.heap.size ∧ b ≠ b)) := fun hh => hh.elim H5.off (fun hh => hh.2.2 rfl)
    refine ⟨⟨⟨v7, blk_put k7 2 v7 rfl, (r7.mono hFm).set (a := ⟨b, 2, none⟩) hoff v7⟩, hoff, fun k hk => ?_, H5.d0, H5.s0, H5.dm, H5.sm⟩, ?_⟩
    · have : (w7.setCell ⟨b, 2, none⟩ v7).heap.size = w7.heap.size := by simp [World.setCell]
      rw [this]
      rcases hk with hk | hk
      · have := H5.old k hk; omega
      · exact hk.2.1
    · exact ((M5.out.drew).grown g7 (fun k hk => .inl (.inr (hown k hk).1))).set (p := ⟨b, 2, none⟩) (.inl (.inl rfl)) v7)
  obtain ⟨A7, c7, rfl, _, _⟩ := r7.slice
  rw [List.length_append, List.length_singleton] at HX hrun
  clear h5 r5 r7 g7 s7 hown k7 HSZ H5
  refine Reg.wp_plan (S := fun w' => w'.heap[w.heap.size]? = some (.cells (cells x).toArray 60 (0, 0)) ∧ w'.cell? ⟨b, 2, none⟩ = some (.slice A5 xs.length c5)) 10 (.fl 0 (.fl 1 (.fl 2 (.fl 3 (.fl 4 (.fl 5 (.one 6 (.one 7 (.fl 8 (.fl 9 (.one 10 .done))))))))))) (by kernel_rfl) (by kernel_rfl) (by kernel_rfl) (by kernel_rfl) (fun _ _ _ d _ h => by cases d <;> exact h) ?_ (fun hHeld => ?_)
  · exact ⟨n5, y5⟩
  refine Reg.G_on (o := { dst := some 68, op := Op.move (Operand.tmp 0), type := 54, pos := "history.go:49", after := #[], guard := Option.none }) (v := ?_) (by rfl) ?_ (fun wS hSw => ?_) ?_
  rotate_left
  · kernel_rfl
  · (try dsimp only at hSw); go_simp; (try with_reducible rfl)
  try simp only [Act.put, List.setIfInBounds_toArray, List.set_cons_zero, List.set_cons_succ]
  refine Reg.G_on (o := { dst := some 69, op := Op.move (Operand.tmp 0), type := 54, pos := "history.go:49", after := #[], guard := Option.none }) (v := ?_) (by rfl) ?_ (fun wS hSw => ?_) ?_
  rotate_left
  · kernel_rfl
  · (try dsimp only at hSw); go_simp; (try with_reducible rfl)
  try simp only [Act.put, List.setIfInBounds_toArray, List.set_cons_zero, List.set_cons_succ]
  refine Reg.G_on (o := { dst := some 70, op := Op.nilCheck (Operand.tmp 69), type := 0, pos := "history.go:49", after := #[{ on := 1, ground := Ground.data }], guard := Option.none }) (v := ?_) (by rfl) ?_ (fun wS hSw => ?_) ?_
  rotate_left
  · kernel_rfl
  · (try dsimp only at hSw); go_simp; (try with_reducible rfl)
  try simp only [Act.put, List.setIfInBounds_toArray, List.set_cons_zero, List.set_cons_succ]
  refine Reg.G_on (o := { dst := some 71, op := Op.fieldAddr 75 (Operand.tmp 70) 2, type := 0, pos := "history.go:49", after := #[{ on := 2, ground := Ground.data }], guard := Option.none }) (v := ?_) (by rfl) ?_ (fun wS hSw => ?_) ?_
  rotate_left
  · kernel_rfl
  · (try dsimp only at hSw); go_simp; (try with_reducible rfl)
  try simp only [Act.put, List.setIfInBounds_toArray, List.set_cons_zero, List.set_cons_succ]
  refine Reg.G_on (o := { dst := some 72, op := Op.load 56 (Operand.tmp 71), type := 56, pos := "history.go:49", after := #[{ on := 3, ground := Ground.data }], guard := Option.none }) (v := ?_) (by rfl) ?_ (fun wS hSw => ?_) ?_
  rotate_left
  · kernel_rfl
  · (try dsimp only at hSw); go_simp; (try with_reducible rfl)
  try simp only [Act.put, List.setIfInBounds_toArray, List.set_cons_zero, List.set_cons_succ]
  refine Reg.G_on (o := { dst := some 73, op := Op.load 60 (Operand.tmp 3), type := 60, pos := "history.go:49", after := #[], guard := Option.none }) (v := .agg (cells x).toArray) (by rfl) ?_ (fun wS hSw => ?_) ?_
  · kernel_rfl
  · exact load_yields rfl rfl (box_range hSw.1) Try.underlying60 rfl (size23 x)
  try simp only [Act.put, List.setIfInBounds_toArray, List.set_cons_zero, List.set_cons_succ]
  refine Reg.G_step (o := { dst := some 74, op := Op.buildSlice 56 1 #[(0, Operand.tmp 73)], type := 56, pos := "history.go:49", after := #[{ on := 5, ground := Ground.data }], guard := Option.none }) (by rfl) ?_ (fun K hK => ?_)
  · kernel_rfl
  refine build1 (x := x) rfl rfl ?_
  refine hK.out _ _ ?_ (fun hHeld => ?_)
  · exact ⟨blk_alloc n5 _, cnew y5⟩
  clear hK K
  try simp only [Act.put, List.setIfInBounds_toArray, List.set_cons_zero, List.set_cons_succ]
  refine Reg.G_step (o := { dst := some 75, op := Op.call { callee := Callee.builtin Builtin.append, args := #[Operand.tmp 72, Operand.tmp 74], argTypes := #[56, 56] }, type := 56, pos := "history.go:49", after := #[{ on := 4, ground := Ground.data }, { on := 6, ground := Ground.data }], guard := Option.none }) (by rfl) ?_ (fun K hK => ?_)
  · kernel_rfl
  refine op_append (.tmp 72) (.tmp 74) 56 rfl rfl rfl hrun ?_
  refine hK.out _ _ ?_ (fun hHeld => ?_)
  · exact ⟨n7, y7⟩
  clear hK K
  try simp only [Act.put, List.setIfInBounds_toArray, List.set_cons_zero, List.set_cons_succ]
  refine Reg.G_on (o := { dst := some 76, op := Op.nilCheck (Operand.tmp 68), type := 0, pos := "history.go:49", after := #[{ on := 0, ground := Ground.data }, { on := 0, ground := Ground.phase }, { on := 1, ground := Ground.phase }, { on := 2, ground := Ground.phase }, { on := 3, ground := Ground.phase }, { on := 4, ground := Ground.phase }, { on := 5, ground := Ground.phase }, { on := 6, ground := Ground.phase }, { on := 7, ground := Ground.phase }], guard := Option.none }) (v := ?_) (by rfl) ?_ (fun wS hSw => ?_) ?_
  rotate_left
  · kernel_rfl
  · (try dsimp only at hSw); go_simp; (try with_reducible rfl)
  try simp only [Act.put, List.setIfInBounds_toArray, List.set_cons_zero, List.set_cons_succ]
  refine Reg.G_on (o := { dst := some 77, op := Op.fieldAddr 75 (Operand.tmp 76) 2, type := 0, pos := "history.go:49", after := #[{ on := 8, ground := Ground.data }, { on := 0, ground := Ground.phase }, { on := 1, ground := Ground.phase }, { on := 2, ground := Ground.phase }, { on := 3, ground := Ground.phase }, { on := 4, ground := Ground.phase }, { on := 5, ground := Ground.phase }, { on := 6, ground := Ground.phase }, { on := 7, ground := Ground.phase }], guard := Option.none }) (v := ?_) (by rfl) ?_ (fun wS hSw => ?_) ?_
  rotate_left
  · kernel_rfl
  · (try dsimp only at hSw); go_simp; (try with_reducible rfl)
  try simp only [Act.put, List.setIfInBounds_toArray, List.set_cons_zero, List.set_cons_succ]
  clear hHeld
  refine Reg.G_last (o := { dst := Option.none, op := Op.store 56 (Operand.tmp 77) (Operand.tmp 75), type := 0, pos := "history.go:49", after := #[{ on := 9, ground := Ground.data }, { on := 7, ground := Ground.data }, { on := 7, ground := Ground.chain }, { on := 0, ground := Ground.phase }, { on := 1, ground := Ground.phase }, { on := 2, ground := Ground.phase }, { on := 3, ground := Ground.phase }, { on := 4, ground := Ground.phase }, { on := 5, ground := Ground.phase }, { on := 6, ground := Ground.phase }, { on := 7, ground := Ground.phase }], guard := Option.none }) (by rfl) (by rfl) ?_ (fun K hK => ?_)
  · kernel_rfl
  go_simp
  refine hK.out _ _ ?_
  clear hK K
  try simp only [Act.put, List.setIfInBounds_toArray, List.set_cons_zero, List.set_cons_succ]
  go_wp2
  go_end0
  exact ⟨rfl, _, HX.out.1, fun k hk => Or.imp id (fun hh => hh.1) hk, HX.out.2⟩
set_option maxHeartbeats 1000000 in
set_option maxRecDepth 20000 in
theorem put_d {w : World} {F : Nat → Prop} {b : Nat} {d s : Int} {xs : List Smp} (h : HS w F b d s xs) (x : Smp) (ho : x.op = 1) (hd : d = 0) (hs : ¬ s = 0) (hl : s ≤ (xs.length : Int)) (hlen : (xs.length + 1) * 80 ≤ 140737488355328) :
    Calls Try.prog 41 #[.pointer (some ⟨b, 0, none⟩), .agg (cells x).toArray] w fun e w' => e = .returned (.tuple #[]) ∧ ∃ F', HS w' F' b d s (dropf (fun _ => true) xs ++ [x]) ∧ Grow F F' w ∧ Mod (HM F b) w w' := by
  obtain ⟨v0, h1, h2⟩ := h.at_
  have hmf : ∀ (fn : Fn) (first cap : Array Value) (w : World), (Instr.makeFunc fn first cap).run Try.prog w = .ok (.func fn first cap) w := fun _ _ _ _ => rfl
  have b1 : Below w.heap.size w (w.alloc (.cells (cells x).toArray 60)) := (Below.refl _ _).alloc (Nat.le_refl _) _
  have n1 := heap_alloc_new w (.cells (cells x).toArray 60)
  have o0 : (w.alloc (.cells (cells x).toArray 60)).cell? ⟨w.heap.size, 0, none⟩ = some (.int .i64 1) := by rw [← ho]; exact blk_cell n1 0
  have HB := h.below b1
  have p1 := its_pr w.heap.size x _ n1
  have hd0 : (w.alloc (.cells (cells x).toArray 60)).cell? ⟨b, 0, none⟩ = some (.int .i64 d) := blk_cell (blk_alloc h1 _) 0
  have hd1 : (w.alloc (.cells (cells x).toArray 60)).cell? ⟨b, 1, none⟩ = some (.int .i64 s) := blk_cell (blk_alloc h1 _) 1
  have hd2 : (w.alloc (.cells (cells x).toArray 60)).cell? ⟨b, 2, none⟩ = some v0 := blk_cell (blk_alloc h1 _) 2
  have HLEN := Lib.hid hlen
  have hgs : Hid (¬ F w.heap.size) := Lib.hid (fun hf => by have := h.old _ hf; omega)
  have M1 := Lib.hid (Mod.of (F := HM F b) b1)
  obtain ⟨A0, c0, rfl, _, _⟩ := h2.slice
  subst hd
  have hs2 : (s == 0) = false := beq_eq_false_iff_ne.2 hs
  have C := first (HB.below (w' := (w.alloc (.cells (cells x).toArray 60)).drew.drew) (below_drew (below_drew (Below.refl _ _)))) (all_pr _)
  have M5 : Hid (Mod (HM F b) w (w.alloc (.cells (cells x).toArray 60)).drew.drew) := Lib.hid M1.out.drew.drew
  have N1 := Lib.hid n1
  have HLEN2 : Hid (((dropf (fun _ => true) xs).length + 1) * 80 ≤ 140737488355328) := Lib.hid (by have := dropf_le (fun _ => true) xs; have := HLEN.out; omega)
  have hboff := Lib.hid h.lt
  generalize dropf (fun _ => true) xs = ys at *
  clear h h1 h2 hlen b1 p1 ho hs n1 HB M1
  go_enter Try.func41, Try.ntmps41
  go_wp2_with fail
  refine Reg.wp_plan (S := fun w' => w'.cell? ⟨b, 0, none⟩ = some (.int .i64 0)) 17 (.fl 0 (.fl 1 (.fl 2 (.fl 3 (.fl 4 (.fl 5 (.fl 6 (.fl 7 (.fl 8 (.fl 10 (.fl 11 (.fl 12 (.fl 13 (.one 9 (.fl 14 (.fl 15 (.fl 16 .done))))))))))))))))) (by kernel_rfl) (by kernel_rfl) (by kernel_rfl) (by kernel_rfl) (fun _ _ _ d _ h => by cases d <;> exact h) ?_ (fun hHeld => ?_)
  · simpa using hd0
  refine Reg.G_on (o := { dst := some 16, op := Op.move (Operand.tmp 0), type := 54, pos := "history.go:42", after := #[], guard := Option.none }) (v := ?_) (by rfl) ?_ (fun wS hSw => ?_) ?_
  rotate_left
  · kernel_rfl
  · (try dsimp only at hSw); go_simp; (try with_reducible rfl)
  try simp only [Act.put, List.setIfInBounds_toArray, List.set_cons_zero, List.set_cons_succ]
  refine Reg.G_on (o := { dst := some 17, op := Op.nilCheck (Operand.tmp 16), type := 0, pos := "history.go:42", after := #[{ on := 0, ground := Ground.data }], guard := Option.none }) (v := ?_) (by rfl) ?_ (fun wS hSw => ?_) ?_
  rotate_left
  · kernel_rfl
  · (try dsimp only at hSw); go_simp; (try with_reducible rfl)
  try simp only [Act.put, List.setIfInBounds_toArray, List.set_cons_zero, List.set_cons_succ]
  refine Reg.G_on (o := { dst := some 18, op := Op.fieldAddr 75 (Operand.tmp 17) 0, type := 0, pos := "history.go:42", after := #[{ on := 1, ground := Ground.data }], guard := Option.none }) (v := ?_) (by rfl) ?_ (fun wS hSw => ?_) ?_
  rotate_left
  · kernel_rfl
  · (try dsimp only at hSw); go_simp; (try with_reducible rfl)
  try simp only [Act.put, List.setIfInBounds_toArray, List.set_cons_zero, List.set_cons_succ]
  refine Reg.G_on (o := { dst := some 19, op := Op.load 3 (Operand.tmp 18), type := 3, pos := "history.go:42", after := #[{ on := 2, ground := Ground.data }], guard := Option.none }) (v := ?_) (by rfl) ?_ (fun wS hSw => ?_) ?_
  rotate_left
  · kernel_rfl
  · (try dsimp only at hSw); go_simp; (try with_reducible rfl)
  try simp only [Act.put, List.setIfInBounds_toArray, List.set_cons_zero, List.set_cons_succ]
  refine Reg.G_on (o := { dst := some 20, op := Op.binOp BinOp.gtr 3 (Operand.tmp 19) (Operand.const (Value.int IntKind.i64 0)) 3, type := 4, pos := "history.go:42", after := #[{ on := 3, ground := Ground.data }], guard := Option.none }) (v := ?_) (by rfl) ?_ (fun wS hSw => ?_) ?_
  rotate_left
  · kernel_rfl
  · (try dsimp only at hSw); go_simp; (try with_reducible rfl)
  try simp only [Act.put, List.setIfInBounds_toArray, List.set_cons_zero, List.set_cons_succ]
  refine Reg.G_on (o := { dst := some 21, op := Op.move (Operand.tmp 20), type := 4, pos := "history.go:42", after := #[{ on := 4, ground := Ground.data }], guard := Option.none }) (v := ?_) (by rfl) ?_ (fun wS hSw => ?_) ?_
  rotate_left
  · kernel_rfl
  · (try dsimp only at hSw); go_simp; (try with_reducible rfl)
  try simp only [Act.put, List.setIfInBounds_toArray, List.set_cons_zero, List.set_cons_succ]
  refine Reg.G_off (o := { dst := some 22, op := Op.move (Operand.tmp 0), type := 54, pos := "history.go:42", after := #[{ on := 5, ground := Ground.guard }], guard := some (5, true) }) (by rfl) ?_ ?_
  · kernel_rfl
  try simp only [Act.put, List.setIfInBounds_toArray, List.set_cons_zero, List.set_cons_succ]
  refine Reg.G_off (o := { dst := some 23, op := Op.fieldAddr 60 (Operand.tmp 3) 5, type := 0, pos := "history.go:42", after := #[{ on := 5, ground := Ground.guard }], guard := some (5, true) }) (by rfl) ?_ ?_
  · kernel_rfl
  try simp only [Act.put, List.setIfInBounds_toArray, List.set_cons_zero, List.set_cons_succ]
  refine Reg.G_off (o := { dst := some 24, op := Op.load 53 (Operand.tmp 23), type := 53, pos := "history.go:42", after := #[{ on := 7, ground := Ground.data }, { on := 5, ground := Ground.guard }], guard := some (5, true) }) (by rfl) ?_ ?_
  · kernel_rfl
  try simp only [Act.put, List.setIfInBounds_toArray, List.set_cons_zero, List.set_cons_succ]
  refine Reg.G_off (o := { dst := some 26, op := Op.move (Operand.tmp 0), type := 54, pos := "history.go:42", after := #[{ on := 5, ground := Ground.guard }], guard := some (5, true) }) (by rfl) ?_ ?_
  · kernel_rfl
  try simp only [Act.put, List.setIfInBounds_toArray, List.set_cons_zero, List.set_cons_succ]
  refine Reg.G_off (o := { dst := some 27, op := Op.nilCheck (Operand.tmp 26), type := 0, pos := "history.go:42", after := #[{ on := 10, ground := Ground.data }, { on := 5, ground := Ground.guard }], guard := some (5, true) }) (by rfl) ?_ ?_
  · kernel_rfl
  try simp only [Act.put, List.setIfInBounds_toArray, List.set_cons_zero, List.set_cons_succ]
  refine Reg.G_off (o := { dst := some 28, op := Op.fieldAddr 75 (Operand.tmp 27) 0, type := 0, pos := "history.go:42", after := #[{ on := 11, ground := Ground.data }, { on := 5, ground := Ground.guard }], guard := some (5, true) }) (by rfl) ?_ ?_
  · kernel_rfl
  try simp only [Act.put, List.setIfInBounds_toArray, List.set_cons_zero, List.set_cons_succ]
  refine Reg.G_off (o := { dst := some 29, op := Op.load 3 (Operand.tmp 28), type := 3, pos := "history.go:42", after := #[{ on := 12, ground := Ground.data }, { on := 5, ground := Ground.guard }], guard := some (5, true) }) (by rfl) ?_ ?_
  · kernel_rfl
  try simp only [Act.put, List.setIfInBounds_toArray, List.set_cons_zero, List.set_cons_succ]
  refine Reg.G_skip (o := { dst := some 25, op := Op.call { callee := Callee.value (Operand.func 37), args := #[Operand.tmp 22, Operand.tmp 24], argTypes := #[54, 53] }, type := 3, pos := "history.go:42", after := #[{ on := 6, ground := Ground.data }, { on := 8, ground := Ground.data }, { on := 5, ground := Ground.chain }, { on := 5, ground := Ground.guard }], guard := some (5, true) }) (by rfl) ?_ (by assumption) ?_
  · kernel_rfl
  try simp only [Act.put, List.setIfInBounds_toArray, List.set_cons_zero, List.set_cons_succ]
  refine Reg.G_off (o := { dst := some 30, op := Op.binOp BinOp.geq 3 (Operand.tmp 25) (Operand.tmp 29) 3, type := 4, pos := "history.go:42", after := #[{ on := 9, ground := Ground.data }, { on := 13, ground := Ground.data }, { on := 5, ground := Ground.guard }], guard := some (5, true) }) (by rfl) ?_ ?_
  · kernel_rfl
  try simp only [Act.put, List.setIfInBounds_toArray, List.set_cons_zero, List.set_cons_succ]
  refine Reg.G_on (o := { dst := some 31, op := Op.pick (Operand.tmp 21) (Operand.tmp 30) (Operand.const (Value.bool false)), type := 4, pos := "history.go:42", after := #[{ on := 5, ground := Ground.data }, { on := 14, ground := Ground.data }], guard := Option.none }) (v := ?_) (by rfl) ?_ (fun wS hSw => ?_) ?_
  rotate_left
  · kernel_rfl
  · (try dsimp only at hSw); go_simp; (try with_reducible rfl)
  try simp only [Act.put, List.setIfInBounds_toArray, List.set_cons_zero, List.set_cons_succ]
  refine Reg.G_on (o := { dst := some 15, op := Op.assign (Operand.tmp 31), type := 4, pos := "history.go:42", after := #[{ on := 15, ground := Ground.data }, { on := 9, ground := Ground.chain }], guard := Option.none }) (v := ?_) (by rfl) ?_ (fun wS hSw => ?_) ?_
  rotate_left
  · kernel_rfl
  · (try dsimp only at hSw); go_simp; (try with_reducible rfl)
  try simp only [Act.put, List.setIfInBounds_toArray, List.set_cons_zero, List.set_cons_succ]
  refine Reg.G_done ?_
  clear hHeld
  go_wp2
  refine Reg.wp_plan (S := fun w' => w'.cell? ⟨b, 0, none⟩ = some (.int .i64 0) ∧ w'.cell? ⟨b, 1, none⟩ = some (.int .i64 s) ∧ w'.cell? ⟨b, 2, none⟩ = some (.slice A0 xs.length c0)) 18 (.fl 0 (.fl 1 (.fl 2 (.fl 3 (.fl 4 (.fl 5 (.fl 6 (.fl 7 (.fl 8 (.fl 9 (.fl 10 (.fl 11 (.fl 12 (.fl 13 (.fl 14 (.fl 15 (.fl 16 (.fl 17 .done)))))))))))))))))) (by kernel_rfl) (by kernel_rfl) (by kernel_rfl) (by kernel_rfl) (fun _ _ _ d _ h => by cases d <;> exact h) ?_ (fun hHeld => ?_)
  · exact ⟨by simpa using hd0, by simpa using hd1, by simpa using hd2⟩
  refine Reg.G_on (o := { dst := some 49, op := Op.move (Operand.tmp 0), type := 54, pos := "history.go:46", after := #[], guard := Option.none }) (v := ?_) (by rfl) ?_ (fun wS hSw => ?_) ?_
  rotate_left
  · kernel_rfl
  · (try dsimp only at hSw); go_simp; (try with_reducible rfl)
  try simp only [Act.put, List.setIfInBounds_toArray, List.set_cons_zero, List.set_cons_succ]
  refine Reg.G_on (o := { dst := some 50, op := Op.nilCheck (Operand.tmp 49), type := 0, pos := "history.go:46", after := #[{ on := 0, ground := Ground.data }], guard := Option.none }) (v := ?_) (by rfl) ?_ (fun wS hSw => ?_) ?_
  rotate_left
  · kernel_rfl
  · (try dsimp only at hSw); go_simp; (try with_reducible rfl)
  try simp only [Act.put, List.setIfInBounds_toArray, List.set_cons_zero, List.set_cons_succ]
  refine Reg.G_on (o := { dst := some 51, op := Op.fieldAddr 75 (Operand.tmp 50) 0, type := 0, pos := "history.go:46", after := #[{ on := 1, ground := Ground.data }], guard := Option.none }) (v := ?_) (by rfl) ?_ (fun wS hSw => ?_) ?_
  rotate_left
  · kernel_rfl
  · (try dsimp only at hSw); go_simp; (try with_reducible rfl)
  try simp only [Act.put, List.setIfInBounds_toArray, List.set_cons_zero, List.set_cons_succ]
  refine Reg.G_on (o := { dst := some 52, op := Op.load 3 (Operand.tmp 51), type := 3, pos := "history.go:46", after := #[{ on := 2, ground := Ground.data }], guard := Option.none }) (v := ?_) (by rfl) ?_ (fun wS hSw => ?_) ?_
  rotate_left
  · kernel_rfl
  · (try dsimp only at hSw); go_simp; (try with_reducible rfl)
  try simp only [Act.put, List.setIfInBounds_toArray, List.set_cons_zero, List.set_cons_succ]
  refine Reg.G_on (o := { dst := some 53, op := Op.binOp BinOp.eql 3 (Operand.tmp 52) (Operand.const (Value.int IntKind.i64 0)) 3, type := 4, pos := "history.go:46", after := #[{ on := 3, ground := Ground.data }], guard := Option.none }) (v := ?_) (by rfl) ?_ (fun wS hSw => ?_) ?_
  rotate_left
  · kernel_rfl
  · (try dsimp only at hSw); go_simp; (try with_reducible rfl)
  try simp only [Act.put, List.setIfInBounds_toArray, List.set_cons_zero, List.set_cons_succ]
  refine Reg.G_on (o := { dst := some 54, op := Op.move (Operand.tmp 53), type := 4, pos := "history.go:46", after := #[{ on := 4, ground := Ground.data }], guard := Option.none }) (v := ?_) (by rfl) ?_ (fun wS hSw => ?_) ?_
  rotate_left
  · kernel_rfl
  · (try dsimp only at hSw); go_simp; (try with_reducible rfl)
  try simp only [Act.put, List.setIfInBounds_toArray, List.set_cons_zero, List.set_cons_succ]
  refine Reg.G_on (o := { dst := some 55, op := Op.move (Operand.tmp 0), type := 54, pos := "history.go:46", after := #[{ on := 5, ground := Ground.guard }], guard := some (5, true) }) (v := ?_) (by rfl) ?_ (fun wS hSw => ?_) ?_
  rotate_left
  · kernel_rfl
  · (try dsimp only at hSw); go_simp; (try with_reducible rfl)
  try simp only [Act.put, List.setIfInBounds_toArray, List.set_cons_zero, List.set_cons_succ]
  refine Reg.G_on (o := { dst := some 56, op := Op.nilCheck (Operand.tmp 55), type := 0, pos := "history.go:46", after := #[{ on := 6, ground := Ground.data }, { on := 5, ground := Ground.guard }], guard := some (5, true) }) (v := ?_) (by rfl) ?_ (fun wS hSw => ?_) ?_
  rotate_left
  · kernel_rfl
  · (try dsimp only at hSw); go_simp; (try with_reducible rfl)
  try simp only [Act.put, List.setIfInBounds_toArray, List.set_cons_zero, List.set_cons_succ]
  refine Reg.G_on (o := { dst := some 57, op := Op.fieldAddr 75 (Operand.tmp 56) 2, type := 0, pos := "history.go:46", after := #[{ on := 7, ground := Ground.data }, { on := 5, ground := Ground.guard }], guard := some (5, true) }) (v := ?_) (by rfl) ?_ (fun wS hSw => ?_) ?_
  rotate_left
  · kernel_rfl
  · (try dsimp only at hSw); go_simp; (try with_reducible rfl)
  try simp only [Act.put, List.setIfInBounds_toArray, List.set_cons_zero, List.set_cons_succ]
  refine Reg.G_on (o := { dst := some 58, op := Op.load 56 (Operand.tmp 57), type := 56, pos := "history.go:46", after := #[{ on := 8, ground := Ground.data }, { on := 5, ground := Ground.guard }], guard := some (5, true) }) (v := ?_) (by rfl) ?_ (fun wS hSw => ?_) ?_
  rotate_left
  · kernel_rfl
  · (try dsimp only at hSw); go_simp; (try with_reducible rfl)
  try simp only [Act.put, List.setIfInBounds_toArray, List.set_cons_zero, List.set_cons_succ]
  refine Reg.G_on (o := { dst := some 59, op := Op.call { callee := Callee.builtin Builtin.len, args := #[Operand.tmp 58], argTypes := #[56] }, type := 3, pos := "history.go:46", after := #[{ on := 9, ground := Ground.data }, { on := 5, ground := Ground.guard }], guard := some (5, true) }) (v := ?_) (by rfl) ?_ (fun wS hSw => ?_) ?_
  rotate_left
  · kernel_rfl
  · (try dsimp only at hSw); go_simp; (try with_reducible rfl)
  try simp only [Act.put, List.setIfInBounds_toArray, List.set_cons_zero, List.set_cons_succ]
  refine Reg.G_on (o := { dst := some 60, op := Op.move (Operand.tmp 0), type := 54, pos := "history.go:46", after := #[{ on := 5, ground := Ground.guard }], guard := some (5, true) }) (v := ?_) (by rfl) ?_ (fun wS hSw => ?_) ?_
  rotate_left
  · kernel_rfl
  · (try dsimp only at hSw); go_simp; (try with_reducible rfl)
  try simp only [Act.put, List.setIfInBounds_toArray, List.set_cons_zero, List.set_cons_succ]
  refine Reg.G_on (o := { dst := some 61, op := Op.nilCheck (Operand.tmp 60), type := 0, pos := "history.go:46", after := #[{ on := 11, ground := Ground.data }, { on := 5, ground := Ground.guard }], guard := some (5, true) }) (v := ?_) (by rfl) ?_ (fun wS hSw => ?_) ?_
  rotate_left
  · kernel_rfl
  · (try dsimp only at hSw); go_simp; (try with_reducible rfl)
  try simp only [Act.put, List.setIfInBounds_toArray, List.set_cons_zero, List.set_cons_succ]
  refine Reg.G_on (o := { dst := some 62, op := Op.fieldAddr 75 (Operand.tmp 61) 1, type := 0, pos := "history.go:46", after := #[{ on := 12, ground := Ground.data }, { on := 5, ground := Ground.guard }], guard := some (5, true) }) (v := ?_) (by rfl) ?_ (fun wS hSw => ?_) ?_
  rotate_left
  · kernel_rfl
  · (try dsimp only at hSw); go_simp; (try with_reducible rfl)
  try simp only [Act.put, List.setIfInBounds_toArray, List.set_cons_zero, List.set_cons_succ]
  refine Reg.G_on (o := { dst := some 63, op := Op.load 3 (Operand.tmp 62), type := 3, pos := "history.go:46", after := #[{ on := 13, ground := Ground.data }, { on := 5, ground := Ground.guard }], guard := some (5, true) }) (v := ?_) (by rfl) ?_ (fun wS hSw => ?_) ?_
  rotate_left
  · kernel_rfl
  · (try dsimp only at hSw); go_simp; (try with_reducible rfl)
  try simp only [Act.put, List.setIfInBounds_toArray, List.set_cons_zero, List.set_cons_succ]
  refine Reg.G_on (o := { dst := some 64, op := Op.binOp BinOp.geq 3 (Operand.tmp 59) (Operand.tmp 63) 3, type := 4, pos := "history.go:46", after := #[{ on := 10, ground := Ground.data }, { on := 14, ground := Ground.data }, { on := 5, ground := Ground.guard }], guard := some (5, true) }) (v := ?_) (by rfl) ?_ (fun wS hSw => ?_) ?_
  rotate_left
  · kernel_rfl
  · (try dsimp only at hSw); go_simp; (try with_reducible rfl)
  try simp only [Act.put, List.setIfInBounds_toArray, List.set_cons_zero, List.set_cons_succ]
  refine Reg.G_on (o := { dst := some 65, op := Op.pick (Operand.tmp 54) (Operand.tmp 64) (Operand.const (Value.bool false)), type := 4, pos := "history.go:46", after := #[{ on := 5, ground := Ground.data }, { on := 15, ground := Ground.data }], guard := Option.none }) (v := ?_) (by rfl) ?_ (fun wS hSw => ?_) ?_
  rotate_left
  · kernel_rfl
  · (try dsimp only at hSw); go_simp; (try with_reducible rfl)
  try simp only [Act.put, List.setIfInBounds_toArray, List.set_cons_zero, List.set_cons_succ]
  refine Reg.G_on (o := { dst := some 48, op := Op.assign (Operand.tmp 65), type := 4, pos := "history.go:46", after := #[{ on := 16, ground := Ground.data }, { on := 5, ground := Ground.chain }], guard := Option.none }) (v := ?_) (by rfl) ?_ (fun wS hSw => ?_) ?_
  rotate_left
  · kernel_rfl
  · (try dsimp only at hSw); go_simp; (try with_reducible rfl)
  try simp only [Act.put, List.setIfInBounds_toArray, List.set_cons_zero, List.set_cons_succ]
  refine Reg.G_done ?_
  clear hHeld
  go_wp2_with fail
  refine C.mono ?_
  rintro e w5 ⟨rfl, H5, m5⟩
  have n5 : w5.heap[w.heap.size]? = some (.cells (cells x).toArray 60 (0, 0)) := (m5.block w.heap.size (show w.heap.size < (w.alloc (.cells (cells x).toArray 60)).drew.drew.heap.size from by simp) (fun hh => hh.elim (fun e => by have := hboff.out; omega) hgs.out)).trans N1.out
  have M6 := Lib.hid (M5.out.trans m5 (fun _ h => .inl h))
  clear C m5 M5 N1 hd0 hd1 hd2 o0
  go_wp2
  obtain ⟨v5, h5, r5⟩ := H5.at_
  have y5 : w5.cell? ⟨b, 2, none⟩ = some v5 := blk_cell h5 2
  obtain ⟨v7, w7, hrun, r7, g7, s7⟩ := (show Row w5.drew F v5 ys from r5).append H5.old x HLEN2.out 56
  have hown := r5.own
  obtain ⟨A5, c5, rfl, _, _⟩ := r5.slice
  have n7 := blk_grown (w := w5.drew) n5 g7 (fun e => by have h9 := (hown _ e.symm).1; exact hgs.out h9)
  have k7 := blk_grown (w := w5.drew) h5 g7 (fun e => by have h9 := (hown _ e.symm).1; exact H5.off h9)
  have y7 : w7.cell? ⟨b, 2, none⟩ = some (.slice A5 ys.length c5) := blk_cell k7 2
  have z7 := blk_frozen k7 2
  have HSZ : w5.drew.heap.size = w5.heap.size := rfl
  have HX : Hid (HS (w7.setCell ⟨b, 2, none⟩ v7) (fun k => F k ∨ (w.heap.size ≤ k ∧ k < w7.heap.size ∧ k ≠ b)) b 0 s (ys ++ [x]) ∧ Mod (HM F b) w (w7.setCell ⟨b, 2, none⟩ v7)) := Lib.hid (by
    have hbl := blk_lt h5
    have hFm : ∀ k, (F k ∨ (w5.drew.heap.size ≤ k ∧ k < w7.heap.size)) → (F k ∨ (w.heap.size ≤ k ∧ k < w7.heap.size ∧ k ≠ b)) := fun k hk => hk.imp id (fun hh => ⟨by have := M6.out.size; omega, hh.2, by omega⟩)
    have hoff : ¬ (F b ∨ (w.heap.size ≤ b ∧ b < w7.heap.size ∧ b ≠ b)) := fun hh => hh.elim H5.off (fun hh => hh.2.2 rfl)
    refine ⟨⟨⟨v7, blk_put k7 2 v7 rfl, (r7.mono hFm).set (a := ⟨b, 2, none⟩) hoff v7⟩, hoff, fun k hk => ?_, H5.d0, H5.s0, H5.dm, H5.sm⟩, ?_⟩
    · have : (w7.setCell ⟨b, 2, none⟩ v7).heap.size = w7.heap.size := by simp [World.setCell]
      rw [this]
      rcases hk with hk | hk
      · have := H5.old k hk; omega
      · exact hk.2.1
    · exact ((M6.out.drew).grown g7 (fun k hk => .inl (.inr (hown k hk).1))).set (p := ⟨b, 2, none⟩) (.inl (.inl rfl)) v7)
  obtain ⟨A7, c7, rfl, _, _⟩ := r7.slice
  rw [List.length_append, List.length_singleton] at HX hrun
  clear h5 r5 r7 g7 s7 hown k7 HSZ H5
  refine Reg.wp_plan (S := fun w' => w'.heap[w.heap.size]? = some (.cells (cells x).toArray 60 (0, 0)) ∧ w'.cell? ⟨b, 2, none⟩ = some (.slice A5 ys.length c5)) 10 (.fl 0 (.fl 1 (.fl 2 (.fl 3 (.fl 4 (.fl 5 (.one 6 (.one 7 (.fl 8 (.fl 9 (.one 10 .done))))))))))) (by kernel_rfl) (by kernel_rfl) (by kernel_rfl) (by kernel_rfl) (fun _ _ _ d _ h => by cases d <;> exact h) ?_ (fun hHeld => ?_)
  · exact ⟨n5, y5⟩
  refine Reg.G_on (o := { dst := some 68, op := Op.move (Operand.tmp 0), type := 54, pos := "history.go:49", after := #[], guard := Option.none }) (v := ?_) (by rfl) ?_ (fun wS hSw => ?_) ?_
  rotate_left
  · kernel_rfl
  · (try dsimp only at hSw); go_simp; (try with_reducible rfl)
  try simp only [Act.put, List.setIfInBounds_toArray, List.set_cons_zero, List.set_cons_succ]
  refine Reg.G_on (o := { dst := some 69, op := Op.move (Operand.tmp 0), type := 54, pos := "history.go:49", after := #[], guard := Option.none }) (v := ?_) (by rfl) ?_ (fun wS hSw => ?_) ?_
  rotate_left
  · kernel_rfl
  · (try dsimp only at hSw); go_simp; (try with_reducible rfl)
  try simp only [Act.put, List.setIfInBounds_toArray, List.set_cons_zero, List.set_cons_succ]
  refine Reg.G_on (o := { dst := some 70, op := Op.nilCheck (Operand.tmp 69), type := 0, pos := "history.go:49", after := #[{ on := 1, ground := Ground.data }], guard := Option.none }) (v := ?_) (by rfl) ?_ (fun wS hSw => ?_) ?_
  rotate_left
  · kernel_rfl
  · (try dsimp only at hSw); go_simp; (try with_reducible rfl)
  try simp only [Act.put, List.setIfInBounds_toArray, List.set_cons_zero, List.set_cons_succ]
  refine Reg.G_on (o := { dst := some 71, op := Op.fieldAddr 75 (Operand.tmp 70) 2, type := 0, pos := "history.go:49", after := #[{ on := 2, ground := Ground.data }], guard := Option.none }) (v := ?_) (by rfl) ?_ (fun wS hSw => ?_) ?_
  rotate_left
  · kernel_rfl
  · (try dsimp only at hSw); go_simp; (try with_reducible rfl)
  try simp only [Act.put, List.setIfInBounds_toArray, List.set_cons_zero, List.set_cons_succ]
  refine Reg.G_on (o := { dst := some 72, op := Op.load 56 (Operand.tmp 71), type := 56, pos := "history.go:49", after := #[{ on := 3, ground := Ground.data }], guard := Option.none }) (v := ?_) (by rfl) ?_ (fun wS hSw => ?_) ?_
  rotate_left
  · kernel_rfl
  · (try dsimp only at hSw); go_simp; (try with_reducible rfl)
  try simp only [Act.put, List.setIfInBounds_toArray, List.set_cons_zero, List.set_cons_succ]
  refine Reg.G_on (o := { dst := some 73, op := Op.load 60 (Operand.tmp 3), type := 60, pos := "history.go:49", after := #[], guard := Option.none }) (v := .agg (cells x).toArray) (by rfl) ?_ (fun wS hSw => ?_) ?_
  · kernel_rfl
  · exact load_yields rfl rfl (box_range hSw.1) Try.underlying60 rfl (size23 x)
  try simp only [Act.put, List.setIfInBounds_toArray, List.set_cons_zero, List.set_cons_succ]
  refine Reg.G_step (o := { dst := some 74, op := Op.buildSlice 56 1 #[(0, Operand.tmp 73)], type := 56, pos := "history.go:49", after := #[{ on := 5, ground := Ground.data }], guard := Option.none }) (by rfl) ?_ (fun K hK => ?_)
  · kernel_rfl
  refine build1 (x := x) rfl rfl ?_
  refine hK.out _ _ ?_ (fun hHeld => ?_)
  · exact ⟨blk_alloc n5 _, cnew y5⟩
  clear hK K
  try simp only [Act.put, List.setIfInBounds_toArray, List.set_cons_zero, List.set_cons_succ]
  refine Reg.G_step (o := { dst := some 75, op := Op.call { callee := Callee.builtin Builtin.append, args := #[Operand.tmp 72, Operand.tmp 74], argTypes := #[56, 56] }, type := 56, pos := "history.go:49", after := #[{ on := 4, ground := Ground.data }, { on := 6, ground := Ground.data }], guard := Option.none }) (by rfl) ?_ (fun K hK => ?_)
  · kernel_rfl
  refine op_append (.tmp 72) (.tmp 74) 56 rfl rfl rfl hrun ?_
  refine hK.out _ _ ?_ (fun hHeld => ?_)
  · exact ⟨n7, y7⟩
  clear hK K
  try simp only [Act.put, List.setIfInBounds_toArray, List.set_cons_zero, List.set_cons_succ]
  refine Reg.G_on (o := { dst := some 76, op := Op.nilCheck (Operand.tmp 68), type := 0, pos := "history.go:49", after := #[{ on := 0, ground := Ground.data }, { on := 0, ground := Ground.phase }, { on := 1, ground := Ground.phase }, { on := 2, ground := Ground.phase }, { on := 3, ground := Ground.phase }, { on := 4, ground := Ground.phase }, { on := 5, ground := Ground.phase }, { on := 6, ground := Ground.phase }, { on := 7, ground := Ground.phase }], guard := Option.none }) (v := ?_) (by rfl) ?_ (fun wS hSw => ?_) ?_
  rotate_left
  · kernel_rfl
  · (try dsimp only at hSw); go_simp; (try with_reducible rfl)
  try simp only [Act.put, List.setIfInBounds_toArray, List.set_cons_zero, List.set_cons_succ]
  refine Reg.G_on (o := { dst := some 77, op := Op.fieldAddr 75 (Operand.tmp 76) 2, type := 0, pos := "history.go:49", after := #[{ on := 8, ground := Ground.data }, { on := 0, ground := Ground.phase }, { on := 1, ground := Ground.phase }, { on := 2, ground := Ground.phase }, { on := 3, ground := Ground.phase }, { on := 4, ground := Ground.phase }, { on := 5, ground := Ground.phase }, { on := 6, ground := Ground.phase }, { on := 7, ground := Ground.phase }], guard := Option.none }) (v := ?_) (by rfl) ?_ (fun wS hSw => ?_) ?_
  rotate_left
  · kernel_rfl
  · (try dsimp only at hSw); go_simp; (try with_reducible rfl)
  try simp only [Act.put, List.setIfInBounds_toArray, List.set_cons_zero, List.set_cons_succ]
  clear hHeld
  refine Reg.G_last (o := { dst := Option.none, op := Op.store 56 (Operand.tmp 77) (Operand.tmp 75), type := 0, pos := "history.go:49", after := #[{ on := 9, ground := Ground.data }, { on := 7, ground := Ground.data }, { on := 7, ground := Ground.chain }, { on := 0, ground := Ground.phase }, { on := 1, ground := Ground.phase }, { on := 2, ground := Ground.phase }, { on := 3, ground := Ground.phase }, { on := 4, ground := Ground.phase }, { on := 5, ground := Ground.phase }, { on := 6, ground := Ground.phase }, { on := 7, ground := Ground.phase }], guard := Option.none }) (by rfl) (by rfl) ?_ (fun K hK => ?_)
  · kernel_rfl
  go_simp
  refine hK.out _ _ ?_
  clear hK K
  try simp only [Act.put, List.setIfInBounds_toArray, List.set_cons_zero, List.set_cons_succ]
  go_wp2
  go_end0
  exact ⟨rfl, _, HX.out.1, fun k hk => Or.imp id (fun hh => hh.1) hk, HX.out.2⟩
set_option maxHeartbeats 1000000 in
set_option maxRecDepth 20000 in
theorem put_c {w : World} {F : Nat → Prop} {b : Nat} {d s : Int} {xs : List Smp} (h : HS w F b d s xs) (x : Smp) (ho : x.op = 1) (hd : d = 0) (hs : s = 0) (hlen : (xs.length + 1) * 80 ≤ 140737488355328) :
    Calls Try.prog 41 #[.pointer (some ⟨b, 0, none⟩), .agg (cells x).toArray] w fun e w' => e = .returned (.tuple #[]) ∧ ∃ F', HS w' F' b d s xs ∧ Grow F F' w ∧ Mod (HM F b) w w' := by
  obtain ⟨v0, h1, h2⟩ := h.at_
  have hmf : ∀ (fn : Fn) (first cap : Array Value) (w : World), (Instr.makeFunc fn first cap).run Try.prog w = .ok (.func fn first cap) w := fun _ _ _ _ => rfl
  have b1 : Below w.heap.size w (w.alloc (.cells (cells x).toArray 60)) := (Below.refl _ _).alloc (Nat.le_refl _) _
  have n1 := heap_alloc_new w (.cells (cells x).toArray 60)
  have o0 : (w.alloc (.cells (cells x).toArray 60)).cell? ⟨w.heap.size, 0, none⟩ = some (.int .i64 1) := by rw [← ho]; exact blk_cell n1 0
  have HB := h.below b1
  have p1 := its_pr w.heap.size x _ n1
  have hd0 : (w.alloc (.cells (cells x).toArray 60)).cell? ⟨b, 0, none⟩ = some (.int .i64 d) := blk_cell (blk_alloc h1 _) 0
  have hd1 : (w.alloc (.cells (cells x).toArray 60)).cell? ⟨b, 1, none⟩ = some (.int .i64 s) := blk_cell (blk_alloc h1 _) 1
  have hd2 : (w.alloc (.cells (cells x).toArray 60)).cell? ⟨b, 2, none⟩ = some v0 := blk_cell (blk_alloc h1 _) 2
  have HLEN := Lib.hid hlen
  have hgs : Hid (¬ F w.heap.size) := Lib.hid (fun hf => by have := h.old _ hf; omega)
  have M1 := Lib.hid (Mod.of (F := HM F b) b1)
  obtain ⟨A0, c0, rfl, _, _⟩ := h2.slice
  subst hd hs
  have HB1 := Lib.hid HB
  have hlt := Lib.hid h.old
  clear h h1 h2 hlen b1 p1 ho n1 HB
  go_enter Try.func41, Try.ntmps41
  go_wp2_with fail
  refine Reg.wp_plan (S := fun w' => w'.cell? ⟨b, 0, none⟩ = some (.int .i64 0)) 17 (.fl 0 (.fl 1 (.fl 2 (.fl 3 (.fl 4 (.fl 5 (.fl 6 (.fl 7 (.fl 8 (.fl 10 (.fl 11 (.fl 12 (.fl 13 (.one 9 (.fl 14 (.fl 15 (.fl 16 .done))))))))))))))))) (by kernel_rfl) (by kernel_rfl) (by kernel_rfl) (by kernel_rfl) (fun _ _ _ d _ h => by cases d <;> exact h) ?_ (fun hHeld => ?_)
  · simpa using hd0
  refine Reg.G_on (o := { dst := some 16, op := Op.move (Operand.tmp 0), type := 54, pos := "history.go:42", after := #[], guard := Option.none }) (v := ?_) (by rfl) ?_ (fun wS hSw => ?_) ?_
  rotate_left
  · kernel_rfl
  · (try dsimp only at hSw); go_simp; (try with_reducible rfl)
  try simp only [Act.put, List.setIfInBounds_toArray, List.set_cons_zero, List.set_cons_succ]
  refine Reg.G_on (o := { dst := some 17, op := Op.nilCheck (Operand.tmp 16), type := 0, pos := "history.go:42", after := #[{ on := 0, ground := Ground.data }], guard := Option.none }) (v := ?_) (by rfl) ?_ (fun wS hSw => ?_) ?_
  rotate_left
  · kernel_rfl
  · (try dsimp only at hSw); go_simp; (try with_reducible rfl)
  try simp only [Act.put, List.setIfInBounds_toArray, List.set_cons_zero, List.set_cons_succ]
  refine Reg.G_on (o := { dst := some 18, op := Op.fieldAddr 75 (Operand.tmp 17) 0, type := 0, pos := "history.go:42", after := #[{ on := 1, ground := Ground.data }], guard := Option.none }) (v := ?_) (by rfl) ?_ (fun wS hSw => ?_) ?_
  rotate_left
  · kernel_rfl
  · (try dsimp only at hSw); go_simp; (try with_reducible rfl)
  try simp only [Act.put, List.setIfInBounds_toArray, List.set_cons_zero, List.set_cons_succ]
  refine Reg.G_on (o := { dst := some 19, op := Op.load 3 (Operand.tmp 18), type := 3, pos := "history.go:42", after := #[{ on := 2, ground := Ground.data }], guard := Option.none }) (v := ?_) (by rfl) ?_ (fun wS hSw => ?_) ?_
  rotate_left
  · kernel_rfl
  · (try dsimp only at hSw); go_simp; (try with_reducible rfl)
  try simp only [Act.put, List.setIfInBounds_toArray, List.set_cons_zero, List.set_cons_succ]
  refine Reg.G_on (o := { dst := some 20, op := Op.binOp BinOp.gtr 3 (Operand.tmp 19) (Operand.const (Value.int IntKind.i64 0)) 3, type := 4, pos := "history.go:42", after := #[{ on := 3, ground := Ground.data }], guard := Option.none }) (v := ?_) (by rfl) ?_ (fun wS hSw => ?_) ?_
  rotate_left
  · kernel_rfl
  · (try dsimp only at hSw); go_simp; (try with_reducible rfl)
  try simp only [Act.put, List.setIfInBounds_toArray, List.set_cons_zero, List.set_cons_succ]
  refine Reg.G_on (o := { dst := some 21, op := Op.move (Operand.tmp 20), type := 4, pos := "history.go:42", after := #[{ on := 4, ground := Ground.data }], guard := Option.none }) (v := ?_) (by rfl) ?_ (fun wS hSw => ?_) ?_
  rotate_left
  · kernel_rfl
  · (try dsimp only at hSw); go_simp; (try with_reducible rfl)
  try simp only [Act.put, List.setIfInBounds_toArray, List.set_cons_zero, List.set_cons_succ]
  refine Reg.G_off (o := { dst := some 22, op := Op.move (Operand.tmp 0), type := 54, pos := "history.go:42", after := #[{ on := 5, ground := Ground.guard }], guard := some (5, true) }) (by rfl) ?_ ?_
  · kernel_rfl
  try simp only [Act.put, List.setIfInBounds_toArray, List.set_cons_zero, List.set_cons_succ]
  refine Reg.G_off (o := { dst := some 23, op := Op.fieldAddr 60 (Operand.tmp 3) 5, type := 0, pos := "history.go:42", after := #[{ on := 5, ground := Ground.guard }], guard := some (5, true) }) (by rfl) ?_ ?_
  · kernel_rfl
  try simp only [Act.put, List.setIfInBounds_toArray, List.set_cons_zero, List.set_cons_succ]
  refine Reg.G_off (o := { dst := some 24, op := Op.load 53 (Operand.tmp 23), type := 53, pos := "history.go:42", after := #[{ on := 7, ground := Ground.data }, { on := 5, ground := Ground.guard }], guard := some (5, true) }) (by rfl) ?_ ?_
  · kernel_rfl
  try simp only [Act.put, List.setIfInBounds_toArray, List.set_cons_zero, List.set_cons_succ]
  refine Reg.G_off (o := { dst := some 26, op := Op.move (Operand.tmp 0), type := 54, pos := "history.go:42", after := #[{ on := 5, ground := Ground.guard }], guard := some (5, true) }) (by rfl) ?_ ?_
  · kernel_rfl
  try simp only [Act.put, List.setIfInBounds_toArray, List.set_cons_zero, List.set_cons_succ]
  refine Reg.G_off (o := { dst := some 27, op := Op.nilCheck (Operand.tmp 26), type := 0, pos := "history.go:42", after := #[{ on := 10, ground := Ground.data }, { on := 5, ground := Ground.guard }], guard := some (5, true) }) (by rfl) ?_ ?_
  · kernel_rfl
  try simp only [Act.put, List.setIfInBounds_toArray, List.set_cons_zero, List.set_cons_succ]
  refine Reg.G_off (o := { dst := some 28, op := Op.fieldAddr 75 (Operand.tmp 27) 0, type := 0, pos := "history.go:42", after := #[{ on := 11, ground := Ground.data }, { on := 5, ground := Ground.guard }], guard := some (5, true) }) (by rfl) ?_ ?_
  · kernel_rfl
  try simp only [Act.put, List.setIfInBounds_toArray, List.set_cons_zero, List.set_cons_succ]
  refine Reg.G_off (o := { dst := some 29, op := Op.load 3 (Operand.tmp 28), type := 3, pos := "history.go:42", after := #[{ on := 12, ground := Ground.data }, { on := 5, ground := Ground.guard }], guard := some (5, true) }) (by rfl) ?_ ?_
  · kernel_rfl
  try simp only [Act.put, List.setIfInBounds_toArray, List.set_cons_zero, List.set_cons_succ]
  refine Reg.G_skip (o := { dst := some 25, op := Op.call { callee := Callee.value (Operand.func 37), args := #[Operand.tmp 22, Operand.tmp 24], argTypes := #[54, 53] }, type := 3, pos := "history.go:42", after := #[{ on := 6, ground := Ground.data }, { on := 8, ground := Ground.data }, { on := 5, ground := Ground.chain }, { on := 5, ground := Ground.guard }], guard := some (5, true) }) (by rfl) ?_ (by assumption) ?_
  · kernel_rfl
  try simp only [Act.put, List.setIfInBounds_toArray, List.set_cons_zero, List.set_cons_succ]
  refine Reg.G_off (o := { dst := some 30, op := Op.binOp BinOp.geq 3 (Operand.tmp 25) (Operand.tmp 29) 3, type := 4, pos := "history.go:42", after := #[{ on := 9, ground := Ground.data }, { on := 13, ground := Ground.data }, { on := 5, ground := Ground.guard }], guard := some (5, true) }) (by rfl) ?_ ?_
  · kernel_rfl
  try simp only [Act.put, List.setIfInBounds_toArray, List.set_cons_zero, List.set_cons_succ]
  refine Reg.G_on (o := { dst := some 31, op := Op.pick (Operand.tmp 21) (Operand.tmp 30) (Operand.const (Value.bool false)), type := 4, pos := "history.go:42", after := #[{ on := 5, ground := Ground.data }, { on := 14, ground := Ground.data }], guard := Option.none }) (v := ?_) (by rfl) ?_ (fun wS hSw => ?_) ?_
  rotate_left
  · kernel_rfl
  · (try dsimp only at hSw); go_simp; (try with_reducible rfl)
  try simp only [Act.put, List.setIfInBounds_toArray, List.set_cons_zero, List.set_cons_succ]
  refine Reg.G_on (o := { dst := some 15, op := Op.assign (Operand.tmp 31), type := 4, pos := "history.go:42", after := #[{ on := 15, ground := Ground.data }, { on := 9, ground := Ground.chain }], guard := Option.none }) (v := ?_) (by rfl) ?_ (fun wS hSw => ?_) ?_
  rotate_left
  · kernel_rfl
  · (try dsimp only at hSw); go_simp; (try with_reducible rfl)
  try simp only [Act.put, List.setIfInBounds_toArray, List.set_cons_zero, List.set_cons_succ]
  refine Reg.G_done ?_
  clear hHeld
  go_wp2
  refine bodyPost_ret (results_none rfl _ _ _) rfl ?_
  exact ⟨rfl, F, HB1.out.below (below_drew (Below.refl _ _)), fun k hk => .inl hk, M1.out.drew⟩
set_option maxHeartbeats 1000000 in
set_option maxRecDepth 20000 in
theorem put_a {w : World} {F : Nat → Prop} {b : Nat} {d s : Int} {xs : List Smp} (h : HS w F b d s xs) (x : Smp) (ho : x.op = 1) (hd : 0 < d) (hs : d ≤ (cnt x.key xs : Int)) (hlen : (xs.length + 1) * 80 ≤ 140737488355328) :
    Calls Try.prog 41 #[.pointer (some ⟨b, 0, none⟩), .agg (cells x).toArray] w fun e w' => e = .returned (.tuple #[]) ∧ ∃ F', HS w' F' b d s (dropf (itk x.key) xs ++ [x]) ∧ Grow F F' w ∧ Mod (HM F b) w w' := by
  obtain ⟨v0, h1, h2⟩ := h.at_
  have hmf : ∀ (fn : Fn) (first cap : Array Value) (w : World), (Instr.makeFunc fn first cap).run Try.prog w = .ok (.func fn first cap) w := fun _ _ _ _ => rfl
  have b1 : Below w.heap.size w (w.alloc (.cells (cells x).toArray 60)) := (Below.refl _ _).alloc (Nat.le_refl _) _
  have n1 := heap_alloc_new w (.cells (cells x).toArray 60)
  have o0 : (w.alloc (.cells (cells x).toArray 60)).cell? ⟨w.heap.size, 0, none⟩ = some (.int .i64 1) := by rw [← ho]; exact blk_cell n1 0
  have HB := h.below b1
  have p1 := its_pr w.heap.size x _ n1
  have hd0 : (w.alloc (.cells (cells x).toArray 60)).cell? ⟨b, 0, none⟩ = some (.int .i64 d) := blk_cell (blk_alloc h1 _) 0
  have hd1 : (w.alloc (.cells (cells x).toArray 60)).cell? ⟨b, 1, none⟩ = some (.int .i64 s) := blk_cell (blk_alloc h1 _) 1
  have hd2 : (w.alloc (.cells (cells x).toArray 60)).cell? ⟨b, 2, none⟩ = some v0 := blk_cell (blk_alloc h1 _) 2
  have HLEN := Lib.hid hlen
  have hgs : Hid (¬ F w.heap.size) := Lib.hid (fun hf => by have := h.old _ hf; omega)
  have M1 := Lib.hid (Mod.of (F := HM F b) b1)
  have HLEN2 : Hid (((dropf (itk x.key) xs).length + 1) * 80 ≤ 140737488355328) := Lib.hid (by have := dropf_le (itk x.key) xs; have := HLEN.out; omega)
  have CF := Lib.hid (fun (w5 : World) (H : HS w5 F b d s xs) (n : w5.heap[w.heap.size]? = some (.cells (cells x).toArray 60 (0, 0))) => first H (its_pr w.heap.size x w5 n))
  generalize dropf (itk x.key) xs = ys at CF HLEN2 ⊢
  have hw0 : (0 : Int) < d := hd
  have C1 := of (HB.below (w' := (w.alloc (.cells (cells x).toArray 60)).drew) (below_drew (Below.refl _ _))) (by omega) x.key (smp_key x)
  have N1 := Lib.hid n1
  have HB1 := Lib.hid HB
  have H1 := Lib.hid (blk_alloc h1 (.cells (cells x).toArray 60))
  have hblt := Lib.hid h.lt
  have hold := Lib.hid h.old
  generalize cnt x.key xs = c at *
  clear h h1 h2 hlen b1 p1 ho HB hd
  go_enter Try.func41, Try.ntmps41
  go_wp2_with fail
  refine Reg.wp_plan (S := fun w' => w'.heap[w.heap.size]? = some (.cells (cells x).toArray 60 (0, 0)) ∧ w'.cell? ⟨b, 0, none⟩ = some (.int .i64 d)) 17 (.fl 0 (.fl 1 (.fl 2 (.fl 3 (.fl 4 (.fl 5 (.fl 6 (.fl 7 (.fl 8 (.fl 10 (.fl 11 (.fl 12 (.fl 13 (.one 9 (.fl 14 (.fl 15 (.fl 16 .done))))))))))))))))) (by kernel_rfl) (by kernel_rfl) (by kernel_rfl) (by kernel_rfl) (fun _ _ _ d _ h => by cases d <;> exact h) ?_ (fun hHeld => ?_)
  · exact ⟨N1.out, by simpa using hd0⟩
  refine Reg.G_on (o := { dst := some 16, op := Op.move (Operand.tmp 0), type := 54, pos := "history.go:42", after := #[], guard := Option.none }) (v := ?_) (by rfl) ?_ (fun wS hSw => ?_) ?_
  rotate_left
  · kernel_rfl
  · (try dsimp only at hSw); go_simp; (try with_reducible rfl)
  try simp only [Act.put, List.setIfInBounds_toArray, List.set_cons_zero, List.set_cons_succ]
  refine Reg.G_on (o := { dst := some 17, op := Op.nilCheck (Operand.tmp 16), type := 0, pos := "history.go:42", after := #[{ on := 0, ground := Ground.data }], guard := Option.none }) (v := ?_) (by rfl) ?_ (fun wS hSw => ?_) ?_
  rotate_left
  · kernel_rfl
  · (try dsimp only at hSw); go_simp; (try with_reducible rfl)
  try simp only [Act.put, List.setIfInBounds_toArray, List.set_cons_zero, List.set_cons_succ]
  refine Reg.G_on (o := { dst := some 18, op := Op.fieldAddr 75 (Operand.tmp 17) 0, type := 0, pos := "history.go:42", after := #[{ on := 1, ground := Ground.data }], guard := Option.none }) (v := ?_) (by rfl) ?_ (fun wS hSw => ?_) ?_
  rotate_left
  · kernel_rfl
  · (try dsimp only at hSw); go_simp; (try with_reducible rfl)
  try simp only [Act.put, List.setIfInBounds_toArray, List.set_cons_zero, List.set_cons_succ]
  refine Reg.G_on (o := { dst := some 19, op := Op.load 3 (Operand.tmp 18), type := 3, pos := "history.go:42", after := #[{ on := 2, ground := Ground.data }], guard := Option.none }) (v := ?_) (by rfl) ?_ (fun wS hSw => ?_) ?_
  rotate_left
  · kernel_rfl
  · (try dsimp only at hSw); go_simp; (try with_reducible rfl)
  try simp only [Act.put, List.setIfInBounds_toArray, List.set_cons_zero, List.set_cons_succ]
  refine Reg.G_on (o := { dst := some 20, op := Op.binOp BinOp.gtr 3 (Operand.tmp 19) (Operand.const (Value.int IntKind.i64 0)) 3, type := 4, pos := "history.go:42", after := #[{ on := 3, ground := Ground.data }], guard := Option.none }) (v := ?_) (by rfl) ?_ (fun wS hSw => ?_) ?_
  rotate_left
  · kernel_rfl
  · (try dsimp only at hSw); go_simp; (try with_reducible rfl)
  try simp only [Act.put, List.setIfInBounds_toArray, List.set_cons_zero, List.set_cons_succ]
  refine Reg.G_on (o := { dst := some 21, op := Op.move (Operand.tmp 20), type := 4, pos := "history.go:42", after := #[{ on := 4, ground := Ground.data }], guard := Option.none }) (v := ?_) (by rfl) ?_ (fun wS hSw => ?_) ?_
  rotate_left
  · kernel_rfl
  · (try dsimp only at hSw); go_simp; (try with_reducible rfl)
  try simp only [Act.put, List.setIfInBounds_toArray, List.set_cons_zero, List.set_cons_succ]
  refine Reg.G_on (o := { dst := some 22, op := Op.move (Operand.tmp 0), type := 54, pos := "history.go:42", after := #[{ on := 5, ground := Ground.guard }], guard := some (5, true) }) (v := ?_) (by rfl) ?_ (fun wS hSw => ?_) ?_
  rotate_left
  · kernel_rfl
  · (try dsimp only at hSw); go_simp; (try with_reducible rfl)
  try simp only [Act.put, List.setIfInBounds_toArray, List.set_cons_zero, List.set_cons_succ]
  refine Reg.G_on (o := { dst := some 23, op := Op.fieldAddr 60 (Operand.tmp 3) 5, type := 0, pos := "history.go:42", after := #[{ on := 5, ground := Ground.guard }], guard := some (5, true) }) (v := ?_) (by rfl) ?_ (fun wS hSw => ?_) ?_
  rotate_left
  · kernel_rfl
  · (try dsimp only at hSw); go_simp; (try with_reducible rfl)
  try simp only [Act.put, List.setIfInBounds_toArray, List.set_cons_zero, List.set_cons_succ]
  refine Reg.G_on (o := { dst := some 24, op := Op.load 53 (Operand.tmp 23), type := 53, pos := "history.go:42", after := #[{ on := 7, ground := Ground.data }, { on := 5, ground := Ground.guard }], guard := some (5, true) }) (v := .agg (nums .u8 x.key).toArray) (by rfl) ?_ (fun wS hSw => ?_) ?_
  · kernel_rfl
  · exact load_yields rfl rfl (box_key hSw.1) Try.underlying53 rfl (key17 _ (key_len x))
  try simp only [Act.put, List.setIfInBounds_toArray, List.set_cons_zero, List.set_cons_succ]
  refine Reg.G_on (o := { dst := some 26, op := Op.move (Operand.tmp 0), type := 54, pos := "history.go:42", after := #[{ on := 5, ground := Ground.guard }], guard := some (5, true) }) (v := ?_) (by rfl) ?_ (fun wS hSw => ?_) ?_
  rotate_left
  · kernel_rfl
  · (try dsimp only at hSw); go_simp; (try with_reducible rfl)
  try simp only [Act.put, List.setIfInBounds_toArray, List.set_cons_zero, List.set_cons_succ]
  refine Reg.G_on (o := { dst := some 27, op := Op.nilCheck (Operand.tmp 26), type := 0, pos := "history.go:42", after := #[{ on := 10, ground := Ground.data }, { on := 5, ground := Ground.guard }], guard := some (5, true) }) (v := ?_) (by rfl) ?_ (fun wS hSw => ?_) ?_
  rotate_left
  · kernel_rfl
  · (try dsimp only at hSw); go_simp; (try with_reducible rfl)
  try simp only [Act.put, List.setIfInBounds_toArray, List.set_cons_zero, List.set_cons_succ]
  refine Reg.G_on (o := { dst := some 28, op := Op.fieldAddr 75 (Operand.tmp 27) 0, type := 0, pos := "history.go:42", after := #[{ on := 11, ground := Ground.data }, { on := 5, ground := Ground.guard }], guard := some (5, true) }) (v := ?_) (by rfl) ?_ (fun wS hSw => ?_) ?_
  rotate_left
  · kernel_rfl
  · (try dsimp only at hSw); go_simp; (try with_reducible rfl)
  try simp only [Act.put, List.setIfInBounds_toArray, List.set_cons_zero, List.set_cons_succ]
  refine Reg.G_on (o := { dst := some 29, op := Op.load 3 (Operand.tmp 28), type := 3, pos := "history.go:42", after := #[{ on := 12, ground := Ground.data }, { on := 5, ground := Ground.guard }], guard := some (5, true) }) (v := ?_) (by rfl) ?_ (fun wS hSw => ?_) ?_
  rotate_left
  · kernel_rfl
  · (try dsimp only at hSw); go_simp; (try with_reducible rfl)
  try simp only [Act.put, List.setIfInBounds_toArray, List.set_cons_zero, List.set_cons_succ]
  refine Reg.G_step (o := { dst := some 25, op := Op.call { callee := Callee.value (Operand.func 37), args := #[Operand.tmp 22, Operand.tmp 24], argTypes := #[54, 53] }, type := 3, pos := "history.go:42", after := #[{ on := 6, ground := Ground.data }, { on := 8, ground := Ground.data }, { on := 5, ground := Ground.chain }, { on := 5, ground := Ground.guard }], guard := some (5, true) }) (by rfl) ?_ (fun K hK => ?_)
  · kernel_rfl
  go_simp
  refine (C1).mono ?_
  rintro e w' ⟨rfl, b5⟩
  refine hK.out _ _ ?_ (fun hHeld => ?_)
  · exact ⟨blk_below (w := (w.alloc (.cells (cells x).toArray 60)).drew) N1.out b5, cbel b5 hd0 (blk_lt H1.out)⟩
  clear hK K
  try simp only [Act.put, List.setIfInBounds_toArray, List.set_cons_zero, List.set_cons_succ]
  rename World => w5
  have n5 : w5.heap[w.heap.size]? = some (.cells (cells x).toArray 60 (0, 0)) := blk_below (w := (w.alloc (.cells (cells x).toArray 60)).drew) N1.out b5
  have h5 := blk_below (w := (w.alloc (.cells (cells x).toArray 60)).drew) H1.out b5
  have e0 : w5.cell? ⟨b, 0, none⟩ = some (.int .i64 d) := blk_cell h5 0
  have e1 : w5.cell? ⟨b, 1, none⟩ = some (.int .i64 s) := blk_cell h5 1
  have e2 : w5.cell? ⟨b, 2, none⟩ = some v0 := blk_cell h5 2
  have HB5 : HS w5 F b d s xs := HB1.out.below (bstep (below_drew (Below.refl _ _)) b5)
  have M5 := Lib.hid (M1.out.drew.trans (Mod.of (F := HM F b) b5) (fun _ h => .inl h))
  clear C1 hd0 hd1 hd2 o0 hHeld b5 h5
  refine Reg.G_on (o := { dst := some 30, op := Op.binOp BinOp.geq 3 (Operand.tmp 25) (Operand.tmp 29) 3, type := 4, pos := "history.go:42", after := #[{ on := 9, ground := Ground.data }, { on := 13, ground := Ground.data }, { on := 5, ground := Ground.guard }], guard := some (5, true) }) (v := ?_) (by rfl) ?_ (fun wS hSw => ?_) ?_
  rotate_left
  · kernel_rfl
  · (try dsimp only at hSw); go_simp; (try with_reducible rfl)
  try simp only [Act.put, List.setIfInBounds_toArray, List.set_cons_zero, List.set_cons_succ]
  refine Reg.G_on (o := { dst := some 31, op := Op.pick (Operand.tmp 21) (Operand.tmp 30) (Operand.const (Value.bool false)), type := 4, pos := "history.go:42", after := #[{ on := 5, ground := Ground.data }, { on := 14, ground := Ground.data }], guard := Option.none }) (v := ?_) (by rfl) ?_ (fun wS hSw => ?_) ?_
  rotate_left
  · kernel_rfl
  · (try dsimp only at hSw); go_simp; (try with_reducible rfl)
  try simp only [Act.put, List.setIfInBounds_toArray, List.set_cons_zero, List.set_cons_succ]
  refine Reg.G_on (o := { dst := some 15, op := Op.assign (Operand.tmp 31), type := 4, pos := "history.go:42", after := #[{ on := 15, ground := Ground.data }, { on := 9, ground := Ground.chain }], guard := Option.none }) (v := ?_) (by rfl) ?_ (fun wS hSw => ?_) ?_
  rotate_left
  · kernel_rfl
  · (try dsimp only at hSw); go_simp; (try with_reducible rfl)
  try simp only [Act.put, List.setIfInBounds_toArray, List.set_cons_zero, List.set_cons_succ]
  refine Reg.G_done ?_
  have C := CF.out w5 HB5 n5
  have N5 := Lib.hid n5
  clear n5 HB5 e0 e1 e2
  go_wp2_with fail
  refine C.mono ?_
  rintro e w6 ⟨rfl, H5, m5⟩
  have n5 : w6.heap[w.heap.size]? = some (.cells (cells x).toArray 60 (0, 0)) := (m5.block w.heap.size (blk_lt N5.out) (fun hh => hh.elim (fun e => by have := hblt.out; omega) hgs.out)).trans N5.out
  have M6 := Lib.hid (M5.out.trans m5 (fun _ h => .inl h))
  clear C CF m5 M5 N5 N1 HB1 H1
  go_wp2
  obtain ⟨v5, h5, r5⟩ := H5.at_
  have y5 : w6.cell? ⟨b, 2, none⟩ = some v5 := blk_cell h5 2
  obtain ⟨v7, w7, hrun, r7, g7, s7⟩ := (show Row w6.drew F v5 ys from r5).append H5.old x HLEN2.out 56
  have hown := r5.own
  obtain ⟨A5, c5, rfl, _, _⟩ := r5.slice
  have n7 := blk_grown (w := w6.drew) n5 g7 (fun e => by have h9 := (hown _ e.symm).1; exact hgs.out h9)
  have k7 := blk_grown (w := w6.drew) h5 g7 (fun e => by have h9 := (hown _ e.symm).1; exact H5.off h9)
  have y7 : w7.cell? ⟨b, 2, none⟩ = some (.slice A5 ys.length c5) := blk_cell k7 2
  have z7 := blk_frozen k7 2
  have HSZ : w6.drew.heap.size = w6.heap.size := rfl
  have HX : Hid (HS (w7.setCell ⟨b, 2, none⟩ v7) (fun k => F k ∨ (w.heap.size ≤ k ∧ k < w7.heap.size ∧ k ≠ b)) b d s (ys ++ [x]) ∧ Mod (HM F b) w (w7.setCell ⟨b, 2, none⟩ v7)) := Lib.hid (by
    have hbl := blk_lt h5
    have hFm : ∀ k, (F k ∨ (w6.drew.heap.size ≤ k ∧ k < w7.heap.size)) → (F k ∨ (w.heap.size ≤ k ∧ k < w7.heap.size ∧ k ≠ b)) := fun k hk => hk.imp id (fun hh => ⟨by have := M6.out.size; omega, hh.2, by omega⟩)
    have hoff : ¬ (F b ∨ (w.heap.size ≤ b ∧ b < w7.heap.size ∧ b ≠ b)) := fun hh => hh.elim H5.off (fun hh => hh.2.2 rfl)
    refine ⟨⟨⟨v7, blk_put k7 2 v7 rfl, (r7.mono hFm).set (a := ⟨b, 2, none⟩) hoff v7⟩, hoff, fun k hk => ?_, H5.d0, H5.s0, H5.dm, H5.sm⟩, ?_⟩
    · have : (w7.setCell ⟨b, 2, none⟩ v7).heap.size = w7.heap.size := by simp [World.setCell]
      rw [this]
      rcases hk with hk | hk
      · have := H5.old k hk; omega
      · exact hk.2.1
    · exact ((M6.out.drew).grown g7 (fun k hk => .inl (.inr (hown k hk).1))).set (p := ⟨b, 2, none⟩) (.inl (.inl rfl)) v7)
  obtain ⟨A7, c7, rfl, _, _⟩ := r7.slice
  rw [List.length_append, List.length_singleton] at HX hrun
  clear h5 r5 r7 g7 s7 hown k7 HSZ H5
  refine Reg.wp_plan (S := fun w' => w'.heap[w.heap.size]? = some (.cells (cells x).toArray 60 (0, 0)) ∧ w'.cell? ⟨b, 2, none⟩ = some (.slice A5 ys.length c5)) 10 (.fl 0 (.fl 1 (.fl 2 (.fl 3 (.fl 4 (.fl 5 (.one 6 (.one 7 (.fl 8 (.fl 9 (.one 10 .done))))))))))) (by kernel_rfl) (by kernel_rfl) (by kernel_rfl) (by kernel_rfl) (fun _ _ _ d _ h => by cases d <;> exact h) ?_ (fun hHeld => ?_)
  · exact ⟨n5, y5⟩
  refine Reg.G_on (o := { dst := some 68, op := Op.move (Operand.tmp 0), type := 54, pos := "history.go:49", after := #[], guard := Option.none }) (v := ?_) (by rfl) ?_ (fun wS hSw => ?_) ?_
  rotate_left
  · kernel_rfl
  · (try dsimp only at hSw); go_simp; (try with_reducible rfl)
  try simp only [Act.put, List.setIfInBounds_toArray, List.set_cons_zero, List.set_cons_succ]
  refine Reg.G_on (o := { dst := some 69, op := Op.move (Operand.tmp 0), type := 54, pos := "history.go:49", after := #[], guard := Option.none }) (v := ?_) (by rfl) ?_ (fun wS hSw => ?_) ?_
  rotate_left
  · kernel_rfl
  · (try dsimp only at hSw); go_simp; (try with_reducible rfl)
  try simp only [Act.put, List.setIfInBounds_toArray, List.set_cons_zero, List.set_cons_succ]
  refine Reg.G_on (o := { dst := some 70, op := Op.nilCheck (Operand.tmp 69), type := 0, pos := "history.go:49", after := #[{ on := 1, ground := Ground.data }], guard := Option.none }) (v := ?_) (by rfl) ?_ (fun wS hSw => ?_) ?_
  rotate_left
  · kernel_rfl
  · (try dsimp only at hSw); go_simp; (try with_reducible rfl)
  try simp only [Act.put, List.setIfInBounds_toArray, List.set_cons_zero, List.set_cons_succ]
  refine Reg.G_on (o := { dst := some 71, op := Op.fieldAddr 75 (Operand.tmp 70) 2, type := 0, pos := "history.go:49", after := #[{ on := 2, ground := Ground.data }], guard := Option.none }) (v := ?_) (by rfl) ?_ (fun wS hSw => ?_) ?_
  rotate_left
  · kernel_rfl
  · (try dsimp only at hSw); go_simp; (try with_reducible rfl)
  try simp only [Act.put, List.setIfInBounds_toArray, List.set_cons_zero, List.set_cons_succ]
  refine Reg.G_on (o := { dst := some 72, op := Op.load 56 (Operand.tmp 71), type := 56, pos := "history.go:49", after := #[{ on := 3, ground := Ground.data }], guard := Option.none }) (v := ?_) (by rfl) ?_ (fun wS hSw => ?_) ?_
  rotate_left
  · kernel_rfl
  · (try dsimp only at hSw); go_simp; (try with_reducible rfl)
  try simp only [Act.put, List.setIfInBounds_toArray, List.set_cons_zero, List.set_cons_succ]
  refine Reg.G_on (o := { dst := some 73, op := Op.load 60 (Operand.tmp 3), type := 60, pos := "history.go:49", after := #[], guard := Option.none }) (v := .agg (cells x).toArray) (by rfl) ?_ (fun wS hSw => ?_) ?_
  · kernel_rfl
  · exact load_yields rfl rfl (box_range hSw.1) Try.underlying60 rfl (size23 x)
  try simp only [Act.put, List.setIfInBounds_toArray, List.set_cons_zero, List.set_cons_succ]
  refine Reg.G_step (o := { dst := some 74, op := Op.buildSlice 56 1 #[(0, Operand.tmp 73)], type := 56, pos := "history.go:49", after := #[{ on := 5, ground := Ground.data }], guard := Option.none }) (by rfl) ?_ (fun K hK => ?_)
  · kernel_rfl
  refine build1 (x := x) rfl rfl ?_
  refine hK.out _ _ ?_ (fun hHeld => ?_)
  · exact ⟨blk_alloc n5 _, cnew y5⟩
  clear hK K
  try simp only [Act.put, List.setIfInBounds_toArray, List.set_cons_zero, List.set_cons_succ]
  refine Reg.G_step (o := { dst := some 75, op := Op.call { callee := Callee.builtin Builtin.append, args := #[Operand.tmp 72, Operand.tmp 74], argTypes := #[56, 56] }, type := 56, pos := "history.go:49", after := #[{ on := 4, ground := Ground.data }, { on := 6, ground := Ground.data }], guard := Option.none }) (by rfl) ?_ (fun K hK => ?_)
  · kernel_rfl
  refine op_append (.tmp 72) (.tmp 74) 56 rfl rfl rfl hrun ?_
  refine hK.out _ _ ?_ (fun hHeld => ?_)
  · exact ⟨n7, y7⟩
  clear hK K
  try simp only [Act.put, List.setIfInBounds_toArray, List.set_cons_zero, List.set_cons_succ]
  refine Reg.G_on (o := { dst := some 76, op := Op.nilCheck (Operand.tmp 68), type := 0, pos := "history.go:49", after := #[{ on := 0, ground := Ground.data }, { on := 0, ground := Ground.phase }, { on := 1, ground := Ground.phase }, { on := 2, ground := Ground.phase }, { on := 3, ground := Ground.phase }, { on := 4, ground := Ground.phase }, { on := 5, ground := Ground.phase }, { on := 6, ground := Ground.phase }, { on := 7, ground := Ground.phase }], guard := Option.none }) (v := ?_) (by rfl) ?_ (fun wS hSw => ?_) ?_
  rotate_left
  · kernel_rfl
  · (try dsimp only at hSw); go_simp; (try with_reducible rfl)
  try simp only [Act.put, List.setIfInBounds_toArray, List.set_cons_zero, List.set_cons_succ]
  refine Reg.G_on (o := { dst := some 77, op := Op.fieldAddr 75 (Operand.tmp 76) 2, type := 0, pos := "history.go:49", after := #[{ on := 8, ground := Ground.data }, { on := 0, ground := Ground.phase }, { on := 1, ground := Ground.phase }, { on := 2, ground := Ground.phase }, { on := 3, ground := Ground.phase }, { on := 4, ground := Ground.phase }, { on := 5, ground := Ground.phase }, { on := 6, ground := Ground.phase }, { on := 7, ground := Ground.phase }], guard := Option.none }) (v := ?_) (by rfl) ?_ (fun wS hSw => ?_) ?_
  rotate_left
  · kernel_rfl
  · (try dsimp only at hSw); go_simp; (try with_reducible rfl)
  try simp only [Act.put, List.setIfInBounds_toArray, List.set_cons_zero, List.set_cons_succ]
  clear hHeld
  refine Reg.G_last (o := { dst := Option.none, op := Op.store 56 (Operand.tmp 77) (Operand.tmp 75), type := 0, pos := "history.go:49", after := #[{ on := 9, ground := Ground.data }, { on := 7, ground := Ground.data }, { on := 7, ground := Ground.chain }, { on := 0, ground := Ground.phase }, { on := 1, ground := Ground.phase }, { on := 2, ground := Ground.phase }, { on := 3, ground := Ground.phase }, { on := 4, ground := Ground.phase }, { on := 5, ground := Ground.phase }, { on := 6, ground := Ground.phase }, { on := 7, ground := Ground.phase }], guard := Option.none }) (by rfl) (by rfl) ?_ (fun K hK => ?_)
  · kernel_rfl
  go_simp
  refine hK.out _ _ ?_
  clear hK K
  try simp only [Act.put, List.setIfInBounds_toArray, List.set_cons_zero, List.set_cons_succ]
  go_wp2
  go_end0
  exact ⟨rfl, _, HX.out.1, fun k hk => Or.imp id (fun hh => hh.1) hk, HX.out.2⟩
set_option maxHeartbeats 1000000 in
set_option maxRecDepth 20000 in
theorem put_b {w : World} {F : Nat → Prop} {b : Nat} {d s : Int} {xs : List Smp} (h : HS w F b d s xs) (x : Smp) (ho : x.op = 1) (hd : 0 < d) (hs : ¬ d ≤ (cnt x.key xs : Int)) (hlen : (xs.length + 1) * 80 ≤ 140737488355328) :
    Calls Try.prog 41 #[.pointer (some ⟨b, 0, none⟩), .agg (cells x).toArray] w fun e w' => e = .returned (.tuple #[]) ∧ ∃ F', HS w' F' b d s (xs ++ [x]) ∧ Grow F F' w ∧ Mod (HM F b) w w' := by
  obtain ⟨v0, h1, h2⟩ := h.at_
  have hmf : ∀ (fn : Fn) (first cap : Array Value) (w : World), (Instr.makeFunc fn first cap).run Try.prog w = .ok (.func fn first cap) w := fun _ _ _ _ => rfl
  have b1 : Below w.heap.size w (w.alloc (.cells (cells x).toArray 60)) := (Below.refl _ _).alloc (Nat.le_refl _) _
  have n1 := heap_alloc_new w (.cells (cells x).toArray 60)
  have o0 : (w.alloc (.cells (cells x).toArray 60)).cell? ⟨w.heap.size, 0, none⟩ = some (.int .i64 1) := by rw [← ho]; exact blk_cell n1 0
  have HB := h.below b1
  have p1 := its_pr w.heap.size x _ n1
  have hd0 : (w.alloc (.cells (cells x).toArray 60)).cell? ⟨b, 0, none⟩ = some (.int .i64 d) := blk_cell (blk_alloc h1 _) 0
  have hd1 : (w.alloc (.cells (cells x).toArray 60)).cell? ⟨b, 1, none⟩ = some (.int .i64 s) := blk_cell (blk_alloc h1 _) 1
  have hd2 : (w.alloc (.cells (cells x).toArray 60)).cell? ⟨b, 2, none⟩ = some v0 := blk_cell (blk_alloc h1 _) 2
  have HLEN := Lib.hid hlen
  have hgs : Hid (¬ F w.heap.size) := Lib.hid (fun hf => by have := h.old _ hf; omega)
  have M1 := Lib.hid (Mod.of (F := HM F b) b1)
  have hw0 : (0 : Int) < d := hd
  have C1 := of (HB.below (w' := (w.alloc (.cells (cells x).toArray 60)).drew) (below_drew (Below.refl _ _))) (by omega) x.key (smp_key x)
  have N1 := Lib.hid n1
  have HB1 := Lib.hid HB
  have H1 := Lib.hid (blk_alloc h1 (.cells (cells x).toArray 60))
  have hblt := Lib.hid h.lt
  have hold := Lib.hid h.old
  generalize cnt x.key xs = c at *
  clear h h1 h2 hlen b1 p1 ho HB hd
  go_enter Try.func41, Try.ntmps41
  go_wp2_with fail
  refine Reg.wp_plan (S := fun w' => w'.heap[w.heap.size]? = some (.cells (cells x).toArray 60 (0, 0)) ∧ w'.cell? ⟨b, 0, none⟩ = some (.int .i64 d)) 17 (.fl 0 (.fl 1 (.fl 2 (.fl 3 (.fl 4 (.fl 5 (.fl 6 (.fl 7 (.fl 8 (.fl 10 (.fl 11 (.fl 12 (.fl 13 (.one 9 (.fl 14 (.fl 15 (.fl 16 .done))))))))))))))))) (by kernel_rfl) (by kernel_rfl) (by kernel_rfl) (by kernel_rfl) (fun _ _ _ d _ h => by cases d <;> exact h) ?_ (fun hHeld => ?_)
  · exact ⟨N1.out, by simpa using hd0⟩
  refine Reg.G_on (o := { dst := some 16, op := Op.move (Operand.tmp 0), type := 54, pos := "history.go:42", after := #[], guard := Option.none }) (v := ?_) (by rfl) ?_ (fun wS hSw => ?_) ?_
  rotate_left
  · kernel_rfl
  · (try dsimp only at hSw); go_simp; (try with_reducible rfl)
  try simp only [Act.put, List.setIfInBounds_toArray, List.set_cons_zero, List.set_cons_succ]
  refine Reg.G_on (o := { dst := some 17, op := Op.nilCheck (Operand.tmp 16), type := 0, pos := "history.go:42", after := #[{ on := 0, ground := Ground.data }], guard := Option.none }) (v := ?_) (by rfl) ?_ (fun wS hSw => ?_) ?_
  rotate_left
  · kernel_rfl
  · (try dsimp only at hSw); go_simp; (try with_reducible rfl)
  try simp only [Act.put, List.setIfInBounds_toArray, List.set_cons_zero, List.set_cons_succ]
  refine Reg.G_on (o := { dst := some 18, op := Op.fieldAddr 75 (Operand.tmp 17) 0, type := 0, pos := "history.go:42", after := #[{ on := 1, ground := Ground.data }], guard := Option.none }) (v := ?_) (by rfl) ?_ (fun wS hSw => ?_) ?_
  rotate_left
  · kernel_rfl
  · (try dsimp only at hSw); go_simp; (try with_reducible rfl)
  try simp only [Act.put, List.setIfInBounds_toArray, List.set_cons_zero, List.set_cons_succ]
  refine Reg.G_on (o := { dst := some 19, op := Op.load 3 (Operand.tmp 18), type := 3, pos := "history.go:42", after := #[{ on := 2, ground := Ground.data }], guard := Option.none }) (v := ?_) (by rfl) ?_ (fun wS hSw => ?_) ?_
  rotate_left
  · kernel_rfl
  · (try dsimp only at hSw); go_simp; (try with_reducible rfl)
  try simp only [Act.put, List.setIfInBounds_toArray, List.set_cons_zero, List.set_cons_succ]
  refine Reg.G_on (o := { dst := some 20, op := Op.binOp BinOp.gtr 3 (Operand.tmp 19) (Operand.const (Value.int IntKind.i64 0)) 3, type := 4, pos := "history.go:42", after := #[{ on := 3, ground := Ground.data }], guard := Option.none }) (v := ?_) (by rfl) ?_ (fun wS hSw => ?_) ?_
  rotate_left
  · kernel_rfl
  · (try dsimp only at hSw); go_simp; (try with_reducible rfl)
  try simp only [Act.put, List.setIfInBounds_toArray, List.set_cons_zero, List.set_cons_succ]
  refine Reg.G_on (o := { dst := some 21, op := Op.move (Operand.tmp 20), type := 4, pos := "history.go:42", after := #[{ on := 4, ground := Ground.data }], guard := Option.none }) (v := ?_) (by rfl) ?_ (fun wS hSw => ?_) ?_
  rotate_left
  · kernel_rfl
  · (try dsimp only at hSw); go_simp; (try with_reducible rfl)
  try simp only [Act.put, List.setIfInBounds_toArray, List.set_cons_zero, List.set_cons_succ]
  refine Reg.G_on (o := { dst := some 22, op := Op.move (Operand.tmp 0), type := 54, pos := "history.go:42", after := #[{ on := 5, ground := Ground.guard }], guard := some (5, true) }) (v := ?_) (by rfl) ?_ (fun wS hSw => ?_) ?_
  rotate_left
  · kernel_rfl
  · (try dsimp only at hSw); go_simp; (try with_reducible rfl)
  try simp only [Act.put, List.setIfInBounds_toArray, List.set_cons_zero, List.set_cons_succ]
  refine Reg.G_on (o := { dst := some 23, op := Op.fieldAddr 60 (Operand.tmp 3) 5, type := 0, pos := "history.go:42", after := #[{ on := 5, ground := Ground.guard }], guard := some (5, true) }) (v := ?_) (by rfl) ?_ (fun wS hSw => ?_) ?_
  rotate_left
  · kernel_rfl
  · (try dsimp only at hSw); go_simp; (try with_reducible rfl)
  try simp only [Act.put, List.setIfInBounds_toArray, List.set_cons_zero, List.set_cons_succ]
  refine Reg.G_on (o := { dst := some 24, op := Op.load 53 (Operand.tmp 23), type := 53, pos := "history.go:42", after := #[{ on := 7, ground := Ground.data }, { on := 5, ground := Ground.guard }], guard := some (5, true) }) (v := .agg (nums .u8 x.key).toArray) (by rfl) ?_ (fun wS hSw => ?_) ?_
  · kernel_rfl
  · exact load_yields rfl rfl (box_key hSw.1) Try.underlying53 rfl (key17 _ (key_len x))
  try simp only [Act.put, List.setIfInBounds_toArray, List.set_cons_zero, List.set_cons_succ]
  refine Reg.G_on (o := { dst := some 26, op := Op.move (Operand.tmp 0), type := 54, pos := "history.go:42", after := #[{ on := 5, ground := Ground.guard }], guard := some (5, true) }) (v := ?_) (by rfl) ?_ (fun wS hSw => ?_) ?_
  rotate_left
  · kernel_rfl
  · (try dsimp only at hSw); go_simp; (try with_reducible rfl)
  try simp only [Act.put, List.setIfInBounds_toArray, List.set_cons_zero, List.set_cons_succ]
  refine Reg.G_on (o := { dst := some 27, op := Op.nilCheck (Operand.tmp 26), type := 0, pos := "history.go:42", after := #[{ on := 10, ground := Ground.data }, { on := 5, ground := Ground.guard }], guard := some (5, true) }) (v := ?_) (by rfl) ?_ (fun wS hSw => ?_) ?_
  rotate_left
  · kernel_rfl
  · (try dsimp only at hSw); go_simp; (try with_reducible rfl)
  try simp only [Act.put, List.setIfInBounds_toArray, List.set_cons_zero, List.set_cons_succ]
  refine Reg.G_on (o := { dst := some 28, op := Op.fieldAddr 75 (Operand.tmp 27) 0, type := 0, pos := "history.go:42", after := #[{ on := 11, ground := Ground.data }, { on := 5, ground := Ground.guard }], guard := some (5, true) }) (v := ?_) (by rfl) ?_ (fun wS hSw => ?_) ?_
  rotate_left
  · kernel_rfl
  · (try dsimp only at hSw); go_simp; (try with_reducible rfl)
  try simp only [Act.put, List.setIfInBounds_toArray, List.set_cons_zero, List.set_cons_succ]
  refine Reg.G_on (o := { dst := some 29, op := Op.load 3 (Operand.tmp 28), type := 3, pos := "history.go:42", after := #[{ on := 12, ground := Ground.data }, { on := 5, ground := Ground.guard }], guard := some (5, true) }) (v := ?_) (by rfl) ?_ (fun wS hSw => ?_) ?_
  rotate_left
  · kernel_rfl
  · (try dsimp only at hSw); go_simp; (try with_reducible rfl)
  try simp only [Act.put, List.setIfInBounds_toArray, List.set_cons_zero, List.set_cons_succ]
  refine Reg.G_step (o := { dst := some 25, op := Op.call { callee := Callee.value (Operand.func 37), args := #[Operand.tmp 22, Operand.tmp 24], argTypes := #[54, 53] }, type := 3, pos := "history.go:42", after := #[{ on := 6, ground := Ground.data }, { on := 8, ground := Ground.data }, { on := 5, ground := Ground.chain }, { on := 5, ground := Ground.guard }], guard := some (5, true) }) (by rfl) ?_ (fun K hK => ?_)
  · kernel_rfl
  go_simp
  refine (C1).mono ?_
  rintro e w' ⟨rfl, b5⟩
  refine hK.out _ _ ?_ (fun hHeld => ?_)
  · exact ⟨blk_below (w := (w.alloc (.cells (cells x).toArray 60)).drew) N1.out b5, cbel b5 hd0 (blk_lt H1.out)⟩
  clear hK K
  try simp only [Act.put, List.setIfInBounds_toArray, List.set_cons_zero, List.set_cons_succ]
  rename World => w5
  have n5 : w5.heap[w.heap.size]? = some (.cells (cells x).toArray 60 (0, 0)) := blk_below (w := (w.alloc (.cells (cells x).toArray 60)).drew) N1.out b5
  have h5 := blk_below (w := (w.alloc (.cells (cells x).toArray 60)).drew) H1.out b5
  have e0 : w5.cell? ⟨b, 0, none⟩ = some (.int .i64 d) := blk_cell h5 0
  have e1 : w5.cell? ⟨b, 1, none⟩ = some (.int .i64 s) := blk_cell h5 1
  have e2 : w5.cell? ⟨b, 2, none⟩ = some v0 := blk_cell h5 2
  have HB5 : HS w5 F b d s xs := HB1.out.below (bstep (below_drew (Below.refl _ _)) b5)
  have M5 := Lib.hid (M1.out.drew.trans (Mod.of (F := HM F b) b5) (fun _ h => .inl h))
  clear C1 hd0 hd1 hd2 o0 hHeld b5 h5
  refine Reg.G_on (o := { dst := some 30, op := Op.binOp BinOp.geq 3 (Operand.tmp 25) (Operand.tmp 29) 3, type := 4, pos := "history.go:42", after := #[{ on := 9, ground := Ground.data }, { on := 13, ground := Ground.data }, { on := 5, ground := Ground.guard }], guard := some (5, true) }) (v := ?_) (by rfl) ?_ (fun wS hSw => ?_) ?_
  rotate_left
  · kernel_rfl
  · (try dsimp only at hSw); go_simp; (try with_reducible rfl)
  try simp only [Act.put, List.setIfInBounds_toArray, List.set_cons_zero, List.set_cons_succ]
  refine Reg.G_on (o := { dst := some 31, op := Op.pick (Operand.tmp 21) (Operand.tmp 30) (Operand.const (Value.bool false)), type := 4, pos := "history.go:42", after := #[{ on := 5, ground := Ground.data }, { on := 14, ground := Ground.data }], guard := Option.none }) (v := ?_) (by rfl) ?_ (fun wS hSw => ?_) ?_
  rotate_left
  · kernel_rfl
  · (try dsimp only at hSw); go_simp; (try with_reducible rfl)
  try simp only [Act.put, List.setIfInBounds_toArray, List.set_cons_zero, List.set_cons_succ]
  refine Reg.G_on (o := { dst := some 15, op := Op.assign (Operand.tmp 31), type := 4, pos := "history.go:42", after := #[{ on := 15, ground := Ground.data }, { on := 9, ground := Ground.chain }], guard := Option.none }) (v := ?_) (by rfl) ?_ (fun wS hSw => ?_) ?_
  rotate_left
  · kernel_rfl
  · (try dsimp only at hSw); go_simp; (try with_reducible rfl)
  try simp only [Act.put, List.setIfInBounds_toArray, List.set_cons_zero, List.set_cons_succ]
  refine Reg.G_done ?_
  have hdz : (d == 0) = false := beq_eq_false_iff_ne.2 (by omega)
  obtain ⟨A0, c0, rfl, _, _⟩ := (show Row w5 F v0 xs from by
    obtain ⟨v, k1, k2⟩ := HB5.at_
    have : w5.cell? ⟨b, 2, none⟩ = some v := blk_cell k1 2
    rw [e2] at this
    injection this with this
    rw [this]
    exact k2).slice
  go_wp2
  refine Reg.wp_plan (S := fun w' => w'.cell? ⟨b, 0, none⟩ = some (.int .i64 d)) 18 (.fl 0 (.fl 1 (.fl 2 (.fl 3 (.fl 4 (.fl 5 (.fl 6 (.fl 7 (.fl 8 (.fl 9 (.fl 10 (.fl 11 (.fl 12 (.fl 13 (.fl 14 (.fl 15 (.fl 16 (.fl 17 .done)))))))))))))))))) (by kernel_rfl) (by kernel_rfl) (by kernel_rfl) (by kernel_rfl) (fun _ _ _ d _ h => by cases d <;> exact h) ?_ (fun hHeld => ?_)
  · simpa using e0
  refine Reg.G_on (o := { dst := some 49, op := Op.move (Operand.tmp 0), type := 54, pos := "history.go:46", after := #[], guard := Option.none }) (v := ?_) (by rfl) ?_ (fun wS hSw => ?_) ?_
  rotate_left
  · kernel_rfl
  · (try dsimp only at hSw); go_simp; (try with_reducible rfl)
  try simp only [Act.put, List.setIfInBounds_toArray, List.set_cons_zero, List.set_cons_succ]
  refine Reg.G_on (o := { dst := some 50, op := Op.nilCheck (Operand.tmp 49), type := 0, pos := "history.go:46", after := #[{ on := 0, ground := Ground.data }], guard := Option.none }) (v := ?_) (by rfl) ?_ (fun wS hSw => ?_) ?_
  rotate_left
  · kernel_rfl
  · (try dsimp only at hSw); go_simp; (try with_reducible rfl)
  try simp only [Act.put, List.setIfInBounds_toArray, List.set_cons_zero, List.set_cons_succ]
  refine Reg.G_on (o := { dst := some 51, op := Op.fieldAddr 75 (Operand.tmp 50) 0, type := 0, pos := "history.go:46", after := #[{ on := 1, ground := Ground.data }], guard := Option.none }) (v := ?_) (by rfl) ?_ (fun wS hSw => ?_) ?_
  rotate_left
  · kernel_rfl
  · (try dsimp only at hSw); go_simp; (try with_reducible rfl)
  try simp only [Act.put, List.setIfInBounds_toArray, List.set_cons_zero, List.set_cons_succ]
  refine Reg.G_on (o := { dst := some 52, op := Op.load 3 (Operand.tmp 51), type := 3, pos := "history.go:46", after := #[{ on := 2, ground := Ground.data }], guard := Option.none }) (v := ?_) (by rfl) ?_ (fun wS hSw => ?_) ?_
  rotate_left
  · kernel_rfl
  · (try dsimp only at hSw); go_simp; (try with_reducible rfl)
  try simp only [Act.put, List.setIfInBounds_toArray, List.set_cons_zero, List.set_cons_succ]
  refine Reg.G_on (o := { dst := some 53, op := Op.binOp BinOp.eql 3 (Operand.tmp 52) (Operand.const (Value.int IntKind.i64 0)) 3, type := 4, pos := "history.go:46", after := #[{ on := 3, ground := Ground.data }], guard := Option.none }) (v := ?_) (by rfl) ?_ (fun wS hSw => ?_) ?_
  rotate_left
  · kernel_rfl
  · (try dsimp only at hSw); go_simp; (try with_reducible rfl)
  try simp only [Act.put, List.setIfInBounds_toArray, List.set_cons_zero, List.set_cons_succ]
  refine Reg.G_on (o := { dst := some 54, op := Op.move (Operand.tmp 53), type := 4, pos := "history.go:46", after := #[{ on := 4, ground := Ground.data }], guard := Option.none }) (v := ?_) (by rfl) ?_ (fun wS hSw => ?_) ?_
  rotate_left
  · kernel_rfl
  · (try dsimp only at hSw); go_simp; (try with_reducible rfl)
  try simp only [Act.put, List.setIfInBounds_toArray, List.set_cons_zero, List.set_cons_succ]
  refine Reg.G_off (o := { dst := some 55, op := Op.move (Operand.tmp 0), type := 54, pos := "history.go:46", after := #[{ on := 5, ground := Ground.guard }], guard := some (5, true) }) (by rfl) ?_ ?_
  · kernel_rfl
  try simp only [Act.put, List.setIfInBounds_toArray, List.set_cons_zero, List.set_cons_succ]
  refine Reg.G_off (o := { dst := some 56, op := Op.nilCheck (Operand.tmp 55), type := 0, pos := "history.go:46", after := #[{ on := 6, ground := Ground.data }, { on := 5, ground := Ground.guard }], guard := some (5, true) }) (by rfl) ?_ ?_
  · kernel_rfl
  try simp only [Act.put, List.setIfInBounds_toArray, List.set_cons_zero, List.set_cons_succ]
  refine Reg.G_off (o := { dst := some 57, op := Op.fieldAddr 75 (Operand.tmp 56) 2, type := 0, pos := "history.go:46", after := #[{ on := 7, ground := Ground.data }, { on := 5, ground := Ground.guard }], guard := some (5, true) }) (by rfl) ?_ ?_
  · kernel_rfl
  try simp only [Act.put, List.setIfInBounds_toArray, List.set_cons_zero, List.set_cons_succ]
  refine Reg.G_off (o := { dst := some 58, op := Op.load 56 (Operand.tmp 57), type := 56, pos := "history.go:46", after := #[{ on := 8, ground := Ground.data }, { on := 5, ground := Ground.guard }], guard := some (5, true) }) (by rfl) ?_ ?_
  · kernel_rfl
  try simp only [Act.put, List.setIfInBounds_toArray, List.set_cons_zero, List.set_cons_succ]
  refine Reg.G_off (o := { dst := some 59, op := Op.call { callee := Callee.builtin Builtin.len, args := #[Operand.tmp 58], argTypes := #[56] }, type := 3, pos := "history.go:46", after := #[{ on := 9, ground := Ground.data }, { on := 5, ground := Ground.guard }], guard := some (5, true) }) (by rfl) ?_ ?_
  · kernel_rfl
  try simp only [Act.put, List.setIfInBounds_toArray, List.set_cons_zero, List.set_cons_succ]
  refine Reg.G_off (o := { dst := some 60, op := Op.move (Operand.tmp 0), type := 54, pos := "history.go:46", after := #[{ on := 5, ground := Ground.guard }], guard := some (5, true) }) (by rfl) ?_ ?_
  · kernel_rfl
  try simp only [Act.put, List.setIfInBounds_toArray, List.set_cons_zero, List.set_cons_succ]
  refine Reg.G_off (o := { dst := some 61, op := Op.nilCheck (Operand.tmp 60), type := 0, pos := "history.go:46", after := #[{ on := 11, ground := Ground.data }, { on := 5, ground := Ground.guard }], guard := some (5, true) }) (by rfl) ?_ ?_
  · kernel_rfl
  try simp only [Act.put, List.setIfInBounds_toArray, List.set_cons_zero, List.set_cons_succ]
  refine Reg.G_off (o := { dst := some 62, op := Op.fieldAddr 75 (Operand.tmp 61) 1, type := 0, pos := "history.go:46", after := #[{ on := 12, ground := Ground.data }, { on := 5, ground := Ground.guard }], guard := some (5, true) }) (by rfl) ?_ ?_
  · kernel_rfl
  try simp only [Act.put, List.setIfInBounds_toArray, List.set_cons_zero, List.set_cons_succ]
  refine Reg.G_off (o := { dst := some 63, op := Op.load 3 (Operand.tmp 62), type := 3, pos := "history.go:46", after := #[{ on := 13, ground := Ground.data }, { on := 5, ground := Ground.guard }], guard := some (5, true) }) (by rfl) ?_ ?_
  · kernel_rfl
  try simp only [Act.put, List.setIfInBounds_toArray, List.set_cons_zero, List.set_cons_succ]
  refine Reg.G_off (o := { dst := some 64, op := Op.binOp BinOp.geq 3 (Operand.tmp 59) (Operand.tmp 63) 3, type := 4, pos := "history.go:46", after := #[{ on := 10, ground := Ground.data }, { on := 14, ground := Ground.data }, { on := 5, ground := Ground.guard }], guard := some (5, true) }) (by rfl) ?_ ?_
  · kernel_rfl
  try simp only [Act.put, List.setIfInBounds_toArray, List.set_cons_zero, List.set_cons_succ]
  refine Reg.G_on (o := { dst := some 65, op := Op.pick (Operand.tmp 54) (Operand.tmp 64) (Operand.const (Value.bool false)), type := 4, pos := "history.go:46", after := #[{ on := 5, ground := Ground.data }, { on := 15, ground := Ground.data }], guard := Option.none }) (v := ?_) (by rfl) ?_ (fun wS hSw => ?_) ?_
  rotate_left
  · kernel_rfl
  · (try dsimp only at hSw); go_simp; (try with_reducible rfl)
  try simp only [Act.put, List.setIfInBounds_toArray, List.set_cons_zero, List.set_cons_succ]
  refine Reg.G_on (o := { dst := some 48, op := Op.assign (Operand.tmp 65), type := 4, pos := "history.go:46", after := #[{ on := 16, ground := Ground.data }, { on := 5, ground := Ground.chain }], guard := Option.none }) (v := ?_) (by rfl) ?_ (fun wS hSw => ?_) ?_
  rotate_left
  · kernel_rfl
  · (try dsimp only at hSw); go_simp; (try with_reducible rfl)
  try simp only [Act.put, List.setIfInBounds_toArray, List.set_cons_zero, List.set_cons_succ]
  refine Reg.G_done ?_
  clear hHeld
  have H5 : HS w5.drew F b d s xs := HB5.below (below_drew (Below.refl _ _))
  have M6 := Lib.hid M5.out.drew
  have n6 : w5.drew.heap[w.heap.size]? = some (.cells (cells x).toArray 60 (0, 0)) := n5
  clear n5 M5 HB5 N1 HB1 H1
  have n5 := n6
  clear n6
  go_wp2
  obtain ⟨v5, h5, r5⟩ := H5.at_
  have y5 : w5.drew.cell? ⟨b, 2, none⟩ = some v5 := blk_cell h5 2
  obtain ⟨v7, w7, hrun, r7, g7, s7⟩ := (show Row w5.drew.drew F v5 xs from r5).append H5.old x HLEN.out 56
  have hown := r5.own
  obtain ⟨A5, c5, rfl, _, _⟩ := r5.slice
  have n7 := blk_grown (w := w5.drew.drew) n5 g7 (fun e => by have h9 := (hown _ e.symm).1; exact hgs.out h9)
  have k7 := blk_grown (w := w5.drew.drew) h5 g7 (fun e => by have h9 := (hown _ e.symm).1; exact H5.off h9)
  have y7 : w7.cell? ⟨b, 2, none⟩ = some (.slice A5 xs.length c5) := blk_cell k7 2
  have z7 := blk_frozen k7 2
  have HSZ : w5.drew.drew.heap.size = w5.drew.heap.size := rfl
  have HX : Hid (HS (w7.setCell ⟨b, 2, none⟩ v7) (fun k => F k ∨ (w.heap.size ≤ k ∧ k < w7.heap.size ∧ k ≠ b)) b d s (xs ++ [x]) ∧ Mod (HM F b) w (w7.setCell ⟨b, 2, none⟩ v7)) := Lib.hid (by
    have hbl := blk_lt h5
    have hFm : ∀ k, (F k ∨ (w5.drew.drew.heap.size ≤ k ∧ k < w7.heap.size)) → (F k ∨ (w.heap.size ≤ k ∧ k < w7.heap.size ∧ k ≠ b)) := fun k hk => hk.imp id (fun hh => ⟨by have := M6.out.size; omega, hh.2, by omega⟩)
    have hoff : ¬ (F b ∨ (w.heap.size ≤ b ∧ b < w7.heap.size ∧ b ≠ b)) := fun hh => hh.elim H5.off (fun hh => hh.2.2 rfl)
    refine ⟨⟨⟨v7, blk_put k7 2 v7 rfl, (r7.mono hFm).set (a := ⟨b, 2, none⟩) hoff v7⟩, hoff, fun k hk => ?_, H5.d0, H5.s0, H5.dm, H5.sm⟩, ?_⟩
    · have : (w7.setCell ⟨b, 2, none⟩ v7).heap.size = w7.heap.size := by simp [World.setCell]
      rw [this]
      rcases hk with hk | hk
      · have := H5.old k hk; omega
      · exact hk.2.1
    · exact ((M6.out.drew).grown g7 (fun k hk => .inl (.inr (hown k hk).1))).set (p := ⟨b, 2, none⟩) (.inl (.inl rfl)) v7)
  obtain ⟨A7, c7, rfl, _, _⟩ := r7.slice
  rw [List.length_append, List.length_singleton] at HX hrun
  clear h5 r5 r7 g7 s7 hown k7 HSZ H5
  refine Reg.wp_plan (S := fun w' => w'.heap[w.heap.size]? = some (.cells (cells x).toArray 60 (0, 0)) ∧ w'.cell? ⟨b, 2, none⟩ = some (.slice A5 xs.length c5)) 10 (.fl 0 (.fl 1 (.fl 2 (.fl 3 (.fl 4 (.fl 5 (.one 6 (.one 7 (.fl 8 (.fl 9 (.one 10 .done))))))))))) (by kernel_rfl) (by kernel_rfl) (by kernel_rfl) (by kernel_rfl) (fun _ _ _ d _ h => by cases d <;> exact h) ?_ (fun hHeld => ?_)
  · exact ⟨n5, y5⟩
  refine Reg.G_on (o := { dst := some 68, op := Op.move (Operand.tmp 0), type := 54, pos := "history.go:49", after := #[], guard := Option.none }) (v := ?_) (by rfl) ?_ (fun wS hSw => ?_) ?_
  rotate_left
  · kernel_rfl
  · (try dsimp only at hSw); go_simp; (try with_reducible rfl)
  try simp only [Act.put, List.setIfInBounds_toArray, List.set_cons_zero, List.set_cons_succ]
  refine Reg.G_on (o := { dst := some 69, op := Op.move (Operand.tmp 0), type := 54, pos := "history.go:49", after := #[], guard := Option.none }) (v := ?_) (by rfl) ?_ (fun wS hSw => ?_) ?_
  rotate_left
  · kernel_rfl
  · (try dsimp only at hSw); go_simp; (try with_reducible rfl)
  try simp only [Act.put, List.setIfInBounds_toArray, List.set_cons_zero, List.set_cons_succ]
  refine Reg.G_on (o := { dst := some 70, op := Op.nilCheck (Operand.tmp 69), type := 0, pos := "history.go:49", after := #[{ on := 1, ground := Ground.data }], guard := Option.none }) (v := ?_) (by rfl) ?_ (fun wS hSw => ?_) ?_
  rotate_left
  · kernel_rfl
  · (try dsimp only at hSw); go_simp; (try with_reducible rfl)
  try simp only [Act.put, List.setIfInBounds_toArray, List.set_cons_zero, List.set_cons_succ]
  refine Reg.G_on (o := { dst := some 71, op := Op.fieldAddr 75 (Operand.tmp 70) 2, type := 0, pos := "history.go:49", after := #[{ on := 2, ground := Ground.data }], guard := Option.none }) (v := ?_) (by rfl) ?_ (fun wS hSw => ?_) ?_
  rotate_left
  · kernel_rfl
  · (try dsimp only at hSw); go_simp; (try with_reducible rfl)
  try simp only [Act.put, List.setIfInBounds_toArray, List.set_cons_zero, List.set_cons_succ]
  refine Reg.G_on (o := { dst := some 72, op := Op.load 56 (Operand.tmp 71), type := 56, pos := "history.go:49", after := #[{ on := 3, ground := Ground.data }], guard := Option.none }) (v := ?_) (by rfl) ?_ (fun wS hSw => ?_) ?_
  rotate_left
  · kernel_rfl
  · (try dsimp only at hSw); go_simp; (try with_reducible rfl)
  try simp only [Act.put, List.setIfInBounds_toArray, List.set_cons_zero, List.set_cons_succ]
  refine Reg.G_on (o := { dst := some 73, op := Op.load 60 (Operand.tmp 3), type := 60, pos := "history.go:49", after := #[], guard := Option.none }) (v := .agg (cells x).toArray) (by rfl) ?_ (fun wS hSw => ?_) ?_
  · kernel_rfl
  · exact load_yields rfl rfl (box_range hSw.1) Try.underlying60 rfl (size23 x)
  try simp only [Act.put, List.setIfInBounds_toArray, List.set_cons_zero, List.set_cons_succ]
  refine Reg.G_step (o := { dst := some 74, op := Op.buildSlice 56 1 #[(0, Operand.tmp 73)], type := 56, pos := "history.go:49", after := #[{ on := 5, ground := Ground.data }], guard := Option.none }) (by rfl) ?_ (fun K hK => ?_)
  · kernel_rfl
  refine build1 (x := x) rfl rfl ?_
  refine hK.out _ _ ?_ (fun hHeld => ?_)
  · exact ⟨blk_alloc n5 _, cnew y5⟩
  clear hK K
  try simp only [Act.put, List.setIfInBounds_toArray, List.set_cons_zero, List.set_cons_succ]
  refine Reg.G_step (o := { dst := some 75, op := Op.call { callee := Callee.builtin Builtin.append, args := #[Operand.tmp 72, Operand.tmp 74], argTypes := #[56, 56] }, type := 56, pos := "history.go:49", after := #[{ on := 4, ground := Ground.data }, { on := 6, ground := Ground.data }], guard := Option.none }) (by rfl) ?_ (fun K hK => ?_)
  · kernel_rfl
  refine op_append (.tmp 72) (.tmp 74) 56 rfl rfl rfl hrun ?_
  refine hK.out _ _ ?_ (fun hHeld => ?_)
  · exact ⟨n7, y7⟩
  clear hK K
  try simp only [Act.put, List.setIfInBounds_toArray, List.set_cons_zero, List.set_cons_succ]
  refine Reg.G_on (o := { dst := some 76, op := Op.nilCheck (Operand.tmp 68), type := 0, pos := "history.go:49", after := #[{ on := 0, ground := Ground.data }, { on := 0, ground := Ground.phase }, { on := 1, ground := Ground.phase }, { on := 2, ground := Ground.phase }, { on := 3, ground := Ground.phase }, { on := 4, ground := Ground.phase }, { on := 5, ground := Ground.phase }, { on := 6, ground := Ground.phase }, { on := 7, ground := Ground.phase }], guard := Option.none }) (v := ?_) (by rfl) ?_ (fun wS hSw => ?_) ?_
  rotate_left
  · kernel_rfl
  · (try dsimp only at hSw); go_simp; (try with_reducible rfl)
  try simp only [Act.put, List.setIfInBounds_toArray, List.set_cons_zero, List.set_cons_succ]
  refine Reg.G_on (o := { dst := some 77, op := Op.fieldAddr 75 (Operand.tmp 76) 2, type := 0, pos := "history.go:49", after := #[{ on := 8, ground := Ground.data }, { on := 0, ground := Ground.phase }, { on := 1, ground := Ground.phase }, { on := 2, ground := Ground.phase }, { on := 3, ground := Ground.phase }, { on := 4, ground := Ground.phase }, { on := 5, ground := Ground.phase }, { on := 6, ground := Ground.phase }, { on := 7, ground := Ground.phase }], guard := Option.none }) (v := ?_) (by rfl) ?_ (fun wS hSw => ?_) ?_
  rotate_left
  · kernel_rfl
  · (try dsimp only at hSw); go_simp; (try with_reducible rfl)
  try simp only [Act.put, List.setIfInBounds_toArray, List.set_cons_zero, List.set_cons_succ]
  clear hHeld
  refine Reg.G_last (o := { dst := Option.none, op := Op.store 56 (Operand.tmp 77) (Operand.tmp 75), type := 0, pos := "history.go:49", after := #[{ on := 9, ground := Ground.data }, { on := 7, ground := Ground.data }, { on := 7, ground := Ground.chain }, { on := 0, ground := Ground.phase }, { on := 1, ground := Ground.phase }, { on := 2, ground := Ground.phase }, { on := 3, ground := Ground.phase }, { on := 4, ground := Ground.phase }, { on := 5, ground := Ground.phase }, { on := 6, ground := Ground.phase }, { on := 7, ground := Ground.phase }], guard := Option.none }) (by rfl) (by rfl) ?_ (fun K hK => ?_)
  · kernel_rfl
  go_simp
  refine hK.out _ _ ?_
  clear hK K
  try simp only [Act.put, List.setIfInBounds_toArray, List.set_cons_zero, List.set_cons_succ]
  go_wp2
  go_end0
  exact ⟨rfl, _, HX.out.1, fun k hk => Or.imp id (fun hh => hh.1) hk, HX.out.2⟩
theorem put {w : World} {F : Nat → Prop} {b : Nat} {d s : Int} {xs : List Smp} (h : HS w F b d s xs) (x : Smp) (hlen : (xs.length + 1) * 80 ≤ 140737488355328) :
    Calls Try.prog 41 #[.pointer (some ⟨b, 0, none⟩), .agg (cells x).toArray] w fun e w' => e = .returned (.tuple #[]) ∧ ∃ F', HS w' F' b d s (hput d s xs x) ∧ Grow F F' w ∧ Mod (HM F b) w w' := by
  have d0 := h.d0
  unfold hput
  by_cases ho : x.op = 1
  · rw [if_neg (fun hh => hh ho)]
    by_cases hd : 0 < d
    · by_cases hc : d ≤ (cnt x.key xs : Int)
      · rw [if_pos ⟨hd, hc⟩]; exact put_a h x ho hd hc hlen
      · rw [if_neg (fun hh => hc hh.2), if_neg (fun hh => by omega), if_neg (fun hh => by omega)]; exact put_b h x ho hd hc hlen
    · have hd0 : d = 0 := by omega
      rw [if_neg (fun hh => hd hh.1)]
      by_cases hs : s = 0
      · rw [if_pos ⟨hd0, hs⟩]; exact put_c h x ho hd0 hs hlen
      · rw [if_neg (fun hh => hs hh.2)]
        by_cases hl : s ≤ (xs.length : Int)
        · rw [if_pos ⟨hd0, hl⟩]; exact put_d h x ho hd0 hs hl hlen
        · rw [if_neg (fun hh => hl hh.2)]; exact put_e h x ho hd0 hs hl hlen
  · rw [if_pos ho]
    exact (put_drop h x ho).mono fun e w' hh => ⟨hh.1, F, hh.2.1, fun k hk => .inl hk, hh.2.2⟩
end Go.Proofs.Ytimalojaiaofkaa.His
