import Derived.Test.YtflkefabbdelaaaPrimP
import Derived.Test.YtflkefabbdelaaaWdSPrimKinds
import Derived.Test.YtflkefabbdelaaaPPrimKindsx1
import Derived.Test.YtflkefabbdelaaaFlat
import Derived.Laws.Tables
set_option linter.unusedVariables false
set_option linter.unusedSimpArgs false
namespace Go.Proofs.Ytflkefabbdelaaa.Prim
open Go.RowKit Base Flat Go.Proofs.YtflkefabbdelaaaW.PrintWords Go.Proofs.YtflkefabbdelaaaW.PrintLast Go.Proofs.YtflkefabbdelaaaW.PrintMore Wd Go.Proofs.Ytflkefabbdelaaa.PPrimKinds
theorem number (k : Int) (w : World) : Calls Try.prog 6 #[.int .i64 k] w fun e w' => e = .returned (.bool (nb k)) ∧ w = w' := by
  by_cases h1 : 1 ≤ k
  · by_cases h9 : k ≤ 9
    · rw [show nb k = true from decide_eq_true ⟨h1, h9⟩]
      go_enter Try.func6, Try.ntmps6
      go_wp2
      go_ret
      exact ⟨rfl, rfl⟩
    · rw [show nb k = false from decide_eq_false (fun h => h9 h.2)]
      go_enter Try.func6, Try.ntmps6
      go_wp2
      go_ret
      exact ⟨rfl, rfl⟩
  · rw [show nb k = false from decide_eq_false (fun h => h1 h.1)]
    go_enter Try.func6, Try.ntmps6
    go_wp2
    go_ret
    exact ⟨rfl, rfl⟩
/-- An array literal whose cells are known. -/
theorem wp_build_to {P : Program} {ops : Array Oper} {rest : List Oper} {o : Oper} {a : Act} {w : World} {Q : Exit → Act → World → Prop} (hg : o.guard = none) (t : TypeId) (parts : Array (Nat × Operand)) (ho : o.op = .build t parts) (v : Array Value)
    (hv : P.built t (parts.map fun (i, x) => (i, a.eval x)).toList = some v) (h : wpList P ops Q rest (a.put o.dst (.agg v)) w) : wpList P ops Q (o :: rest) a w := by
  refine wpList_build hg t parts ho (by rw [hv]; rfl) ?_
  rw [hv]
  exact h
/-- The rows of all kinds. -/
def tab : Array Value := #[.int .i64 0, .bool false, .int .i64 1, .bool false, .int .i64 1, .bool false, .int .i64 2, .bool true, .int .i64 2, .bool false, .int .i64 4, .bool true, .int .i64 4, .bool false, .int .i64 8, .bool true, .int .i64 8, .bool false, .int .i64 4, .bool true]
def zer : Array Value := #[.int .i64 0, .bool false, .int .i64 0, .bool false, .int .i64 0, .bool false, .int .i64 0, .bool false, .int .i64 0, .bool false, .int .i64 0, .bool false, .int .i64 0, .bool false, .int .i64 0, .bool false, .int .i64 0, .bool false, .int .i64 0, .bool false]
theorem tabbed0 (w : World) : ((w.alloc (.cells #[.int .i64 0, .bool false] 40)).alloc (.cells zer 55)).heap[w.heap.size + 1]? = some (.cells zer 55 (0, 0)) := by
  have h1 := heap_alloc_new (w.alloc (.cells #[.int .i64 0, .bool false] 40)) (.cells zer 55)
  have e : (w.alloc (.cells #[.int .i64 0, .bool false] 40)).heap.size = w.heap.size + 1 := by simp
  rw [e] at h1
  exact h1
theorem tabbed (w : World) : ∃ W1 : World, W1 = (((w.alloc (.cells #[.int .i64 0, .bool false] 40)).alloc (.cells zer 55)).setRow (w.heap.size + 1) tab) ∧ W1.heap[w.heap.size]? = some (.cells #[.int .i64 0, .bool false] 40 (0, 0)) ∧
    W1.heap[w.heap.size + 1]? = some (.cells tab 55 (0, 0)) ∧ Below w.heap.size w W1 := by
  have h1 := heap_alloc_new (w.alloc (.cells #[.int .i64 0, .bool false] 40)) (.cells zer 55)
  have e : (w.alloc (.cells #[.int .i64 0, .bool false] 40)).heap.size = w.heap.size + 1 := by simp
  rw [e] at h1
  have h0 : ((w.alloc (.cells #[.int .i64 0, .bool false] 40)).alloc (.cells zer 55)).heap[w.heap.size]? = some (.cells #[.int .i64 0, .bool false] 40 (0, 0)) := by
    rw [Below.heap_alloc _ _ _ (by rw [e]; omega)]
    exact heap_alloc_new w _
  have hb : Below w.heap.size w ((w.alloc (.cells #[.int .i64 0, .bool false] 40)).alloc (.cells zer 55)) := ((Below.refl _ _).alloc (Nat.le_refl _) _).alloc (by rw [e]; omega) _
  refine ⟨_, rfl, ?_, setRow_heap _ _ zer tab _ _ h1, ?_⟩
  · rw [setRow_other _ _ _ _ (by omega)]
    exact h0
  · exact ⟨hb.os, hb.tape, hb.output, by simpa using hb.size, fun k hk => (setRow_other _ _ _ _ (by omega)).trans (hb.block k hk)⟩
theorem rows1 (w : World) : Calls Try.prog 25 #[.int .i64 1] w fun e w' => e = .returned (.agg #[.int .i64 (ks 1), .bool (sg 1)]) ∧ Below w.heap.size w w' := by
  have HN := number 1
  rw [show nb 1 = true from by decide] at HN
  rw [show ks 1 = 1 from by decide, show sg 1 = false from by decide]
  obtain ⟨W1, hW, hr0, hr1, hb1⟩ := tabbed w
  have HG := Lib.hid (tabbed0 w)
  go_enter Try.func25, Try.ntmps25
  go_wp2_with (first | (refine wp_build_to rfl 55 _ rfl tab (by kernel_rfl) ?_) | (refine wpList_store_row rfl 55 (.tmp 3) (.tmp 13) rfl (w.heap.size + 1) tab rfl rfl 55 zer HG.out (by kernel_rfl) rfl (by kernel_rfl) ?_))
  unfold zer at hW
  rw [← hW]
  clear hW HG
  have f0 : W1.frozen? ⟨w.heap.size, 0, none⟩ = false := blk_frozen hr0 0
  have f1 : W1.frozen? ⟨w.heap.size, 1, none⟩ = false := blk_frozen hr0 1
  have d0 : W1.cell? ⟨w.heap.size, 0, none⟩ = some (.int .i64 0) := blk_cell hr0 0
  have d1 : W1.cell? ⟨w.heap.size, 1, none⟩ = some (.bool false) := blk_cell hr0 1
  have c0 : W1.cell? ⟨w.heap.size + 1, 2 * 1, none⟩ = some (.int .i64 1) := blk_cell hr1 (2 * 1)
  have c1 : W1.cell? ⟨w.heap.size + 1, 2 * 1 + 1, none⟩ = some (.bool false) := blk_cell hr1 (2 * 1 + 1)
  have HR0 := Lib.hid hr0
  clear hr0 hr1
  refine (HN _).mono ?_
  rintro e w' ⟨rfl, rfl⟩
  go_wp2
  have hq := blk_set (blk_set HR0.out 0 (.int .i64 1)) 1 (.bool false)
  have e0 : ((W1.setCell ⟨w.heap.size, 0, none⟩ (.int .i64 1)).setCell ⟨w.heap.size, 1, none⟩ (.bool false)).cell? ⟨w.heap.size, 0, none⟩ = some (.int .i64 1) := blk_cell hq 0
  have e1 : ((W1.setCell ⟨w.heap.size, 0, none⟩ (.int .i64 1)).setCell ⟨w.heap.size, 1, none⟩ (.bool false)).cell? ⟨w.heap.size, 1, none⟩ = some (.bool false) := blk_cell hq 1
  exact bodyPost_ret (v := .agg #[.int .i64 1, .bool false]) (by simp [results, Try.results25, go_sem, e0, e1]) rfl ⟨rfl, (hb1.setCell (Nat.le_refl _) _).setCell (Nat.le_refl _) _⟩
theorem rows2 (w : World) : Calls Try.prog 25 #[.int .i64 2] w fun e w' => e = .returned (.agg #[.int .i64 (ks 2), .bool (sg 2)]) ∧ Below w.heap.size w w' := by
  have HN := number 2
  rw [show nb 2 = true from by decide] at HN
  rw [show ks 2 = 1 from by decide, show sg 2 = false from by decide]
  obtain ⟨W1, hW, hr0, hr1, hb1⟩ := tabbed w
  have HG := Lib.hid (tabbed0 w)
  go_enter Try.func25, Try.ntmps25
  go_wp2_with (first | (refine wp_build_to rfl 55 _ rfl tab (by kernel_rfl) ?_) | (refine wpList_store_row rfl 55 (.tmp 3) (.tmp 13) rfl (w.heap.size + 1) tab rfl rfl 55 zer HG.out (by kernel_rfl) rfl (by kernel_rfl) ?_))
  unfold zer at hW
  rw [← hW]
  clear hW HG
  have f0 : W1.frozen? ⟨w.heap.size, 0, none⟩ = false := blk_frozen hr0 0
  have f1 : W1.frozen? ⟨w.heap.size, 1, none⟩ = false := blk_frozen hr0 1
  have d0 : W1.cell? ⟨w.heap.size, 0, none⟩ = some (.int .i64 0) := blk_cell hr0 0
  have d1 : W1.cell? ⟨w.heap.size, 1, none⟩ = some (.bool false) := blk_cell hr0 1
  have c0 : W1.cell? ⟨w.heap.size + 1, 2 * 2, none⟩ = some (.int .i64 1) := blk_cell hr1 (2 * 2)
  have c1 : W1.cell? ⟨w.heap.size + 1, 2 * 2 + 1, none⟩ = some (.bool false) := blk_cell hr1 (2 * 2 + 1)
  have HR0 := Lib.hid hr0
  clear hr0 hr1
  refine (HN _).mono ?_
  rintro e w' ⟨rfl, rfl⟩
  go_wp2
  have hq := blk_set (blk_set HR0.out 0 (.int .i64 1)) 1 (.bool false)
  have e0 : ((W1.setCell ⟨w.heap.size, 0, none⟩ (.int .i64 1)).setCell ⟨w.heap.size, 1, none⟩ (.bool false)).cell? ⟨w.heap.size, 0, none⟩ = some (.int .i64 1) := blk_cell hq 0
  have e1 : ((W1.setCell ⟨w.heap.size, 0, none⟩ (.int .i64 1)).setCell ⟨w.heap.size, 1, none⟩ (.bool false)).cell? ⟨w.heap.size, 1, none⟩ = some (.bool false) := blk_cell hq 1
  exact bodyPost_ret (v := .agg #[.int .i64 1, .bool false]) (by simp [results, Try.results25, go_sem, e0, e1]) rfl ⟨rfl, (hb1.setCell (Nat.le_refl _) _).setCell (Nat.le_refl _) _⟩
theorem rows3 (w : World) : Calls Try.prog 25 #[.int .i64 3] w fun e w' => e = .returned (.agg #[.int .i64 (ks 3), .bool (sg 3)]) ∧ Below w.heap.size w w' := by
  have HN := number 3
  rw [show nb 3 = true from by decide] at HN
  rw [show ks 3 = 2 from by decide, show sg 3 = true from by decide]
  obtain ⟨W1, hW, hr0, hr1, hb1⟩ := tabbed w
  have HG := Lib.hid (tabbed0 w)
  go_enter Try.func25, Try.ntmps25
  go_wp2_with (first | (refine wp_build_to rfl 55 _ rfl tab (by kernel_rfl) ?_) | (refine wpList_store_row rfl 55 (.tmp 3) (.tmp 13) rfl (w.heap.size + 1) tab rfl rfl 55 zer HG.out (by kernel_rfl) rfl (by kernel_rfl) ?_))
  unfold zer at hW
  rw [← hW]
  clear hW HG
  have f0 : W1.frozen? ⟨w.heap.size, 0, none⟩ = false := blk_frozen hr0 0
  have f1 : W1.frozen? ⟨w.heap.size, 1, none⟩ = false := blk_frozen hr0 1
  have d0 : W1.cell? ⟨w.heap.size, 0, none⟩ = some (.int .i64 0) := blk_cell hr0 0
  have d1 : W1.cell? ⟨w.heap.size, 1, none⟩ = some (.bool false) := blk_cell hr0 1
  have c0 : W1.cell? ⟨w.heap.size + 1, 2 * 3, none⟩ = some (.int .i64 2) := blk_cell hr1 (2 * 3)
  have c1 : W1.cell? ⟨w.heap.size + 1, 2 * 3 + 1, none⟩ = some (.bool true) := blk_cell hr1 (2 * 3 + 1)
  have HR0 := Lib.hid hr0
  clear hr0 hr1
  refine (HN _).mono ?_
  rintro e w' ⟨rfl, rfl⟩
  go_wp2
  have hq := blk_set (blk_set HR0.out 0 (.int .i64 2)) 1 (.bool true)
  have e0 : ((W1.setCell ⟨w.heap.size, 0, none⟩ (.int .i64 2)).setCell ⟨w.heap.size, 1, none⟩ (.bool true)).cell? ⟨w.heap.size, 0, none⟩ = some (.int .i64 2) := blk_cell hq 0
  have e1 : ((W1.setCell ⟨w.heap.size, 0, none⟩ (.int .i64 2)).setCell ⟨w.heap.size, 1, none⟩ (.bool true)).cell? ⟨w.heap.size, 1, none⟩ = some (.bool true) := blk_cell hq 1
  exact bodyPost_ret (v := .agg #[.int .i64 2, .bool true]) (by simp [results, Try.results25, go_sem, e0, e1]) rfl ⟨rfl, (hb1.setCell (Nat.le_refl _) _).setCell (Nat.le_refl _) _⟩
theorem rows4 (w : World) : Calls Try.prog 25 #[.int .i64 4] w fun e w' => e = .returned (.agg #[.int .i64 (ks 4), .bool (sg 4)]) ∧ Below w.heap.size w w' := by
  have HN := number 4
  rw [show nb 4 = true from by decide] at HN
  rw [show ks 4 = 2 from by decide, show sg 4 = false from by decide]
  obtain ⟨W1, hW, hr0, hr1, hb1⟩ := tabbed w
  have HG := Lib.hid (tabbed0 w)
  go_enter Try.func25, Try.ntmps25
  go_wp2_with (first | (refine wp_build_to rfl 55 _ rfl tab (by kernel_rfl) ?_) | (refine wpList_store_row rfl 55 (.tmp 3) (.tmp 13) rfl (w.heap.size + 1) tab rfl rfl 55 zer HG.out (by kernel_rfl) rfl (by kernel_rfl) ?_))
  unfold zer at hW
  rw [← hW]
  clear hW HG
  have f0 : W1.frozen? ⟨w.heap.size, 0, none⟩ = false := blk_frozen hr0 0
  have f1 : W1.frozen? ⟨w.heap.size, 1, none⟩ = false := blk_frozen hr0 1
  have d0 : W1.cell? ⟨w.heap.size, 0, none⟩ = some (.int .i64 0) := blk_cell hr0 0
  have d1 : W1.cell? ⟨w.heap.size, 1, none⟩ = some (.bool false) := blk_cell hr0 1
  have c0 : W1.cell? ⟨w.heap.size + 1, 2 * 4, none⟩ = some (.int .i64 2) := blk_cell hr1 (2 * 4)
  have c1 : W1.cell? ⟨w.heap.size + 1, 2 * 4 + 1, none⟩ = some (.bool false) := blk_cell hr1 (2 * 4 + 1)
  have HR0 := Lib.hid hr0
  clear hr0 hr1
  refine (HN _).mono ?_
  rintro e w' ⟨rfl, rfl⟩
  go_wp2
  have hq := blk_set (blk_set HR0.out 0 (.int .i64 2)) 1 (.bool false)
  have e0 : ((W1.setCell ⟨w.heap.size, 0, none⟩ (.int .i64 2)).setCell ⟨w.heap.size, 1, none⟩ (.bool false)).cell? ⟨w.heap.size, 0, none⟩ = some (.int .i64 2) := blk_cell hq 0
  have e1 : ((W1.setCell ⟨w.heap.size, 0, none⟩ (.int .i64 2)).setCell ⟨w.heap.size, 1, none⟩ (.bool false)).cell? ⟨w.heap.size, 1, none⟩ = some (.bool false) := blk_cell hq 1
  exact bodyPost_ret (v := .agg #[.int .i64 2, .bool false]) (by simp [results, Try.results25, go_sem, e0, e1]) rfl ⟨rfl, (hb1.setCell (Nat.le_refl _) _).setCell (Nat.le_refl _) _⟩
theorem rows5 (w : World) : Calls Try.prog 25 #[.int .i64 5] w fun e w' => e = .returned (.agg #[.int .i64 (ks 5), .bool (sg 5)]) ∧ Below w.heap.size w w' := by
  have HN := number 5
  rw [show nb 5 = true from by decide] at HN
  rw [show ks 5 = 4 from by decide, show sg 5 = true from by decide]
  obtain ⟨W1, hW, hr0, hr1, hb1⟩ := tabbed w
  have HG := Lib.hid (tabbed0 w)
  go_enter Try.func25, Try.ntmps25
  go_wp2_with (first | (refine wp_build_to rfl 55 _ rfl tab (by kernel_rfl) ?_) | (refine wpList_store_row rfl 55 (.tmp 3) (.tmp 13) rfl (w.heap.size + 1) tab rfl rfl 55 zer HG.out (by kernel_rfl) rfl (by kernel_rfl) ?_))
  unfold zer at hW
  rw [← hW]
  clear hW HG
  have f0 : W1.frozen? ⟨w.heap.size, 0, none⟩ = false := blk_frozen hr0 0
  have f1 : W1.frozen? ⟨w.heap.size, 1, none⟩ = false := blk_frozen hr0 1
  have d0 : W1.cell? ⟨w.heap.size, 0, none⟩ = some (.int .i64 0) := blk_cell hr0 0
  have d1 : W1.cell? ⟨w.heap.size, 1, none⟩ = some (.bool false) := blk_cell hr0 1
  have c0 : W1.cell? ⟨w.heap.size + 1, 2 * 5, none⟩ = some (.int .i64 4) := blk_cell hr1 (2 * 5)
  have c1 : W1.cell? ⟨w.heap.size + 1, 2 * 5 + 1, none⟩ = some (.bool true) := blk_cell hr1 (2 * 5 + 1)
  have HR0 := Lib.hid hr0
  clear hr0 hr1
  refine (HN _).mono ?_
  rintro e w' ⟨rfl, rfl⟩
  go_wp2
  have hq := blk_set (blk_set HR0.out 0 (.int .i64 4)) 1 (.bool true)
  have e0 : ((W1.setCell ⟨w.heap.size, 0, none⟩ (.int .i64 4)).setCell ⟨w.heap.size, 1, none⟩ (.bool true)).cell? ⟨w.heap.size, 0, none⟩ = some (.int .i64 4) := blk_cell hq 0
  have e1 : ((W1.setCell ⟨w.heap.size, 0, none⟩ (.int .i64 4)).setCell ⟨w.heap.size, 1, none⟩ (.bool true)).cell? ⟨w.heap.size, 1, none⟩ = some (.bool true) := blk_cell hq 1
  exact bodyPost_ret (v := .agg #[.int .i64 4, .bool true]) (by simp [results, Try.results25, go_sem, e0, e1]) rfl ⟨rfl, (hb1.setCell (Nat.le_refl _) _).setCell (Nat.le_refl _) _⟩
theorem rows6 (w : World) : Calls Try.prog 25 #[.int .i64 6] w fun e w' => e = .returned (.agg #[.int .i64 (ks 6), .bool (sg 6)]) ∧ Below w.heap.size w w' := by
  have HN := number 6
  rw [show nb 6 = true from by decide] at HN
  rw [show ks 6 = 4 from by decide, show sg 6 = false from by decide]
  obtain ⟨W1, hW, hr0, hr1, hb1⟩ := tabbed w
  have HG := Lib.hid (tabbed0 w)
  go_enter Try.func25, Try.ntmps25
  go_wp2_with (first | (refine wp_build_to rfl 55 _ rfl tab (by kernel_rfl) ?_) | (refine wpList_store_row rfl 55 (.tmp 3) (.tmp 13) rfl (w.heap.size + 1) tab rfl rfl 55 zer HG.out (by kernel_rfl) rfl (by kernel_rfl) ?_))
  unfold zer at hW
  rw [← hW]
  clear hW HG
  have f0 : W1.frozen? ⟨w.heap.size, 0, none⟩ = false := blk_frozen hr0 0
  have f1 : W1.frozen? ⟨w.heap.size, 1, none⟩ = false := blk_frozen hr0 1
  have d0 : W1.cell? ⟨w.heap.size, 0, none⟩ = some (.int .i64 0) := blk_cell hr0 0
  have d1 : W1.cell? ⟨w.heap.size, 1, none⟩ = some (.bool false) := blk_cell hr0 1
  have c0 : W1.cell? ⟨w.heap.size + 1, 2 * 6, none⟩ = some (.int .i64 4) := blk_cell hr1 (2 * 6)
  have c1 : W1.cell? ⟨w.heap.size + 1, 2 * 6 + 1, none⟩ = some (.bool false) := blk_cell hr1 (2 * 6 + 1)
  have HR0 := Lib.hid hr0
  clear hr0 hr1
  refine (HN _).mono ?_
  rintro e w' ⟨rfl, rfl⟩
  go_wp2
  have hq := blk_set (blk_set HR0.out 0 (.int .i64 4)) 1 (.bool false)
  have e0 : ((W1.setCell ⟨w.heap.size, 0, none⟩ (.int .i64 4)).setCell ⟨w.heap.size, 1, none⟩ (.bool false)).cell? ⟨w.heap.size, 0, none⟩ = some (.int .i64 4) := blk_cell hq 0
  have e1 : ((W1.setCell ⟨w.heap.size, 0, none⟩ (.int .i64 4)).setCell ⟨w.heap.size, 1, none⟩ (.bool false)).cell? ⟨w.heap.size, 1, none⟩ = some (.bool false) := blk_cell hq 1
  exact bodyPost_ret (v := .agg #[.int .i64 4, .bool false]) (by simp [results, Try.results25, go_sem, e0, e1]) rfl ⟨rfl, (hb1.setCell (Nat.le_refl _) _).setCell (Nat.le_refl _) _⟩
theorem rows7 (w : World) : Calls Try.prog 25 #[.int .i64 7] w fun e w' => e = .returned (.agg #[.int .i64 (ks 7), .bool (sg 7)]) ∧ Below w.heap.size w w' := by
  have HN := number 7
  rw [show nb 7 = true from by decide] at HN
  rw [show ks 7 = 8 from by decide, show sg 7 = true from by decide]
  obtain ⟨W1, hW, hr0, hr1, hb1⟩ := tabbed w
  have HG := Lib.hid (tabbed0 w)
  go_enter Try.func25, Try.ntmps25
  go_wp2_with (first | (refine wp_build_to rfl 55 _ rfl tab (by kernel_rfl) ?_) | (refine wpList_store_row rfl 55 (.tmp 3) (.tmp 13) rfl (w.heap.size + 1) tab rfl rfl 55 zer HG.out (by kernel_rfl) rfl (by kernel_rfl) ?_))
  unfold zer at hW
  rw [← hW]
  clear hW HG
  have f0 : W1.frozen? ⟨w.heap.size, 0, none⟩ = false := blk_frozen hr0 0
  have f1 : W1.frozen? ⟨w.heap.size, 1, none⟩ = false := blk_frozen hr0 1
  have d0 : W1.cell? ⟨w.heap.size, 0, none⟩ = some (.int .i64 0) := blk_cell hr0 0
  have d1 : W1.cell? ⟨w.heap.size, 1, none⟩ = some (.bool false) := blk_cell hr0 1
  have c0 : W1.cell? ⟨w.heap.size + 1, 2 * 7, none⟩ = some (.int .i64 8) := blk_cell hr1 (2 * 7)
  have c1 : W1.cell? ⟨w.heap.size + 1, 2 * 7 + 1, none⟩ = some (.bool true) := blk_cell hr1 (2 * 7 + 1)
  have HR0 := Lib.hid hr0
  clear hr0 hr1
  refine (HN _).mono ?_
  rintro e w' ⟨rfl, rfl⟩
  go_wp2
  have hq := blk_set (blk_set HR0.out 0 (.int .i64 8)) 1 (.bool true)
  have e0 : ((W1.setCell ⟨w.heap.size, 0, none⟩ (.int .i64 8)).setCell ⟨w.heap.size, 1, none⟩ (.bool true)).cell? ⟨w.heap.size, 0, none⟩ = some (.int .i64 8) := blk_cell hq 0
  have e1 : ((W1.setCell ⟨w.heap.size, 0, none⟩ (.int .i64 8)).setCell ⟨w.heap.size, 1, none⟩ (.bool true)).cell? ⟨w.heap.size, 1, none⟩ = some (.bool true) := blk_cell hq 1
  exact bodyPost_ret (v := .agg #[.int .i64 8, .bool true]) (by simp [results, Try.results25, go_sem, e0, e1]) rfl ⟨rfl, (hb1.setCell (Nat.le_refl _) _).setCell (Nat.le_refl _) _⟩
theorem rows8 (w : World) : Calls Try.prog 25 #[.int .i64 8] w fun e w' => e = .returned (.agg #[.int .i64 (ks 8), .bool (sg 8)]) ∧ Below w.heap.size w w' := by
  have HN := number 8
  rw [show nb 8 = true from by decide] at HN
  rw [show ks 8 = 8 from by decide, show sg 8 = false from by decide]
  obtain ⟨W1, hW, hr0, hr1, hb1⟩ := tabbed w
  have HG := Lib.hid (tabbed0 w)
  go_enter Try.func25, Try.ntmps25
  go_wp2_with (first | (refine wp_build_to rfl 55 _ rfl tab (by kernel_rfl) ?_) | (refine wpList_store_row rfl 55 (.tmp 3) (.tmp 13) rfl (w.heap.size + 1) tab rfl rfl 55 zer HG.out (by kernel_rfl) rfl (by kernel_rfl) ?_))
  unfold zer at hW
  rw [← hW]
  clear hW HG
  have f0 : W1.frozen? ⟨w.heap.size, 0, none⟩ = false := blk_frozen hr0 0
  have f1 : W1.frozen? ⟨w.heap.size, 1, none⟩ = false := blk_frozen hr0 1
  have d0 : W1.cell? ⟨w.heap.size, 0, none⟩ = some (.int .i64 0) := blk_cell hr0 0
  have d1 : W1.cell? ⟨w.heap.size, 1, none⟩ = some (.bool false) := blk_cell hr0 1
  have c0 : W1.cell? ⟨w.heap.size + 1, 2 * 8, none⟩ = some (.int .i64 8) := blk_cell hr1 (2 * 8)
  have c1 : W1.cell? ⟨w.heap.size + 1, 2 * 8 + 1, none⟩ = some (.bool false) := blk_cell hr1 (2 * 8 + 1)
  have HR0 := Lib.hid hr0
  clear hr0 hr1
  refine (HN _).mono ?_
  rintro e w' ⟨rfl, rfl⟩
  go_wp2
  have hq := blk_set (blk_set HR0.out 0 (.int .i64 8)) 1 (.bool false)
  have e0 : ((W1.setCell ⟨w.heap.size, 0, none⟩ (.int .i64 8)).setCell ⟨w.heap.size, 1, none⟩ (.bool false)).cell? ⟨w.heap.size, 0, none⟩ = some (.int .i64 8) := blk_cell hq 0
  have e1 : ((W1.setCell ⟨w.heap.size, 0, none⟩ (.int .i64 8)).setCell ⟨w.heap.size, 1, none⟩ (.bool false)).cell? ⟨w.heap.size, 1, none⟩ = some (.bool false) := blk_cell hq 1
  exact bodyPost_ret (v := .agg #[.int .i64 8, .bool false]) (by simp [results, Try.results25, go_sem, e0, e1]) rfl ⟨rfl, (hb1.setCell (Nat.le_refl _) _).setCell (Nat.le_refl _) _⟩
theorem rows9 (w : World) : Calls Try.prog 25 #[.int .i64 9] w fun e w' => e = .returned (.agg #[.int .i64 (ks 9), .bool (sg 9)]) ∧ Below w.heap.size w w' := by
  have HN := number 9
  rw [show nb 9 = true from by decide] at HN
  rw [show ks 9 = 4 from by decide, show sg 9 = true from by decide]
  obtain ⟨W1, hW, hr0, hr1, hb1⟩ := tabbed w
  have HG := Lib.hid (tabbed0 w)
  go_enter Try.func25, Try.ntmps25
  go_wp2_with (first | (refine wp_build_to rfl 55 _ rfl tab (by kernel_rfl) ?_) | (refine wpList_store_row rfl 55 (.tmp 3) (.tmp 13) rfl (w.heap.size + 1) tab rfl rfl 55 zer HG.out (by kernel_rfl) rfl (by kernel_rfl) ?_))
  unfold zer at hW
  rw [← hW]
  clear hW HG
  have f0 : W1.frozen? ⟨w.heap.size, 0, none⟩ = false := blk_frozen hr0 0
  have f1 : W1.frozen? ⟨w.heap.size, 1, none⟩ = false := blk_frozen hr0 1
  have d0 : W1.cell? ⟨w.heap.size, 0, none⟩ = some (.int .i64 0) := blk_cell hr0 0
  have d1 : W1.cell? ⟨w.heap.size, 1, none⟩ = some (.bool false) := blk_cell hr0 1
  have c0 : W1.cell? ⟨w.heap.size + 1, 2 * 9, none⟩ = some (.int .i64 4) := blk_cell hr1 (2 * 9)
  have c1 : W1.cell? ⟨w.heap.size + 1, 2 * 9 + 1, none⟩ = some (.bool true) := blk_cell hr1 (2 * 9 + 1)
  have HR0 := Lib.hid hr0
  clear hr0 hr1
  refine (HN _).mono ?_
  rintro e w' ⟨rfl, rfl⟩
  go_wp2
  have hq := blk_set (blk_set HR0.out 0 (.int .i64 4)) 1 (.bool true)
  have e0 : ((W1.setCell ⟨w.heap.size, 0, none⟩ (.int .i64 4)).setCell ⟨w.heap.size, 1, none⟩ (.bool true)).cell? ⟨w.heap.size, 0, none⟩ = some (.int .i64 4) := blk_cell hq 0
  have e1 : ((W1.setCell ⟨w.heap.size, 0, none⟩ (.int .i64 4)).setCell ⟨w.heap.size, 1, none⟩ (.bool true)).cell? ⟨w.heap.size, 1, none⟩ = some (.bool true) := blk_cell hq 1
  exact bodyPost_ret (v := .agg #[.int .i64 4, .bool true]) (by simp [results, Try.results25, go_sem, e0, e1]) rfl ⟨rfl, (hb1.setCell (Nat.le_refl _) _).setCell (Nat.le_refl _) _⟩
theorem rows (k : Int) (w : World) : Calls Try.prog 25 #[.int .i64 k] w fun e w' => e = .returned (.agg #[.int .i64 (ks k), .bool (sg k)]) ∧ Below w.heap.size w w' := by
  cases h : nb k with
  | true =>
    rcases nb_cases h with rfl | rfl | rfl | rfl | rfl | rfl | rfl | rfl | rfl
    · exact rows1 w
    · exact rows2 w
    · exact rows3 w
    · exact rows4 w
    · exact rows5 w
    · exact rows6 w
    · exact rows7 w
    · exact rows8 w
    · exact rows9 w
  | false =>
    have HN := number k
    rw [h] at HN
    rw [ks_none h, sg_none h]
    clear h
    obtain ⟨W1, hW, hr0, hr1, hb1⟩ := tabbed w
    have HG := Lib.hid (tabbed0 w)
    go_enter Try.func25, Try.ntmps25
    go_wp2_with (first | (refine wp_build_to rfl 55 _ rfl tab (by kernel_rfl) ?_) | (refine wpList_store_row rfl 55 (.tmp 3) (.tmp 13) rfl (w.heap.size + 1) tab rfl rfl 55 zer HG.out (by kernel_rfl) rfl (by kernel_rfl) ?_))
    unfold zer at hW
    rw [← hW]
    clear hW HG
    have f0 : W1.frozen? ⟨w.heap.size, 0, none⟩ = false := blk_frozen hr0 0
    have f1 : W1.frozen? ⟨w.heap.size, 1, none⟩ = false := blk_frozen hr0 1
    have d0 : W1.cell? ⟨w.heap.size, 0, none⟩ = some (.int .i64 0) := blk_cell hr0 0
    have d1 : W1.cell? ⟨w.heap.size, 1, none⟩ = some (.bool false) := blk_cell hr0 1
    have HR0 := Lib.hid hr0
    clear hr0 hr1
    refine (HN _).mono ?_
    rintro e w' ⟨rfl, rfl⟩
    go_wp2
    have hq := blk_set (blk_set HR0.out 0 (.int .i64 0)) 1 (.bool false)
    have e0 : ((W1.setCell ⟨w.heap.size, 0, none⟩ (.int .i64 0)).setCell ⟨w.heap.size, 1, none⟩ (.bool false)).cell? ⟨w.heap.size, 0, none⟩ = some (.int .i64 0) := blk_cell hq 0
    have e1 : ((W1.setCell ⟨w.heap.size, 0, none⟩ (.int .i64 0)).setCell ⟨w.heap.size, 1, none⟩ (.bool false)).cell? ⟨w.heap.size, 1, none⟩ = some (.bool false) := blk_cell hq 1
    exact bodyPost_ret (v := .agg #[.int .i64 0, .bool false]) (by simp [results, Try.results25, go_sem, e0, e1]) rfl ⟨rfl, (hb1.setCell (Nat.le_refl _) _).setCell (Nat.le_refl _) _⟩
theorem size (k : Int) (w : World) : Calls Try.prog 8 #[.int .i64 k] w fun e w' => e = .returned (.int .i64 (ks k)) ∧ Below w.heap.size w w' := by
  go_enter Try.func8, Try.ntmps8
  go_wp2_with fail
  refine (rows k _).mono ?_
  rintro e w' ⟨rfl, hb⟩
  have hf : ∀ W, (Instr.field 40 (.agg #[.int .i64 (ks k), .bool (sg k)]) 0).run Try.prog W = .ok (.int .i64 (ks k)) W := by intro W; kernel_rfl
  go_wp2
  go_ret
  exact ⟨rfl, hb⟩
theorem signed (k : Int) (w : World) : Calls Try.prog 10 #[.int .i64 k] w fun e w' => e = .returned (.bool (sg k)) ∧ Below w.heap.size w w' := by
  go_enter Try.func10, Try.ntmps10
  go_wp2_with fail
  refine (rows k _).mono ?_
  rintro e w' ⟨rfl, hb⟩
  have hf : ∀ W, (Instr.field 40 (.agg #[.int .i64 (ks k), .bool (sg k)]) 1).run Try.prog W = .ok (.bool (sg k)) W := by intro W; kernel_rfl
  go_wp2
  go_ret
  exact ⟨rfl, hb⟩
end Go.Proofs.Ytflkefabbdelaaa.Prim
