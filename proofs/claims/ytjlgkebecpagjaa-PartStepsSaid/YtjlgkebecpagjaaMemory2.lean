import Derived.Test.YtjlgkebecpagjaaMemory
import Derived.Laws.CopyOwn
set_option linter.unusedVariables false
set_option linter.unusedSimpArgs false
namespace Go.Proofs.Ytjlgkebecpagjaa.Memory
open Go.RowKit Base Sp Flat Go.Proofs.YtjlgkebecpagjaaW.PrintWords Go.Lib
theorem cells_at (l : List UInt8) (j : Nat) (v : Value) (h : (byteCells l)[j]? = some v) : ∃ hj : j < l.length, v = .int .u8 (l[j].toNat : Int) := by
  unfold byteCells at h
  rw [List.getElem?_map] at h
  obtain ⟨x, hx, rfl⟩ := Option.map_eq_some_iff.1 h
  obtain ⟨hj, rfl⟩ := List.getElem?_eq_some_iff.1 hx
  exact ⟨hj, rfl⟩
set_option maxRecDepth 20000 in
set_option maxHeartbeats 1000000 in
theorem load_some (F : Nat → Prop) (b : Nat) (l : List UInt8) (i j : Nat) (w : World) (h : MR w F b l) (hm : l.length ≤ 281474976710656) (hj : 0 < j) (hij : i + j ≤ l.length) :
    Calls Try.prog 39 #[.pointer (some ⟨b, 0, none⟩), .int .i64 (i : Int), .int .i64 (j : Int)] w fun e w' => e = .returned (.tuple #[.string ⟨((l.drop i).take j).toArray⟩, .int .i64 0]) ∧ Below w.heap.size w w' := by
  have hL := lies (.pointer (some ⟨b, 0, none⟩)) l.length (by omega) i j w (size_ F b l w h)
  rw [show lb l.length i j = true from lb_true.2 ⟨by omega, by omega, by omega, by omega⟩] at hL
  obtain ⟨A, h1, h2, h3, h4⟩ := h
  obtain ⟨g, rfl, hg, hF, hc⟩ := h4 (by omega)
  have hbl := h3 b h2
  have hgl := h3 g hF
  have hmk : ∀ W : World, (Instr.makeSlice 115 (.int .i64 (j : Int)) (.int .i64 (j : Int))).run Try.prog W = .ok (.slice (some ⟨W.heap.size, 0, none⟩) j j) (W.alloc (.cells (madeCells #[.int .u8 0] j) 5)) :=
    fun W => print_make (P := Try.prog) 115 5 .u8 1 Try.underlying115 (by kernel_rfl) (by decide) j (by omega) W
  obtain ⟨W, hW⟩ : ∃ W, W = w.alloc (.cells (madeCells #[.int .u8 0] j) 5) := ⟨_, rfl⟩
  have hbW : Below w.heap.size w W := by rw [hW]; exact (Below.refl _ _).alloc (Nat.le_refl _) _
  have hnew : W.heap[w.heap.size]? = some (.cells (byteCells (List.replicate j 0)).toArray 5 (0, 0)) := by rw [hW, made_bytes]; exact heap_alloc_new _ _
  have hcW : W.heap[g]? = _ := (hbW.block g hgl).trans hc
  have hlen : (byteCells ((l.drop i).take j)).length = j := by rw [byteCells_length, List.length_take, List.length_drop]; omega
  have hrun := run_copy_row (P := Try.prog) W 115 115 3 5 w.heap.size 0 j j ⟨g, i, none⟩ (l.length - i) (l.length - i) (byteCells (List.replicate j 0)).toArray 5 (byteCells ((l.drop i).take j)) Try.underlying115 (by kernel_rfl) hnew
    (by rw [hlen]; exact (Nat.min_eq_right (by omega)).symm)
    (fun k v hk => by
      obtain ⟨hk', rfl⟩ := cells_at _ _ _ hk
      have hk2 : k < j := by rw [List.length_take] at hk'; omega
      rw [add_at, blk_cell hcW]
      have hk3 : i + k < l.length := by omega
      simp [byteCells, List.getElem?_eq_getElem hk3])
    (by rw [hlen]; simp [byteCells]) (byteCells_one _)
  rw [hlen] at hrun
  have hX : ((l.drop i).take j).length = j := by rw [List.length_take, List.length_drop]; omega
  generalize hXe : (l.drop i).take j = X at *
  have hrow : ((byteCells (List.replicate j 0)).toArray.toList.take 0 ++ byteCells X ++ (byteCells (List.replicate j 0)).toArray.toList.drop (0 + j)).toArray = (byteCells X).toArray := by
    simp [byteCells]
  rw [hrow] at hrun
  obtain ⟨w2, hw2⟩ : ∃ w2, w2 = W.setRow w.heap.size (byteCells X).toArray := ⟨_, rfl⟩
  have hb2 : Below w.heap.size w w2 := by rw [hw2]; exact below_setRow hbW (Nat.le_refl _) _
  have hr2 : w2.heap[w.heap.size]? = some (.cells (byteCells X).toArray 5 (0, 0)) := by rw [hw2]; exact setRow_heap W _ _ _ _ _ hnew
  rw [← hw2, hW] at hrun
  have hcv := run_convert_bytes_back (P := Try.prog) w2 115 9 5 ⟨w.heap.size, 0, none⟩ j X Try.underlying115 Try.underlying5 Try.underlying9 (fun k hk => by
    rw [add_plain, blk_cell hr2]
    simp [byteCells, List.getElem?_eq_getElem hk])
  rw [hX] at hcv
  have HC := Lib.hid hrun
  have c0 : w.cell? ⟨b, 0, none⟩ = some (.slice (some ⟨g, 0, none⟩) l.length l.length) := blk_cell h1 0
  have c1 : W.cell? ⟨b, 0, none⟩ = some (.slice (some ⟨g, 0, none⟩) l.length l.length) := cbel hbW c0 hbl
  have hne : ¬ (l.length = i) := by omega
  have hadd : (⟨g, 0, none⟩ : Addr).add i = ⟨g, i, none⟩ := add_plain g i
  have hil : i ≤ l.length := by omega
  rw [hW] at c1
  clear hrun hw2 hr2 hrow hXe hX hcW hnew hbW hW hc h1 h4 hlen
  go_enter Try.func39, Try.ntmps39
  go_wp2_with (first | (go_at_call 75; refine hL.mono ?_; rintro e w' ⟨rfl, rfl⟩) | (refine wp_copy rfl (.tmp 18) (.tmp 24) 115 115 rfl rfl rfl HC.out ?_))
  go_ret2
  exact ⟨rfl, hb2⟩
end Go.Proofs.Ytjlgkebecpagjaa.Memory
