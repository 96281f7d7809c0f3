import Derived.Test.YtimalojaiaofkaaSqRingSteps10
set_option linter.unusedVariables false
set_option linter.unusedSimpArgs false
namespace Go.Proofs.Ytimalojaiaofkaa.Rng
open Go.RowKit Base Sp Flat Go.Proofs.YtimalojaiaofkaaW.PrintWords Go.Shelf Smp His
theorem rwithout0 {w : World} {F : Nat → Prop} {v : Value} {xs : List Smp} (h : Rd ks w F v xs) (hi : 0 < xs.length) (hl : xs.length * 80 ≤ 140737488355328) :
    Calls Try.prog 83 #[v, .int .i64 0] w fun e w' => ∃ v', e = .returned v' ∧ Own ks 60 w' (fun k => w.heap.size ≤ k ∧ k < w'.heap.size) v' (xs.drop 1) ∧ Below w.heap.size w w' := rwithout h 0 hi hl
set_option maxRecDepth 20000 in
set_option maxHeartbeats 4000000 in
theorem rpush {w : World} {F : Nat → Prop} {v : Value} {xs : List Smp} (n : Qn) (lost ev : Int) (h : Rd ks w F v xs) (hF : ∀ k, F k → k < w.heap.size) (x : Smp) (hl : (xs.length + 1) * 80 ≤ 140737488355328) (he : 0 ≤ ev ∧ ev < 1000000000) (hlo : 0 ≤ lost ∧ lost < 1000000000) (hr0 : 0 ≤ n.room) :
    Calls Try.prog 54 #[rqv n v lost ev, .agg (cells x).toArray] w fun e w' => ∃ v', e = .returned (rqv n v' (pushm n xs lost ev x).2.1 (pushm n xs lost ev x).2.2) ∧ Rd ks w' (fun k => F k ∨ (w.heap.size ≤ k ∧ k < w'.heap.size)) v' (pushm n xs lost ev x).1 ∧ Below w.heap.size w w' := by
  have HF := Lib.hid hF
  have hr := h
  obtain ⟨A, c, rfl, hc, hC9, hA9⟩ := h
  obtain ⟨h1, h2, h3, b0⟩ := three_new w #[.int .i64 n.room, .int .i64 n.depth, .bool n.newest, .slice A xs.length c, .int .u64 lost, .int .u64 ev] (cells x).toArray zq 89 60 89
  unfold zq at *
  have CE := revict n lost ev (rd_below hr b0) (fun k hk => Nat.lt_of_lt_of_le (hF k hk) b0.size) x (by omega) he
  have rx := box_range h2
  have H0 := Lib.hid (And.intro h1 (And.intro h2 (And.intro h3 b0)))
  have hys := evm_le n.depth xs ev x
  unfold rqv at *
  unfold pushm
  generalize evm n.depth xs ev x = m at *
  obtain ⟨ys, ev1⟩ := m
  dsimp only at *
  have HL : Hid ((ys.length + 1) * 80 ≤ 140737488355328) := Lib.hid (Nat.le_trans (Nat.mul_le_mul_right _ (by omega)) hl)
  have hll : IntKind.u64.wrap (lost + 1) = lost + 1 := wrapu64 (by omega) (by omega)
  clear hr h1 h2 h3 b0 hF hl he hlo hys hc hC9 hA9
  by_cases hroom : n.room ≤ (ys.length : Int)
  · rw [if_pos hroom]
    have hq : ¬ (ys.length : Int) < n.room := by omega
    by_cases hn : n.newest = true ∨ n.room = 0
    · rw [if_pos hn]
      dsimp only
      by_cases h0 : 0 < n.room
      · have hnt : n.newest = true := hn.elim id (fun e => by omega)
        have HNT := Lib.hid hnt
        clear hroom hn hr0 hnt
        go_enter Try.func54, Try.ntmps54
        go_wp2_with (first | ((with_reducible refine gate_dst (N := 6) rfl ?_); refine wpList_load_mid rfl 60 (.tmp 3) rfl (w.heap.size + 1) 0 rfl (cells x) _ rx Try.underlying60 rfl (size23 x) ?_) | fail)
        refine CE.mono ?_
        rintro e w1 ⟨v1, rfl, r1, b1⟩
        have g0 := blk_below H0.out.1 b1
        have g1 := blk_below H0.out.2.1 b1
        have g2 := blk_below H0.out.2.2.1 b1
        have bw := bstep H0.out.2.2.2 b1
        have r1' : Rd ks w1 (fun k => F k ∨ (w.heap.size + 2 < k ∧ k < w1.heap.size)) v1 ys := r1.mono (fun k hk => hk.imp id (fun hh => ⟨Nat.lt_of_lt_of_le (by simp) hh.1, hh.2⟩))
        clear r1 b1 CE rx
        obtain ⟨A1, k1, rfl, hc1, hC9, hA9⟩ := r1'
        have HR1 : Hid (Rd ks w1 (fun k => F k ∨ (w.heap.size + 2 < k ∧ k < w1.heap.size)) (.slice A1 ys.length k1) ys) := Lib.hid ⟨A1, k1, rfl, hc1, hC9, hA9⟩
        have HT9 := q_there (cur := #[.int .i64 n.room, .int .i64 n.depth, .bool n.newest, .slice A xs.length c, .int .u64 lost, .int .u64 ev]) rfl g0 n (.slice A1 ys.length k1) lost ev1
        clear hC9 hA9 hc1
        go_wp2_with (first | ((with_reducible refine gate_store (p := 2) (v := .tmp 7) rfl ?_); refine Hid.out (p := _) ?_) | fail)
        refine Lib.hid ?_
        refine store_ev rfl 89 (.tmp 2) (.tmp 7) rfl (w.heap.size) 0 (qcs n (.slice A1 ys.length k1) lost ev1) rfl (q_lit n (.slice A1 ys.length k1) lost ev1) ?_ ?_ ?_ ?_
        · exact HT9
        · exact size6 _ _ _ _
        · exact qcs_one _ _ _ _ _ _
        intro w2 hw2
        obtain ⟨n2, K2⟩ := q_store (cur := #[.int .i64 n.room, .int .i64 n.depth, .bool n.newest, .slice A xs.length c, .int .u64 lost, .int .u64 ev]) rfl g0 n (.slice A1 ys.length k1) lost ev1 hw2
        have B2 := K2 bw (Nat.le_refl _) bw.size
        have S2 : ∀ k, k ≠ w.heap.size → w2.heap[k]? = w1.heap[k]? := fun k hk => by rw [hw2]; exact setCells_other _ _ _ _ k hk
        have m1 : w2.heap[w.heap.size + 1]? = some (.cells (cells x).toArray 60 (0, 0)) := (S2 _ (by omega)).trans g1
        have m2 : w2.heap[w.heap.size + 1 + 1]? = some (.cells #[.int .i64 0, .int .i64 0, .bool false, .slice none 0 0, .int .u64 0, .int .u64 0] 89 (0, 0)) := (S2 _ (by omega)).trans g2
        have s2 : w2.heap.size = w1.heap.size := by rw [hw2, setCells_size]
        have R2 : Rd ks w2 (fun k => F k ∨ (w.heap.size + 2 < k ∧ k < w2.heap.size)) (.slice A1 ys.length k1) ys := (HR1.out.same flat_ks (w' := w2) (fun k hk => S2 k (hk.elim (fun hf => Nat.ne_of_lt (HF.out k hf)) (fun hh => by have := hh.1; omega)))).mono (fun k hk => hk.imp id (fun hh => ⟨hh.1, by rw [s2]; exact hh.2⟩))
        have HM := Lib.hid (And.intro n2 (And.intro m1 (And.intro m2 (And.intro R2 B2))))
        have HLT := Lib.hid (show w.heap.size + 2 < w2.heap.size from blk_lt m2)
        clear g0 g1 g2 bw HR1 HT9 hw2 K2 B2 S2 m1 m2 R2 s2
        have c0 : w2.cell? ⟨w.heap.size, 0, none⟩ = some (.int .i64 n.room) := blk_cell n2 0
        have c1 : w2.cell? ⟨w.heap.size, 1, none⟩ = some (.int .i64 n.depth) := blk_cell n2 1
        have c2 : w2.cell? ⟨w.heap.size, 2, none⟩ = some (.bool n.newest) := blk_cell n2 2
        have c3 : w2.cell? ⟨w.heap.size, 3, none⟩ = some (.slice A1 ys.length k1) := blk_cell n2 3
        have c4 : w2.cell? ⟨w.heap.size, 4, none⟩ = some (.int .u64 lost) := blk_cell n2 4
        have c5 : w2.cell? ⟨w.heap.size, 5, none⟩ = some (.int .u64 ev1) := blk_cell n2 5
        clear n2
        have HS : Hid ((w2.setCell ⟨w.heap.size, 4, none⟩ (.int .u64 (lost + 1))).heap[w.heap.size]? = some (.cells #[.int .i64 n.room, .int .i64 n.depth, .bool n.newest, .slice A1 ys.length k1, .int .u64 (lost + 1), .int .u64 ev1] 89 (0, 0)) ∧
            (w2.setCell ⟨w.heap.size, 4, none⟩ (.int .u64 (lost + 1))).heap[w.heap.size + 1]? = some (.cells (cells x).toArray 60 (0, 0)) ∧
            (w2.setCell ⟨w.heap.size, 4, none⟩ (.int .u64 (lost + 1))).heap[w.heap.size + 1 + 1]? = some (.cells #[.int .i64 0, .int .i64 0, .bool false, .slice none 0 0, .int .u64 0, .int .u64 0] 89 (0, 0)) ∧
            Rd ks (w2.setCell ⟨w.heap.size, 4, none⟩ (.int .u64 (lost + 1))) (fun k => F k ∨ (w.heap.size + 2 < k ∧ k < w2.heap.size)) (.slice A1 ys.length k1) ys ∧ Below w.heap.size w (w2.setCell ⟨w.heap.size, 4, none⟩ (.int .u64 (lost + 1))) ∧ (w2.setCell ⟨w.heap.size, 4, none⟩ (.int .u64 (lost + 1))).heap.size = w2.heap.size) := Lib.hid ⟨blk_put HM.out.1 4 _ rfl,
          (Below.heap_setCell _ ⟨w.heap.size, 4, none⟩ _ (w.heap.size + 1) (by show w.heap.size + 1 ≠ w.heap.size; omega)).trans HM.out.2.1,
          (Below.heap_setCell _ ⟨w.heap.size, 4, none⟩ _ (w.heap.size + 1 + 1) (by show w.heap.size + 1 + 1 ≠ w.heap.size; omega)).trans HM.out.2.2.1,
          HM.out.2.2.2.1.set flat_ks (a := ⟨w.heap.size, 4, none⟩) (fun hk => hk.elim (fun hf => Nat.lt_irrefl _ (HF.out _ hf)) (fun hh => by have h9 : w.heap.size + 2 < w.heap.size := hh.1; omega)), HM.out.2.2.2.2.setCell (p := ⟨w.heap.size, 4, none⟩) (Nat.le_refl _) _, by simp [World.setCell]⟩
        have z4 := blk_frozen HM.out.1 4
        have hnt := HNT.out
        go_wp2_with (first | ((with_reducible refine gate_dst (N := 42) rfl ?_); refine Hid.out (p := _) ?_) | fail)
        refine Lib.hid ?_
        clear hnt c0 c1 c2 c3 c4 c5 z4
        obtain ⟨w4, hw4⟩ : ∃ w4, w4 = w2.setCell ⟨w.heap.size, 4, none⟩ (.int .u64 (lost + 1)) := ⟨_, rfl⟩
        rw [← hw4] at HS ⊢
        clear hw4
        have HG := Lib.hid (And.intro HS.out.2.2.1 HS.out.2.2.2.2.1)
        have g4 := HS.out.1
        have c0 : w4.cell? ⟨w.heap.size, 0, none⟩ = some (.int .i64 n.room) := blk_cell g4 0
        have c1 : w4.cell? ⟨w.heap.size, 1, none⟩ = some (.int .i64 n.depth) := blk_cell g4 1
        have c2 : w4.cell? ⟨w.heap.size, 2, none⟩ = some (.bool n.newest) := blk_cell g4 2
        have c3 : w4.cell? ⟨w.heap.size, 3, none⟩ = some (.slice A1 ys.length k1) := blk_cell g4 3
        have c4 : w4.cell? ⟨w.heap.size, 4, none⟩ = some (.int .u64 (lost + 1)) := blk_cell g4 4
        have c5 : w4.cell? ⟨w.heap.size, 5, none⟩ = some (.int .u64 ev1) := blk_cell g4 5
        clear g4
        have HT9 := q_there (cur := #[.int .i64 0, .int .i64 0, .bool false, .slice none 0 0, .int .u64 0, .int .u64 0]) rfl HG.out.1 n (.slice A1 ys.length k1) (lost + 1) ev1
        go_wp2_with (first | ((with_reducible refine gate_store (p := 4) (v := .tmp 42) rfl ?_); refine Hid.out (p := _) ?_) | fail)
        refine Lib.hid ?_
        refine store_ev rfl 89 (.tmp 4) (.tmp 42) rfl (w.heap.size + 1 + 1) 0 (qcs n (.slice A1 ys.length k1) (lost + 1) ev1) rfl (q_lit n (.slice A1 ys.length k1) (lost + 1) ev1) ?_ ?_ ?_ ?_
        · exact HT9
        · exact size6 _ _ _ _
        · exact qcs_one _ _ _ _ _ _
        intro w9 hw9
        obtain ⟨n9, K9⟩ := q_store (cur := #[.int .i64 0, .int .i64 0, .bool false, .slice none 0 0, .int .u64 0, .int .u64 0]) rfl HG.out.1 n (.slice A1 ys.length k1) (lost + 1) ev1 hw9
        have B9 := K9 HG.out.2 (by omega) HG.out.2.size
        have S9 : ∀ k, k ≠ w.heap.size + 1 + 1 → w9.heap[k]? = w4.heap[k]? := fun k hk => by rw [hw9]; exact setCells_other _ _ _ _ k hk
        have s9 : w9.heap.size = w4.heap.size := by rw [hw9, setCells_size]
        have HY : Hid (Rd ks w9 (fun k => F k ∨ (w.heap.size ≤ k ∧ k < w9.heap.size)) (.slice A1 ys.length k1) ys ∧ Below w.heap.size w w9) := Lib.hid ⟨(HS.out.2.2.2.1.same flat_ks (w' := w9) (fun k hk => S9 k (hk.elim (fun hf => by have := HF.out k hf; omega) (fun hh => by have := hh.1; omega)))).mono (fun k hk => hk.imp id (fun hh => ⟨by have := hh.1; omega, by rw [s9, HS.out.2.2.2.2.2]; exact hh.2⟩)), B9⟩
        clear c0 c1 c2 c3 c4 c5 K9 B9 HT9 S9 s9 hw9
        have c0 : w9.cell? ⟨w.heap.size + 1 + 1, 0, none⟩ = some (.int .i64 n.room) := blk_cell n9 0
        have c1 : w9.cell? ⟨w.heap.size + 1 + 1, 1, none⟩ = some (.int .i64 n.depth) := blk_cell n9 1
        have c2 : w9.cell? ⟨w.heap.size + 1 + 1, 2, none⟩ = some (.bool n.newest) := blk_cell n9 2
        have c3 : w9.cell? ⟨w.heap.size + 1 + 1, 3, none⟩ = some (.slice A1 ys.length k1) := blk_cell n9 3
        have c4 : w9.cell? ⟨w.heap.size + 1 + 1, 4, none⟩ = some (.int .u64 (lost + 1)) := blk_cell n9 4
        have c5 : w9.cell? ⟨w.heap.size + 1 + 1, 5, none⟩ = some (.int .u64 ev1) := blk_cell n9 5
        go_wp2
        exact bodyPost_ret (v := .agg #[.int .i64 n.room, .int .i64 n.depth, .bool n.newest, .slice A1 ys.length k1, .int .u64 (lost + 1), .int .u64 ev1]) (by simp [results, Try.results54, go_sem, c0, c1, c2, c3, c4, c5]) rfl ⟨_, rfl, HY.out.1, HY.out.2⟩
      · clear hroom hn hr0
        go_enter Try.func54, Try.ntmps54
        go_wp2_with (first | ((with_reducible refine gate_dst (N := 6) rfl ?_); refine wpList_load_mid rfl 60 (.tmp 3) rfl (w.heap.size + 1) 0 rfl (cells x) _ rx Try.underlying60 rfl (size23 x) ?_) | fail)
        refine CE.mono ?_
        rintro e w1 ⟨v1, rfl, r1, b1⟩
        have g0 := blk_below H0.out.1 b1
        have g1 := blk_below H0.out.2.1 b1
        have g2 := blk_below H0.out.2.2.1 b1
        have bw := bstep H0.out.2.2.2 b1
        have r1' : Rd ks w1 (fun k => F k ∨ (w.heap.size + 2 < k ∧ k < w1.heap.size)) v1 ys := r1.mono (fun k hk => hk.imp id (fun hh => ⟨Nat.lt_of_lt_of_le (by simp) hh.1, hh.2⟩))
        clear r1 b1 CE rx
        obtain ⟨A1, k1, rfl, hc1, hC9, hA9⟩ := r1'
        have HR1 : Hid (Rd ks w1 (fun k => F k ∨ (w.heap.size + 2 < k ∧ k < w1.heap.size)) (.slice A1 ys.length k1) ys) := Lib.hid ⟨A1, k1, rfl, hc1, hC9, hA9⟩
        have HT9 := q_there (cur := #[.int .i64 n.room, .int .i64 n.depth, .bool n.newest, .slice A xs.length c, .int .u64 lost, .int .u64 ev]) rfl g0 n (.slice A1 ys.length k1) lost ev1
        clear hC9 hA9 hc1
        go_wp2_with (first | ((with_reducible refine gate_store (p := 2) (v := .tmp 7) rfl ?_); refine Hid.out (p := _) ?_) | fail)
        refine Lib.hid ?_
        refine store_ev rfl 89 (.tmp 2) (.tmp 7) rfl (w.heap.size) 0 (qcs n (.slice A1 ys.length k1) lost ev1) rfl (q_lit n (.slice A1 ys.length k1) lost ev1) ?_ ?_ ?_ ?_
        · exact HT9
        · exact size6 _ _ _ _
        · exact qcs_one _ _ _ _ _ _
        intro w2 hw2
        obtain ⟨n2, K2⟩ := q_store (cur := #[.int .i64 n.room, .int .i64 n.depth, .bool n.newest, .slice A xs.length c, .int .u64 lost, .int .u64 ev]) rfl g0 n (.slice A1 ys.length k1) lost ev1 hw2
        have B2 := K2 bw (Nat.le_refl _) bw.size
        have S2 : ∀ k, k ≠ w.heap.size → w2.heap[k]? = w1.heap[k]? := fun k hk => by rw [hw2]; exact setCells_other _ _ _ _ k hk
        have m1 : w2.heap[w.heap.size + 1]? = some (.cells (cells x).toArray 60 (0, 0)) := (S2 _ (by omega)).trans g1
        have m2 : w2.heap[w.heap.size + 1 + 1]? = some (.cells #[.int .i64 0, .int .i64 0, .bool false, .slice none 0 0, .int .u64 0, .int .u64 0] 89 (0, 0)) := (S2 _ (by omega)).trans g2
        have s2 : w2.heap.size = w1.heap.size := by rw [hw2, setCells_size]
        have R2 : Rd ks w2 (fun k => F k ∨ (w.heap.size + 2 < k ∧ k < w2.heap.size)) (.slice A1 ys.length k1) ys := (HR1.out.same flat_ks (w' := w2) (fun k hk => S2 k (hk.elim (fun hf => Nat.ne_of_lt (HF.out k hf)) (fun hh => by have := hh.1; omega)))).mono (fun k hk => hk.imp id (fun hh => ⟨hh.1, by rw [s2]; exact hh.2⟩))
        have HM := Lib.hid (And.intro n2 (And.intro m1 (And.intro m2 (And.intro R2 B2))))
        have HLT := Lib.hid (show w.heap.size + 2 < w2.heap.size from blk_lt m2)
        clear g0 g1 g2 bw HR1 HT9 hw2 K2 B2 S2 m1 m2 R2 s2
        have c0 : w2.cell? ⟨w.heap.size, 0, none⟩ = some (.int .i64 n.room) := blk_cell n2 0
        have c1 : w2.cell? ⟨w.heap.size, 1, none⟩ = some (.int .i64 n.depth) := blk_cell n2 1
        have c2 : w2.cell? ⟨w.heap.size, 2, none⟩ = some (.bool n.newest) := blk_cell n2 2
        have c3 : w2.cell? ⟨w.heap.size, 3, none⟩ = some (.slice A1 ys.length k1) := blk_cell n2 3
        have c4 : w2.cell? ⟨w.heap.size, 4, none⟩ = some (.int .u64 lost) := blk_cell n2 4
        have c5 : w2.cell? ⟨w.heap.size, 5, none⟩ = some (.int .u64 ev1) := blk_cell n2 5
        clear n2
        have HS : Hid ((w2.setCell ⟨w.heap.size, 4, none⟩ (.int .u64 (lost + 1))).heap[w.heap.size]? = some (.cells #[.int .i64 n.room, .int .i64 n.depth, .bool n.newest, .slice A1 ys.length k1, .int .u64 (lost + 1), .int .u64 ev1] 89 (0, 0)) ∧
            (w2.setCell ⟨w.heap.size, 4, none⟩ (.int .u64 (lost + 1))).heap[w.heap.size + 1]? = some (.cells (cells x).toArray 60 (0, 0)) ∧
            (w2.setCell ⟨w.heap.size, 4, none⟩ (.int .u64 (lost + 1))).heap[w.heap.size + 1 + 1]? = some (.cells #[.int .i64 0, .int .i64 0, .bool false, .slice none 0 0, .int .u64 0, .int .u64 0] 89 (0, 0)) ∧
            Rd ks (w2.setCell ⟨w.heap.size, 4, none⟩ (.int .u64 (lost + 1))) (fun k => F k ∨ (w.heap.size + 2 < k ∧ k < w2.heap.size)) (.slice A1 ys.length k1) ys ∧ Below w.heap.size w (w2.setCell ⟨w.heap.size, 4, none⟩ (.int .u64 (lost + 1))) ∧ (w2.setCell ⟨w.heap.size, 4, none⟩ (.int .u64 (lost + 1))).heap.size = w2.heap.size) := Lib.hid ⟨blk_put HM.out.1 4 _ rfl,
          (Below.heap_setCell _ ⟨w.heap.size, 4, none⟩ _ (w.heap.size + 1) (by show w.heap.size + 1 ≠ w.heap.size; omega)).trans HM.out.2.1,
          (Below.heap_setCell _ ⟨w.heap.size, 4, none⟩ _ (w.heap.size + 1 + 1) (by show w.heap.size + 1 + 1 ≠ w.heap.size; omega)).trans HM.out.2.2.1,
          HM.out.2.2.2.1.set flat_ks (a := ⟨w.heap.size, 4, none⟩) (fun hk => hk.elim (fun hf => Nat.lt_irrefl _ (HF.out _ hf)) (fun hh => by have h9 : w.heap.size + 2 < w.heap.size := hh.1; omega)), HM.out.2.2.2.2.setCell (p := ⟨w.heap.size, 4, none⟩) (Nat.le_refl _) _, by simp [World.setCell]⟩
        have z4 := blk_frozen HM.out.1 4
        go_wp2_with (first | ((with_reducible refine gate_dst (N := 42) rfl ?_); refine Hid.out (p := _) ?_) | fail)
        refine Lib.hid ?_
        clear c0 c1 c2 c3 c4 c5 z4
        obtain ⟨w4, hw4⟩ : ∃ w4, w4 = w2.setCell ⟨w.heap.size, 4, none⟩ (.int .u64 (lost + 1)) := ⟨_, rfl⟩
        rw [← hw4] at HS ⊢
        clear hw4
        have HG := Lib.hid (And.intro HS.out.2.2.1 HS.out.2.2.2.2.1)
        have g4 := HS.out.1
        have c0 : w4.cell? ⟨w.heap.size, 0, none⟩ = some (.int .i64 n.room) := blk_cell g4 0
        have c1 : w4.cell? ⟨w.heap.size, 1, none⟩ = some (.int .i64 n.depth) := blk_cell g4 1
        have c2 : w4.cell? ⟨w.heap.size, 2, none⟩ = some (.bool n.newest) := blk_cell g4 2
        have c3 : w4.cell? ⟨w.heap.size, 3, none⟩ = some (.slice A1 ys.length k1) := blk_cell g4 3
        have c4 : w4.cell? ⟨w.heap.size, 4, none⟩ = some (.int .u64 (lost + 1)) := blk_cell g4 4
        have c5 : w4.cell? ⟨w.heap.size, 5, none⟩ = some (.int .u64 ev1) := blk_cell g4 5
        clear g4
        have HT9 := q_there (cur := #[.int .i64 0, .int .i64 0, .bool false, .slice none 0 0, .int .u64 0, .int .u64 0]) rfl HG.out.1 n (.slice A1 ys.length k1) (lost + 1) ev1
        go_wp2_with (first | ((with_reducible refine gate_store (p := 4) (v := .tmp 42) rfl ?_); refine Hid.out (p := _) ?_) | fail)
        refine Lib.hid ?_
        refine store_ev rfl 89 (.tmp 4) (.tmp 42) rfl (w.heap.size + 1 + 1) 0 (qcs n (.slice A1 ys.length k1) (lost + 1) ev1) rfl (q_lit n (.slice A1 ys.length k1) (lost + 1) ev1) ?_ ?_ ?_ ?_
        · exact HT9
        · exact size6 _ _ _ _
        · exact qcs_one _ _ _ _ _ _
        intro w9 hw9
        obtain ⟨n9, K9⟩ := q_store (cur := #[.int .i64 0, .int .i64 0, .bool false, .slice none 0 0, .int .u64 0, .int .u64 0]) rfl HG.out.1 n (.slice A1 ys.length k1) (lost + 1) ev1 hw9
        have B9 := K9 HG.out.2 (by omega) HG.out.2.size
        have S9 : ∀ k, k ≠ w.heap.size + 1 + 1 → w9.heap[k]? = w4.heap[k]? := fun k hk => by rw [hw9]; exact setCells_other _ _ _ _ k hk
        have s9 : w9.heap.size = w4.heap.size := by rw [hw9, setCells_size]
        have HY : Hid (Rd ks w9 (fun k => F k ∨ (w.heap.size ≤ k ∧ k < w9.heap.size)) (.slice A1 ys.length k1) ys ∧ Below w.heap.size w w9) := Lib.hid ⟨(HS.out.2.2.2.1.same flat_ks (w' := w9) (fun k hk => S9 k (hk.elim (fun hf => by have := HF.out k hf; omega) (fun hh => by have := hh.1; omega)))).mono (fun k hk => hk.imp id (fun hh => ⟨by have := hh.1; omega, by rw [s9, HS.out.2.2.2.2.2]; exact hh.2⟩)), B9⟩
        clear c0 c1 c2 c3 c4 c5 K9 B9 HT9 S9 s9 hw9
        have c0 : w9.cell? ⟨w.heap.size + 1 + 1, 0, none⟩ = some (.int .i64 n.room) := blk_cell n9 0
        have c1 : w9.cell? ⟨w.heap.size + 1 + 1, 1, none⟩ = some (.int .i64 n.depth) := blk_cell n9 1
        have c2 : w9.cell? ⟨w.heap.size + 1 + 1, 2, none⟩ = some (.bool n.newest) := blk_cell n9 2
        have c3 : w9.cell? ⟨w.heap.size + 1 + 1, 3, none⟩ = some (.slice A1 ys.length k1) := blk_cell n9 3
        have c4 : w9.cell? ⟨w.heap.size + 1 + 1, 4, none⟩ = some (.int .u64 (lost + 1)) := blk_cell n9 4
        have c5 : w9.cell? ⟨w.heap.size + 1 + 1, 5, none⟩ = some (.int .u64 ev1) := blk_cell n9 5
        go_wp2
        exact bodyPost_ret (v := .agg #[.int .i64 n.room, .int .i64 n.depth, .bool n.newest, .slice A1 ys.length k1, .int .u64 (lost + 1), .int .u64 ev1]) (by simp [results, Try.results54, go_sem, c0, c1, c2, c3, c4, c5]) rfl ⟨_, rfl, HY.out.1, HY.out.2⟩
    · rw [if_neg hn]
      dsimp only
      have h0 : 0 < n.room := by
        have : n.room ≠ 0 := fun e => hn (.inr e)
        omega
      have hnt : n.newest = false := by
        cases hh : n.newest with
        | true => exact absurd (.inl hh) hn
        | false => rfl
      have HPO : Hid (0 < ys.length) := Lib.hid (by omega)
      have HNT := Lib.hid hnt
      clear hroom hn hr0 hnt
      go_enter Try.func54, Try.ntmps54
      go_wp2_with (first | ((with_reducible refine gate_dst (N := 6) rfl ?_); refine wpList_load_mid rfl 60 (.tmp 3) rfl (w.heap.size + 1) 0 rfl (cells x) _ rx Try.underlying60 rfl (size23 x) ?_) | fail)
      refine CE.mono ?_
      rintro e w1 ⟨v1, rfl, r1, b1⟩
      have g0 := blk_below H0.out.1 b1
      have g1 := blk_below H0.out.2.1 b1
      have g2 := blk_below H0.out.2.2.1 b1
      have bw := bstep H0.out.2.2.2 b1
      have r1' : Rd ks w1 (fun k => F k ∨ (w.heap.size + 2 < k ∧ k < w1.heap.size)) v1 ys := r1.mono (fun k hk => hk.imp id (fun hh => ⟨Nat.lt_of_lt_of_le (by simp) hh.1, hh.2⟩))
      clear r1 b1 CE rx
      obtain ⟨A1, k1, rfl, hc1, hC9, hA9⟩ := r1'
      have HR1 : Hid (Rd ks w1 (fun k => F k ∨ (w.heap.size + 2 < k ∧ k < w1.heap.size)) (.slice A1 ys.length k1) ys) := Lib.hid ⟨A1, k1, rfl, hc1, hC9, hA9⟩
      have HT9 := q_there (cur := #[.int .i64 n.room, .int .i64 n.depth, .bool n.newest, .slice A xs.length c, .int .u64 lost, .int .u64 ev]) rfl g0 n (.slice A1 ys.length k1) lost ev1
      clear hC9 hA9 hc1
      go_wp2_with (first | ((with_reducible refine gate_store (p := 2) (v := .tmp 7) rfl ?_); refine Hid.out (p := _) ?_) | fail)
      refine Lib.hid ?_
      refine store_ev rfl 89 (.tmp 2) (.tmp 7) rfl (w.heap.size) 0 (qcs n (.slice A1 ys.length k1) lost ev1) rfl (q_lit n (.slice A1 ys.length k1) lost ev1) ?_ ?_ ?_ ?_
      · exact HT9
      · exact size6 _ _ _ _
      · exact qcs_one _ _ _ _ _ _
      intro w2 hw2
      obtain ⟨n2, K2⟩ := q_store (cur := #[.int .i64 n.room, .int .i64 n.depth, .bool n.newest, .slice A xs.length c, .int .u64 lost, .int .u64 ev]) rfl g0 n (.slice A1 ys.length k1) lost ev1 hw2
      have B2 := K2 bw (Nat.le_refl _) bw.size
      have S2 : ∀ k, k ≠ w.heap.size → w2.heap[k]? = w1.heap[k]? := fun k hk => by rw [hw2]; exact setCells_other _ _ _ _ k hk
      have m1 : w2.heap[w.heap.size + 1]? = some (.cells (cells x).toArray 60 (0, 0)) := (S2 _ (by omega)).trans g1
      have m2 : w2.heap[w.heap.size + 1 + 1]? = some (.cells #[.int .i64 0, .int .i64 0, .bool false, .slice none 0 0, .int .u64 0, .int .u64 0] 89 (0, 0)) := (S2 _ (by omega)).trans g2
      have s2 : w2.heap.size = w1.heap.size := by rw [hw2, setCells_size]
      have R2 : Rd ks w2 (fun k => F k ∨ (w.heap.size + 2 < k ∧ k < w2.heap.size)) (.slice A1 ys.length k1) ys := (HR1.out.same flat_ks (w' := w2) (fun k hk => S2 k (hk.elim (fun hf => Nat.ne_of_lt (HF.out k hf)) (fun hh => by have := hh.1; omega)))).mono (fun k hk => hk.imp id (fun hh => ⟨hh.1, by rw [s2]; exact hh.2⟩))
      have HM := Lib.hid (And.intro n2 (And.intro m1 (And.intro m2 (And.intro R2 B2))))
      have HLT := Lib.hid (show w.heap.size + 2 < w2.heap.size from blk_lt m2)
      clear g0 g1 g2 bw HR1 HT9 hw2 K2 B2 S2 m1 m2 R2 s2
      have c0 : w2.cell? ⟨w.heap.size, 0, none⟩ = some (.int .i64 n.room) := blk_cell n2 0
      have c1 : w2.cell? ⟨w.heap.size, 1, none⟩ = some (.int .i64 n.depth) := blk_cell n2 1
      have c2 : w2.cell? ⟨w.heap.size, 2, none⟩ = some (.bool n.newest) := blk_cell n2 2
      have c3 : w2.cell? ⟨w.heap.size, 3, none⟩ = some (.slice A1 ys.length k1) := blk_cell n2 3
      have c4 : w2.cell? ⟨w.heap.size, 4, none⟩ = some (.int .u64 lost) := blk_cell n2 4
      have c5 : w2.cell? ⟨w.heap.size, 5, none⟩ = some (.int .u64 ev1) := blk_cell n2 5
      clear n2
      have HS : Hid ((w2.setCell ⟨w.heap.size, 4, none⟩ (.int .u64 (lost + 1))).heap[w.heap.size]? = some (.cells #[.int .i64 n.room, .int .i64 n.depth, .bool n.newest, .slice A1 ys.length k1, .int .u64 (lost + 1), .int .u64 ev1] 89 (0, 0)) ∧
          (w2.setCell ⟨w.heap.size, 4, none⟩ (.int .u64 (lost + 1))).heap[w.heap.size + 1]? = some (.cells (cells x).toArray 60 (0, 0)) ∧
          (w2.setCell ⟨w.heap.size, 4, none⟩ (.int .u64 (lost + 1))).heap[w.heap.size + 1 + 1]? = some (.cells #[.int .i64 0, .int .i64 0, .bool false, .slice none 0 0, .int .u64 0, .int .u64 0] 89 (0, 0)) ∧
          Rd ks (w2.setCell ⟨w.heap.size, 4, none⟩ (.int .u64 (lost + 1))) (fun k => F k ∨ (w.heap.size + 2 < k ∧ k < w2.heap.size)) (.slice A1 ys.length k1) ys ∧ Below w.heap.size w (w2.setCell ⟨w.heap.size, 4, none⟩ (.int .u64 (lost + 1))) ∧ (w2.setCell ⟨w.heap.size, 4, none⟩ (.int .u64 (lost + 1))).heap.size = w2.heap.size) := Lib.hid ⟨blk_put HM.out.1 4 _ rfl,
        (Below.heap_setCell _ ⟨w.heap.size, 4, none⟩ _ (w.heap.size + 1) (by show w.heap.size + 1 ≠ w.heap.size; omega)).trans HM.out.2.1,
        (Below.heap_setCell _ ⟨w.heap.size, 4, none⟩ _ (w.heap.size + 1 + 1) (by show w.heap.size + 1 + 1 ≠ w.heap.size; omega)).trans HM.out.2.2.1,
        HM.out.2.2.2.1.set flat_ks (a := ⟨w.heap.size, 4, none⟩) (fun hk => hk.elim (fun hf => Nat.lt_irrefl _ (HF.out _ hf)) (fun hh => by have h9 : w.heap.size + 2 < w.heap.size := hh.1; omega)), HM.out.2.2.2.2.setCell (p := ⟨w.heap.size, 4, none⟩) (Nat.le_refl _) _, by simp [World.setCell]⟩
      have z4 := blk_frozen HM.out.1 4
      have hnt := HNT.out
      go_wp2_with fail
      clear hnt c0 c1 c2 c3 c4 c5 z4 hq h0 hll
      obtain ⟨w4, hw4⟩ : ∃ w4, w4 = w2.setCell ⟨w.heap.size, 4, none⟩ (.int .u64 (lost + 1)) := ⟨_, rfl⟩
      rw [← hw4] at HS ⊢
      clear hw4
      have RD : Rd ks w4.drew (fun k => F k ∨ (w.heap.size + 2 < k ∧ k < w2.heap.size)) (.slice A1 ys.length k1) ys := HS.out.2.2.2.1.same flat_ks (fun k _ => rfl)
      have y3 : w4.cell? ⟨w.heap.size, 3, none⟩ = some (.slice A1 ys.length k1) := blk_cell HS.out.1 3
      have n1 := HS.out.2.1
      have HKP : Hid (∀ W', Below w4.drew.heap.size w4.drew W' → W'.cell? ⟨w.heap.size, 3, none⟩ = some (.slice A1 ys.length k1) ∧ W'.heap[w.heap.size + 1]? = some (.cells (cells x).toArray 60 (0, 0))) := Lib.hid (fun W' hb => ⟨blk_cell (blk_below (w := w4.drew) HS.out.1 hb) 3, blk_below (w := w4.drew) HS.out.2.1 hb⟩)
      have HLY : Hid (ys.length * 80 ≤ 140737488355328 ∧ ((ys.drop 1).length + 1) * 80 ≤ 140737488355328) := Lib.hid (by have := HL.out; have := HPO.out; rw [List.length_drop]; omega)
      have CW1 := rwithout0 RD HPO.out HLY.out.1
      have CW2 := rwithout0 (rd_below RD (w' := w4.drew.alloc (sx x)) ((Below.refl _ _).alloc (Nat.le_refl _) _)) HPO.out HLY.out.1
      obtain ⟨zs, hzs⟩ : ∃ zs, zs = ys.drop 1 ++ [x] := ⟨_, rfl⟩
      have HZS := Lib.hid hzs
      clear RD hzs
      refine Reg.wp_plan (S := fun w' => w'.cell? ⟨w.heap.size, 3, none⟩ = some (.slice A1 ys.length k1) ∧ w'.heap[w.heap.size + 1]? = some (.cells (cells x).toArray 60 (0, 0))) 7 (.fl 0 (.fl 1 (.fl 3 (.two 2 4 (.one 4 (.one 5 (.fl 6 (.one 7 .done)))) (.one 2 (.one 5 (.fl 6 (.one 7 .done)))))))) (by kernel_rfl) (by kernel_rfl) (by kernel_rfl) (by kernel_rfl) (fun _ _ _ d _ h => by cases d <;> exact h) ?_ (fun hHeld => ?_)
      · exact ⟨y3, n1⟩
      clear y3 n1
      refine Reg.G_on (o := { dst := some 35, op := Op.fieldAddr 89 (Operand.tmp 2) 3, type := 0, pos := "ref.go:58", after := #[], guard := Option.none }) (v := ?_) (by rfl) ?_ (fun wS hSw => ?_) ?_
      rotate_left
      · kernel_rfl
      · (try dsimp only at hSw); go_simp; (try with_reducible rfl)
      try simp only [Act.put, List.setIfInBounds_toArray, List.set_cons_zero, List.set_cons_succ]
      refine Reg.G_on (o := { dst := some 36, op := Op.load 56 (Operand.tmp 35), type := 56, pos := "ref.go:58", after := #[{ on := 0, ground := Ground.data }], guard := Option.none }) (v := ?_) (by rfl) ?_ (fun wS hSw => ?_) ?_
      rotate_left
      · kernel_rfl
      · (try dsimp only at hSw); go_simp; (try with_reducible rfl)
      try simp only [Act.put, List.setIfInBounds_toArray, List.set_cons_zero, List.set_cons_succ]
      refine Reg.G_on (o := { dst := some 38, op := Op.load 60 (Operand.tmp 3), type := 60, pos := "ref.go:58", after := #[], guard := Option.none }) (v := .agg (cells x).toArray) (by rfl) ?_ (fun wS hSw => ?_) ?_
      · kernel_rfl
      · exact load_yields rfl rfl (box_range hSw.2) Try.underlying60 rfl (size23 x)
      try simp only [Act.put, List.setIfInBounds_toArray, List.set_cons_zero, List.set_cons_succ]
      refine Reg.G_two ?_ ?_
      · refine Reg.G_step (o := { dst := some 37, op := Op.call { callee := Callee.value (Operand.func 83), args := #[Operand.tmp 36, Operand.const (Value.int IntKind.i64 0)], argTypes := #[56, 3] }, type := 56, pos := "ref.go:58", after := #[{ on := 1, ground := Ground.data }], guard := Option.none }) (by rfl) ?_ (fun K hK => ?_)
        · kernel_rfl
        go_simp
        refine (CW1).mono ?_
        rintro e w' ⟨vw3, rfl, ow3, bw3⟩
        refine hK.out _ _ ?_ (fun hHeld => ?_)
        · exact HKP.out _ bw3
        clear hK K
        try simp only [Act.put, List.setIfInBounds_toArray, List.set_cons_zero, List.set_cons_succ]
        rename World => w5
        have os : Own ks 60 (w5.alloc (sx x)) (fun k => w4.drew.heap.size ≤ k ∧ k < (w5.alloc (sx x)).heap.size) vw3 (ys.drop 1) := (ow3.same flat_ks (w' := w5.alloc (sx x)) (fun k hk => Below.heap_alloc _ _ _ hk.2)).mono (fun k hk => ⟨hk.1, by rw [asz]; exact Nat.lt_succ_of_lt hk.2⟩)
        have B5 := bw3.alloc bw3.size (sx x)
        obtain ⟨v6, w6, p6, b6, r6⟩ := path4 B5.size os HLY.out.2 (heap_alloc_new w5 _)
        have B6 := B5.trans b6
        rw [← HZS.out] at r6
        have R6 : Rd ks w6 (fun k => w4.drew.heap.size ≤ k ∧ k < w6.heap.size) v6 zs := r6.mono (fun k hk => hk.elim (fun hh => ⟨hh.1, Nat.lt_of_lt_of_le hh.2 b6.size⟩) (fun hh => ⟨Nat.le_trans B5.size hh.1, hh.2⟩))
        have HB5 := Lib.hid B5
        have HR6 := Lib.hid R6
        obtain ⟨A6, k6, rfl, _, _, _⟩ := R6
        have HP6 := Lib.hid (And.intro p6 B6)
        clear p6 b6 r6 B6
        clear ow3 bw3 os B5
        skip
        refine Reg.G_step (o := { dst := some 39, op := Op.buildSlice 56 1 #[(0, Operand.tmp 38)], type := 56, pos := "ref.go:58", after := #[{ on := 3, ground := Ground.data }], guard := Option.none }) (by rfl) ?_ (fun K hK => ?_)
        · kernel_rfl
        refine build1 (x := x) rfl rfl ?_
        refine hK.out _ _ ?_ (fun hHeld => ?_)
        · exact HKP.out _ HB5.out
        clear hK K
        try simp only [Act.put, List.setIfInBounds_toArray, List.set_cons_zero, List.set_cons_succ]
        skip
        refine Reg.G_step (o := { dst := some 40, op := Op.call { callee := Callee.builtin Builtin.append, args := #[Operand.tmp 37, Operand.tmp 39], argTypes := #[56, 56] }, type := 56, pos := "ref.go:58", after := #[{ on := 2, ground := Ground.data }, { on := 4, ground := Ground.data }, { on := 2, ground := Ground.chain }], guard := Option.none }) (by rfl) ?_ (fun K hK => ?_)
        · kernel_rfl
        refine op_append (.tmp 37) (.tmp 39) 56 rfl rfl rfl HP6.out.1 ?_
        refine hK.out _ _ ?_ (fun hHeld => ?_)
        · exact HKP.out _ HP6.out.2
        clear hK K
        try simp only [Act.put, List.setIfInBounds_toArray, List.set_cons_zero, List.set_cons_succ]
        refine Reg.G_on (o := { dst := some 41, op := Op.fieldAddr 89 (Operand.tmp 2) 3, type := 0, pos := "ref.go:58", after := #[{ on := 0, ground := Ground.phase }, { on := 1, ground := Ground.phase }, { on := 2, ground := Ground.phase }, { on := 3, ground := Ground.phase }, { on := 4, ground := Ground.phase }, { on := 5, ground := Ground.phase }], guard := Option.none }) (v := ?_) (by rfl) ?_ (fun wS hSw => ?_) ?_
        rotate_left
        · kernel_rfl
        · (try dsimp only at hSw); go_simp; (try with_reducible rfl)
        try simp only [Act.put, List.setIfInBounds_toArray, List.set_cons_zero, List.set_cons_succ]
        clear hHeld
        have G6 := blk_below (w := w4.drew) HS.out.1 HP6.out.2
        have G8 := blk_below (w := w4.drew) HS.out.2.2.1 HP6.out.2
        have B8 := (HS.out.2.2.2.2.1.drew).trans (HP6.out.2.mono (show w.heap.size ≤ w4.drew.heap.size from HS.out.2.2.2.2.1.size))
        have c0 : w6.cell? ⟨w.heap.size, 0, none⟩ = some (.int .i64 n.room) := blk_cell G6 0
        have c1 : w6.cell? ⟨w.heap.size, 1, none⟩ = some (.int .i64 n.depth) := blk_cell G6 1
        have c2 : w6.cell? ⟨w.heap.size, 2, none⟩ = some (.bool n.newest) := blk_cell G6 2
        have c3 : w6.cell? ⟨w.heap.size, 3, none⟩ = some (.slice A1 ys.length k1) := blk_cell G6 3
        have c4 : w6.cell? ⟨w.heap.size, 4, none⟩ = some (.int .u64 (lost + 1)) := blk_cell G6 4
        have c5 : w6.cell? ⟨w.heap.size, 5, none⟩ = some (.int .u64 ev1) := blk_cell G6 5
        have z3 := blk_frozen G6 3
        have HG : Hid ((w6.setCell ⟨w.heap.size, 3, none⟩ (.slice A6 zs.length k6)).heap[w.heap.size + 1 + 1]? = some (.cells #[.int .i64 0, .int .i64 0, .bool false, .slice none 0 0, .int .u64 0, .int .u64 0] 89 (0, 0)) ∧ Below w.heap.size w (w6.setCell ⟨w.heap.size, 3, none⟩ (.slice A6 zs.length k6))) :=
          Lib.hid ⟨(Below.heap_setCell _ ⟨w.heap.size, 3, none⟩ _ (w.heap.size + 1 + 1) (by show w.heap.size + 1 + 1 ≠ w.heap.size; omega)).trans G8, B8.setCell (p := ⟨w.heap.size, 3, none⟩) (Nat.le_refl _) _⟩
        clear G6 G8 B8
        refine Reg.G_last (o := { dst := Option.none, op := Op.store 56 (Operand.tmp 41) (Operand.tmp 40), type := 0, pos := "ref.go:58", after := #[{ on := 6, ground := Ground.data }, { on := 5, ground := Ground.data }, { on := 5, ground := Ground.chain }, { on := 0, ground := Ground.phase }, { on := 1, ground := Ground.phase }, { on := 2, ground := Ground.phase }, { on := 3, ground := Ground.phase }, { on := 4, ground := Ground.phase }, { on := 5, ground := Ground.phase }], guard := Option.none }) (by rfl) (by rfl) ?_ (fun K hK => ?_)
        · kernel_rfl
        go_simp
        refine hK.out _ _ ?_
        clear hK K
        try simp only [Act.put, List.setIfInBounds_toArray, List.set_cons_zero, List.set_cons_succ]
        have HT9 := q_there (cur := #[.int .i64 0, .int .i64 0, .bool false, .slice none 0 0, .int .u64 0, .int .u64 0]) rfl HG.out.1 n (.slice A6 zs.length k6) (lost + 1) ev1
        go_wp2_with (first | ((with_reducible refine gate_store (p := 4) (v := .tmp 42) rfl ?_); refine Hid.out (p := _) ?_) | fail)
        refine Lib.hid ?_
        refine store_ev rfl 89 (.tmp 4) (.tmp 42) rfl (w.heap.size + 1 + 1) 0 (qcs n (.slice A6 zs.length k6) (lost + 1) ev1) rfl (q_lit n (.slice A6 zs.length k6) (lost + 1) ev1) ?_ ?_ ?_ ?_
        · exact HT9
        · exact size6 _ _ _ _
        · exact qcs_one _ _ _ _ _ _
        intro w9 hw9
        obtain ⟨n9, K9⟩ := q_store (cur := #[.int .i64 0, .int .i64 0, .bool false, .slice none 0 0, .int .u64 0, .int .u64 0]) rfl HG.out.1 n (.slice A6 zs.length k6) (lost + 1) ev1 hw9
        have B9 := K9 HG.out.2 (by omega) HG.out.2.size
        have S9 : ∀ k, w.heap.size + 2 < k → w9.heap[k]? = w6.heap[k]? := fun k hk => by
          rw [hw9, setCells_other _ _ _ _ k (by omega)]
          exact Below.heap_setCell _ ⟨w.heap.size, 3, none⟩ _ k (by show k ≠ w.heap.size; omega)
        have s9 : w9.heap.size = w6.heap.size := by rw [hw9, setCells_size]; simp [World.setCell]
        have hlt4 : w.heap.size + 2 < w4.heap.size := by rw [HS.out.2.2.2.2.2]; exact HLT.out
        have HY : Hid (Rd ks w9 (fun k => F k ∨ (w.heap.size ≤ k ∧ k < w9.heap.size)) (.slice A6 zs.length k6) zs ∧ Below w.heap.size w w9) := Lib.hid ⟨(HR6.out.same flat_ks (w' := w9) (fun k hk => S9 k (Nat.lt_of_lt_of_le hlt4 hk.1))).mono (fun k hk => .inr ⟨by have h9 : w4.heap.size ≤ k := hk.1; omega, by rw [s9]; exact hk.2⟩), B9⟩
        clear c0 c1 c2 c3 c4 c5 z3 K9 B9 HT9 S9 s9 hw9 hlt4
        have c0 : w9.cell? ⟨w.heap.size + 1 + 1, 0, none⟩ = some (.int .i64 n.room) := blk_cell n9 0
        have c1 : w9.cell? ⟨w.heap.size + 1 + 1, 1, none⟩ = some (.int .i64 n.depth) := blk_cell n9 1
        have c2 : w9.cell? ⟨w.heap.size + 1 + 1, 2, none⟩ = some (.bool n.newest) := blk_cell n9 2
        have c3 : w9.cell? ⟨w.heap.size + 1 + 1, 3, none⟩ = some (.slice A6 zs.length k6) := blk_cell n9 3
        have c4 : w9.cell? ⟨w.heap.size + 1 + 1, 4, none⟩ = some (.int .u64 (lost + 1)) := blk_cell n9 4
        have c5 : w9.cell? ⟨w.heap.size + 1 + 1, 5, none⟩ = some (.int .u64 ev1) := blk_cell n9 5
        go_wp2
        exact bodyPost_ret (v := .agg #[.int .i64 n.room, .int .i64 n.depth, .bool n.newest, .slice A6 zs.length k6, .int .u64 (lost + 1), .int .u64 ev1]) (by simp [results, Try.results54, go_sem, c0, c1, c2, c3, c4, c5]) rfl ⟨_, rfl, by rw [← HZS.out]; exact HY.out.1, HY.out.2⟩

      · refine Reg.G_step (o := { dst := some 39, op := Op.buildSlice 56 1 #[(0, Operand.tmp 38)], type := 56, pos := "ref.go:58", after := #[{ on := 3, ground := Ground.data }], guard := Option.none }) (by rfl) ?_ (fun K hK => ?_)
        · kernel_rfl
        refine build1 (x := x) rfl rfl ?_
        refine hK.out _ _ ?_ (fun hHeld => ?_)
        · exact HKP.out _ ((Below.refl _ _).alloc (Nat.le_refl _) _)
        clear hK K
        try simp only [Act.put, List.setIfInBounds_toArray, List.set_cons_zero, List.set_cons_succ]
        skip
        refine Reg.G_step (o := { dst := some 37, op := Op.call { callee := Callee.value (Operand.func 83), args := #[Operand.tmp 36, Operand.const (Value.int IntKind.i64 0)], argTypes := #[56, 3] }, type := 56, pos := "ref.go:58", after := #[{ on := 1, ground := Ground.data }], guard := Option.none }) (by rfl) ?_ (fun K hK => ?_)
        · kernel_rfl
        go_simp
        refine (CW2).mono ?_
        rintro e w' ⟨vw3, rfl, ow3, bw3⟩
        refine hK.out _ _ ?_ (fun hHeld => ?_)
        · exact HKP.out _ (((Below.refl _ _).alloc (Nat.le_refl _) _).trans (bw3.mono (by rw [asz]; omega)))
        clear hK K
        try simp only [Act.put, List.setIfInBounds_toArray, List.set_cons_zero, List.set_cons_succ]
        rename World => w5
        have B5 : Below w4.drew.heap.size w4.drew w5 := ((Below.refl _ _).alloc (Nat.le_refl _) (sx x)).trans (bw3.mono (by rw [asz]; omega))
        have hs5 := blk_below (heap_alloc_new w4.drew (sx x)) bw3
        have os : Own ks 60 w5 (fun k => w4.drew.heap.size ≤ k ∧ k < w5.heap.size) vw3 (ys.drop 1) := ow3.mono (fun k hk => ⟨by have := hk.1; rw [asz] at this; omega, hk.2⟩)
        obtain ⟨v6, w6, p6, b6, r6⟩ := path4 B5.size os HLY.out.2 hs5
        have B6 := B5.trans b6
        rw [← HZS.out] at r6
        have R6 : Rd ks w6 (fun k => w4.drew.heap.size ≤ k ∧ k < w6.heap.size) v6 zs := r6.mono (fun k hk => hk.elim (fun hh => ⟨hh.1, Nat.lt_of_lt_of_le hh.2 b6.size⟩) (fun hh => ⟨Nat.le_trans B5.size hh.1, hh.2⟩))
        have HR6 := Lib.hid R6
        obtain ⟨A6, k6, rfl, _, _, _⟩ := R6
        have HP6 := Lib.hid (And.intro p6 B6)
        clear p6 b6 r6 B6
        clear ow3 bw3 os B5 hs5
        skip
        refine Reg.G_step (o := { dst := some 40, op := Op.call { callee := Callee.builtin Builtin.append, args := #[Operand.tmp 37, Operand.tmp 39], argTypes := #[56, 56] }, type := 56, pos := "ref.go:58", after := #[{ on := 2, ground := Ground.data }, { on := 4, ground := Ground.data }, { on := 2, ground := Ground.chain }], guard := Option.none }) (by rfl) ?_ (fun K hK => ?_)
        · kernel_rfl
        refine op_append (.tmp 37) (.tmp 39) 56 rfl rfl rfl HP6.out.1 ?_
        refine hK.out _ _ ?_ (fun hHeld => ?_)
        · exact HKP.out _ HP6.out.2
        clear hK K
        try simp only [Act.put, List.setIfInBounds_toArray, List.set_cons_zero, List.set_cons_succ]
        refine Reg.G_on (o := { dst := some 41, op := Op.fieldAddr 89 (Operand.tmp 2) 3, type := 0, pos := "ref.go:58", after := #[{ on := 0, ground := Ground.phase }, { on := 1, ground := Ground.phase }, { on := 2, ground := Ground.phase }, { on := 3, ground := Ground.phase }, { on := 4, ground := Ground.phase }, { on := 5, ground := Ground.phase }], guard := Option.none }) (v := ?_) (by rfl) ?_ (fun wS hSw => ?_) ?_
        rotate_left
        · kernel_rfl
        · (try dsimp only at hSw); go_simp; (try with_reducible rfl)
        try simp only [Act.put, List.setIfInBounds_toArray, List.set_cons_zero, List.set_cons_succ]
        clear hHeld
        have G6 := blk_below (w := w4.drew) HS.out.1 HP6.out.2
        have G8 := blk_below (w := w4.drew) HS.out.2.2.1 HP6.out.2
        have B8 := (HS.out.2.2.2.2.1.drew).trans (HP6.out.2.mono (show w.heap.size ≤ w4.drew.heap.size from HS.out.2.2.2.2.1.size))
        have c0 : w6.cell? ⟨w.heap.size, 0, none⟩ = some (.int .i64 n.room) := blk_cell G6 0
        have c1 : w6.cell? ⟨w.heap.size, 1, none⟩ = some (.int .i64 n.depth) := blk_cell G6 1
        have c2 : w6.cell? ⟨w.heap.size, 2, none⟩ = some (.bool n.newest) := blk_cell G6 2
        have c3 : w6.cell? ⟨w.heap.size, 3, none⟩ = some (.slice A1 ys.length k1) := blk_cell G6 3
        have c4 : w6.cell? ⟨w.heap.size, 4, none⟩ = some (.int .u64 (lost + 1)) := blk_cell G6 4
        have c5 : w6.cell? ⟨w.heap.size, 5, none⟩ = some (.int .u64 ev1) := blk_cell G6 5
        have z3 := blk_frozen G6 3
        have HG : Hid ((w6.setCell ⟨w.heap.size, 3, none⟩ (.slice A6 zs.length k6)).heap[w.heap.size + 1 + 1]? = some (.cells #[.int .i64 0, .int .i64 0, .bool false, .slice none 0 0, .int .u64 0, .int .u64 0] 89 (0, 0)) ∧ Below w.heap.size w (w6.setCell ⟨w.heap.size, 3, none⟩ (.slice A6 zs.length k6))) :=
          Lib.hid ⟨(Below.heap_setCell _ ⟨w.heap.size, 3, none⟩ _ (w.heap.size + 1 + 1) (by show w.heap.size + 1 + 1 ≠ w.heap.size; omega)).trans G8, B8.setCell (p := ⟨w.heap.size, 3, none⟩) (Nat.le_refl _) _⟩
        clear G6 G8 B8
        refine Reg.G_last (o := { dst := Option.none, op := Op.store 56 (Operand.tmp 41) (Operand.tmp 40), type := 0, pos := "ref.go:58", after := #[{ on := 6, ground := Ground.data }, { on := 5, ground := Ground.data }, { on := 5, ground := Ground.chain }, { on := 0, ground := Ground.phase }, { on := 1, ground := Ground.phase }, { on := 2, ground := Ground.phase }, { on := 3, ground := Ground.phase }, { on := 4, ground := Ground.phase }, { on := 5, ground := Ground.phase }], guard := Option.none }) (by rfl) (by rfl) ?_ (fun K hK => ?_)
        · kernel_rfl
        go_simp
        refine hK.out _ _ ?_
        clear hK K
        try simp only [Act.put, List.setIfInBounds_toArray, List.set_cons_zero, List.set_cons_succ]
        have HT9 := q_there (cur := #[.int .i64 0, .int .i64 0, .bool false, .slice none 0 0, .int .u64 0, .int .u64 0]) rfl HG.out.1 n (.slice A6 zs.length k6) (lost + 1) ev1
        go_wp2_with (first | ((with_reducible refine gate_store (p := 4) (v := .tmp 42) rfl ?_); refine Hid.out (p := _) ?_) | fail)
        refine Lib.hid ?_
        refine store_ev rfl 89 (.tmp 4) (.tmp 42) rfl (w.heap.size + 1 + 1) 0 (qcs n (.slice A6 zs.length k6) (lost + 1) ev1) rfl (q_lit n (.slice A6 zs.length k6) (lost + 1) ev1) ?_ ?_ ?_ ?_
        · exact HT9
        · exact size6 _ _ _ _
        · exact qcs_one _ _ _ _ _ _
        intro w9 hw9
        obtain ⟨n9, K9⟩ := q_store (cur := #[.int .i64 0, .int .i64 0, .bool false, .slice none 0 0, .int .u64 0, .int .u64 0]) rfl HG.out.1 n (.slice A6 zs.length k6) (lost + 1) ev1 hw9
        have B9 := K9 HG.out.2 (by omega) HG.out.2.size
        have S9 : ∀ k, w.heap.size + 2 < k → w9.heap[k]? = w6.heap[k]? := fun k hk => by
          rw [hw9, setCells_other _ _ _ _ k (by omega)]
          exact Below.heap_setCell _ ⟨w.heap.size, 3, none⟩ _ k (by show k ≠ w.heap.size; omega)
        have s9 : w9.heap.size = w6.heap.size := by rw [hw9, setCells_size]; simp [World.setCell]
        have hlt4 : w.heap.size + 2 < w4.heap.size := by rw [HS.out.2.2.2.2.2]; exact HLT.out
        have HY : Hid (Rd ks w9 (fun k => F k ∨ (w.heap.size ≤ k ∧ k < w9.heap.size)) (.slice A6 zs.length k6) zs ∧ Below w.heap.size w w9) := Lib.hid ⟨(HR6.out.same flat_ks (w' := w9) (fun k hk => S9 k (Nat.lt_of_lt_of_le hlt4 hk.1))).mono (fun k hk => .inr ⟨by have h9 : w4.heap.size ≤ k := hk.1; omega, by rw [s9]; exact hk.2⟩), B9⟩
        clear c0 c1 c2 c3 c4 c5 z3 K9 B9 HT9 S9 s9 hw9 hlt4
        have c0 : w9.cell? ⟨w.heap.size + 1 + 1, 0, none⟩ = some (.int .i64 n.room) := blk_cell n9 0
        have c1 : w9.cell? ⟨w.heap.size + 1 + 1, 1, none⟩ = some (.int .i64 n.depth) := blk_cell n9 1
        have c2 : w9.cell? ⟨w.heap.size + 1 + 1, 2, none⟩ = some (.bool n.newest) := blk_cell n9 2
        have c3 : w9.cell? ⟨w.heap.size + 1 + 1, 3, none⟩ = some (.slice A6 zs.length k6) := blk_cell n9 3
        have c4 : w9.cell? ⟨w.heap.size + 1 + 1, 4, none⟩ = some (.int .u64 (lost + 1)) := blk_cell n9 4
        have c5 : w9.cell? ⟨w.heap.size + 1 + 1, 5, none⟩ = some (.int .u64 ev1) := blk_cell n9 5
        go_wp2
        exact bodyPost_ret (v := .agg #[.int .i64 n.room, .int .i64 n.depth, .bool n.newest, .slice A6 zs.length k6, .int .u64 (lost + 1), .int .u64 ev1]) (by simp [results, Try.results54, go_sem, c0, c1, c2, c3, c4, c5]) rfl ⟨_, rfl, by rw [← HZS.out]; exact HY.out.1, HY.out.2⟩
  · rw [if_neg hroom]
    have hq : (ys.length : Int) < n.room := by omega
    dsimp only
    clear hroom hll hr0
    go_enter Try.func54, Try.ntmps54
    go_wp2_with (first | ((with_reducible refine gate_dst (N := 6) rfl ?_); refine wpList_load_mid rfl 60 (.tmp 3) rfl (w.heap.size + 1) 0 rfl (cells x) _ rx Try.underlying60 rfl (size23 x) ?_) | fail)
    refine CE.mono ?_
    rintro e w1 ⟨v1, rfl, r1, b1⟩
    have g0 := blk_below H0.out.1 b1
    have g1 := blk_below H0.out.2.1 b1
    have g2 := blk_below H0.out.2.2.1 b1
    have bw := bstep H0.out.2.2.2 b1
    have r1' : Rd ks w1 (fun k => F k ∨ (w.heap.size + 2 < k ∧ k < w1.heap.size)) v1 ys := r1.mono (fun k hk => hk.imp id (fun hh => ⟨Nat.lt_of_lt_of_le (by simp) hh.1, hh.2⟩))
    clear r1 b1 CE rx
    obtain ⟨A1, k1, rfl, hc1, hC9, hA9⟩ := r1'
    have HR1 : Hid (Rd ks w1 (fun k => F k ∨ (w.heap.size + 2 < k ∧ k < w1.heap.size)) (.slice A1 ys.length k1) ys) := Lib.hid ⟨A1, k1, rfl, hc1, hC9, hA9⟩
    have HT9 := q_there (cur := #[.int .i64 n.room, .int .i64 n.depth, .bool n.newest, .slice A xs.length c, .int .u64 lost, .int .u64 ev]) rfl g0 n (.slice A1 ys.length k1) lost ev1
    clear hC9 hA9 hc1
    go_wp2_with (first | ((with_reducible refine gate_store (p := 2) (v := .tmp 7) rfl ?_); refine Hid.out (p := _) ?_) | fail)
    refine Lib.hid ?_
    refine store_ev rfl 89 (.tmp 2) (.tmp 7) rfl (w.heap.size) 0 (qcs n (.slice A1 ys.length k1) lost ev1) rfl (q_lit n (.slice A1 ys.length k1) lost ev1) ?_ ?_ ?_ ?_
    · exact HT9
    · exact size6 _ _ _ _
    · exact qcs_one _ _ _ _ _ _
    intro w2 hw2
    obtain ⟨n2, K2⟩ := q_store (cur := #[.int .i64 n.room, .int .i64 n.depth, .bool n.newest, .slice A xs.length c, .int .u64 lost, .int .u64 ev]) rfl g0 n (.slice A1 ys.length k1) lost ev1 hw2
    have B2 := K2 bw (Nat.le_refl _) bw.size
    have S2 : ∀ k, k ≠ w.heap.size → w2.heap[k]? = w1.heap[k]? := fun k hk => by rw [hw2]; exact setCells_other _ _ _ _ k hk
    have m1 : w2.heap[w.heap.size + 1]? = some (.cells (cells x).toArray 60 (0, 0)) := (S2 _ (by omega)).trans g1
    have m2 : w2.heap[w.heap.size + 1 + 1]? = some (.cells #[.int .i64 0, .int .i64 0, .bool false, .slice none 0 0, .int .u64 0, .int .u64 0] 89 (0, 0)) := (S2 _ (by omega)).trans g2
    have s2 : w2.heap.size = w1.heap.size := by rw [hw2, setCells_size]
    have R2 : Rd ks w2 (fun k => F k ∨ (w.heap.size + 2 < k ∧ k < w2.heap.size)) (.slice A1 ys.length k1) ys := (HR1.out.same flat_ks (w' := w2) (fun k hk => S2 k (hk.elim (fun hf => Nat.ne_of_lt (HF.out k hf)) (fun hh => by have := hh.1; omega)))).mono (fun k hk => hk.imp id (fun hh => ⟨hh.1, by rw [s2]; exact hh.2⟩))
    have HM := Lib.hid (And.intro n2 (And.intro m1 (And.intro m2 (And.intro R2 B2))))
    have HLT := Lib.hid (show w.heap.size + 2 < w2.heap.size from blk_lt m2)
    clear g0 g1 g2 bw HR1 HT9 hw2 K2 B2 S2 m1 m2 R2 s2
    have c0 : w2.cell? ⟨w.heap.size, 0, none⟩ = some (.int .i64 n.room) := blk_cell n2 0
    have c1 : w2.cell? ⟨w.heap.size, 1, none⟩ = some (.int .i64 n.depth) := blk_cell n2 1
    have c2 : w2.cell? ⟨w.heap.size, 2, none⟩ = some (.bool n.newest) := blk_cell n2 2
    have c3 : w2.cell? ⟨w.heap.size, 3, none⟩ = some (.slice A1 ys.length k1) := blk_cell n2 3
    have c4 : w2.cell? ⟨w.heap.size, 4, none⟩ = some (.int .u64 lost) := blk_cell n2 4
    have c5 : w2.cell? ⟨w.heap.size, 5, none⟩ = some (.int .u64 ev1) := blk_cell n2 5
    clear n2
    have RD : Rd ks w2.drew (fun k => F k ∨ (w.heap.size + 2 < k ∧ k < w2.heap.size)) (.slice A1 ys.length k1) ys := HM.out.2.2.2.1.same flat_ks (fun k _ => rfl)
    obtain ⟨va3, wa3, va6, wa6, pa3, ba3, pa6, ba6, ra6⟩ := path1 RD HL.out x
    obtain ⟨vb3, wb3, vb6, wb6, pb3, bb3, pb6, bb6, rb6⟩ := path2 RD HL.out x
    obtain ⟨vc3, wc3, vc6, wc6, pc3, bc3, pc6, bc6, rc6⟩ := path3 RD HL.out x
    obtain ⟨zs, hzs⟩ : ∃ zs, zs = ys ++ [x] := ⟨_, rfl⟩
    rw [← hzs] at ra6 rb6 rc6
    have HZS := Lib.hid hzs
    clear hzs
    have HKP : Hid (∀ W', Below w2.drew.heap.size w2.drew W' → W'.cell? ⟨w.heap.size, 3, none⟩ = some (.slice A1 ys.length k1) ∧ W'.heap[w.heap.size + 1]? = some (.cells (cells x).toArray 60 (0, 0))) := Lib.hid (fun W' hb => ⟨blk_cell (blk_below (w := w2.drew) HM.out.1 hb) 3, blk_below (w := w2.drew) HM.out.2.1 hb⟩)
    have HA := Lib.hid (And.intro pa3 (And.intro ba3 (And.intro pa6 (And.intro ba6 ra6))))
    have HB := Lib.hid (And.intro pb3 (And.intro bb3 (And.intro pb6 (And.intro bb6 rb6))))
    have HC := Lib.hid (And.intro pc3 (And.intro bc3 (And.intro pc6 (And.intro bc6 rc6))))
    have y3 := c3
    have n1 := HM.out.2.1
    obtain ⟨Aa, ka, rfl, _, _, _⟩ := ra6
    obtain ⟨Ab, kb, rfl, _, _, _⟩ := rb6
    obtain ⟨Ac, kc, rfl, _, _, _⟩ := rc6
    clear pa3 pa6 ba3 ba6 pb3 pb6 bb3 bb6 pc3 pc6 bc3 bc6 RD
    go_wp2_with fail
    refine Reg.wp_plan (S := fun w' => w'.cell? ⟨w.heap.size, 3, none⟩ = some (.slice A1 ys.length k1) ∧ w'.heap[w.heap.size + 1]? = some (.cells (cells x).toArray 60 (0, 0))) 8 (.fl 1 (.fl 2 (.fl 4 (.two 0 5 (.two 3 5 (.one 5 (.one 6 (.fl 7 (.one 8 .done)))) (.one 3 (.one 6 (.fl 7 (.one 8 .done))))) (.one 0 (.one 3 (.one 6 (.fl 7 (.one 8 .done))))))))) (by kernel_rfl) (by kernel_rfl) (by kernel_rfl) (by kernel_rfl) (fun _ _ _ d _ h => by cases d <;> exact h) ?_ (fun hHeld => ?_)
    · exact ⟨y3, n1⟩
    clear c0 c1 c2 c3 c4 c5 y3 n1
    refine Reg.G_on (o := { dst := some 15, op := Op.fieldAddr 89 (Operand.tmp 2) 3, type := 0, pos := "ref.go:53", after := #[], guard := Option.none }) (v := ?_) (by rfl) ?_ (fun wS hSw => ?_) ?_
    rotate_left
    · kernel_rfl
    · (try dsimp only at hSw); go_simp; (try with_reducible rfl)
    try simp only [Act.put, List.setIfInBounds_toArray, List.set_cons_zero, List.set_cons_succ]
    refine Reg.G_on (o := { dst := some 16, op := Op.load 56 (Operand.tmp 15), type := 56, pos := "ref.go:53", after := #[{ on := 1, ground := Ground.data }], guard := Option.none }) (v := ?_) (by rfl) ?_ (fun wS hSw => ?_) ?_
    rotate_left
    · kernel_rfl
    · (try dsimp only at hSw); go_simp; (try with_reducible rfl)
    try simp only [Act.put, List.setIfInBounds_toArray, List.set_cons_zero, List.set_cons_succ]
    refine Reg.G_on (o := { dst := some 18, op := Op.load 60 (Operand.tmp 3), type := 60, pos := "ref.go:53", after := #[], guard := Option.none }) (v := .agg (cells x).toArray) (by rfl) ?_ (fun wS hSw => ?_) ?_
    · kernel_rfl
    · exact load_yields rfl rfl (box_range hSw.2) Try.underlying60 rfl (size23 x)
    try simp only [Act.put, List.setIfInBounds_toArray, List.set_cons_zero, List.set_cons_succ]
    refine Reg.G_two ?_ ?_
    · refine Reg.G_step (o := { dst := some 14, op := Op.buildSlice 56 0 #[], type := 56, pos := "ref.go:53", after := #[], guard := Option.none }) (by rfl) ?_ (fun K hK => ?_)
      · kernel_rfl
      refine build0 rfl ?_
      refine hK.out _ _ ?_ (fun hHeld => ?_)
      · exact HKP.out _ ((Below.refl _ _).alloc (Nat.le_refl _) _)
      clear hK K
      try simp only [Act.put, List.setIfInBounds_toArray, List.set_cons_zero, List.set_cons_succ]
      skip
      refine Reg.G_two ?_ ?_
      · refine Reg.G_step (o := { dst := some 17, op := Op.call { callee := Callee.builtin Builtin.append, args := #[Operand.tmp 14, Operand.tmp 16], argTypes := #[56, 56] }, type := 56, pos := "ref.go:53", after := #[{ on := 0, ground := Ground.data }, { on := 2, ground := Ground.data }], guard := Option.none }) (by rfl) ?_ (fun K hK => ?_)
        · kernel_rfl
        refine op_append (.tmp 14) (.tmp 16) 56 rfl rfl rfl HA.out.1 ?_
        refine hK.out _ _ ?_ (fun hHeld => ?_)
        · exact HKP.out _ HA.out.2.1
        clear hK K
        try simp only [Act.put, List.setIfInBounds_toArray, List.set_cons_zero, List.set_cons_succ]
        skip
        refine Reg.G_step (o := { dst := some 19, op := Op.buildSlice 56 1 #[(0, Operand.tmp 18)], type := 56, pos := "ref.go:53", after := #[{ on := 4, ground := Ground.data }], guard := Option.none }) (by rfl) ?_ (fun K hK => ?_)
        · kernel_rfl
        refine build1 (x := x) rfl rfl ?_
        refine hK.out _ _ ?_ (fun hHeld => ?_)
        · exact HKP.out _ (HA.out.2.1.alloc HA.out.2.1.size _)
        clear hK K
        try simp only [Act.put, List.setIfInBounds_toArray, List.set_cons_zero, List.set_cons_succ]
        skip
        refine Reg.G_step (o := { dst := some 20, op := Op.call { callee := Callee.builtin Builtin.append, args := #[Operand.tmp 17, Operand.tmp 19], argTypes := #[56, 56] }, type := 56, pos := "ref.go:53", after := #[{ on := 3, ground := Ground.data }, { on := 5, ground := Ground.data }, { on := 3, ground := Ground.chain }], guard := Option.none }) (by rfl) ?_ (fun K hK => ?_)
        · kernel_rfl
        refine op_append (.tmp 17) (.tmp 19) 56 rfl rfl rfl HA.out.2.2.1 ?_
        refine hK.out _ _ ?_ (fun hHeld => ?_)
        · exact HKP.out _ HA.out.2.2.2.1
        clear hK K
        try simp only [Act.put, List.setIfInBounds_toArray, List.set_cons_zero, List.set_cons_succ]
        refine Reg.G_on (o := { dst := some 21, op := Op.fieldAddr 89 (Operand.tmp 2) 3, type := 0, pos := "ref.go:53", after := #[{ on := 0, ground := Ground.phase }, { on := 1, ground := Ground.phase }, { on := 2, ground := Ground.phase }, { on := 3, ground := Ground.phase }, { on := 4, ground := Ground.phase }, { on := 5, ground := Ground.phase }, { on := 6, ground := Ground.phase }], guard := Option.none }) (v := ?_) (by rfl) ?_ (fun wS hSw => ?_) ?_
        rotate_left
        · kernel_rfl
        · (try dsimp only at hSw); go_simp; (try with_reducible rfl)
        try simp only [Act.put, List.setIfInBounds_toArray, List.set_cons_zero, List.set_cons_succ]
        clear hHeld
        have G6 := blk_below (w := w2.drew) HM.out.1 HA.out.2.2.2.1
        have G8 := blk_below (w := w2.drew) HM.out.2.2.1 HA.out.2.2.2.1
        have B8 := (HM.out.2.2.2.2.drew).trans (HA.out.2.2.2.1.mono (show w.heap.size ≤ w2.drew.heap.size from HM.out.2.2.2.2.size))
        have c0 : wa6.cell? ⟨w.heap.size, 0, none⟩ = some (.int .i64 n.room) := blk_cell G6 0
        have c1 : wa6.cell? ⟨w.heap.size, 1, none⟩ = some (.int .i64 n.depth) := blk_cell G6 1
        have c2 : wa6.cell? ⟨w.heap.size, 2, none⟩ = some (.bool n.newest) := blk_cell G6 2
        have c3 : wa6.cell? ⟨w.heap.size, 3, none⟩ = some (.slice A1 ys.length k1) := blk_cell G6 3
        have c4 : wa6.cell? ⟨w.heap.size, 4, none⟩ = some (.int .u64 lost) := blk_cell G6 4
        have c5 : wa6.cell? ⟨w.heap.size, 5, none⟩ = some (.int .u64 ev1) := blk_cell G6 5
        have z3 := blk_frozen G6 3
        have HG : Hid ((wa6.setCell ⟨w.heap.size, 3, none⟩ (.slice Aa zs.length ka)).heap[w.heap.size + 1 + 1]? = some (.cells #[.int .i64 0, .int .i64 0, .bool false, .slice none 0 0, .int .u64 0, .int .u64 0] 89 (0, 0)) ∧ Below w.heap.size w (wa6.setCell ⟨w.heap.size, 3, none⟩ (.slice Aa zs.length ka))) :=
          Lib.hid ⟨(Below.heap_setCell _ ⟨w.heap.size, 3, none⟩ _ (w.heap.size + 1 + 1) (by show w.heap.size + 1 + 1 ≠ w.heap.size; omega)).trans G8, B8.setCell (p := ⟨w.heap.size, 3, none⟩) (Nat.le_refl _) _⟩
        clear G6 G8 B8
        refine Reg.G_last (o := { dst := Option.none, op := Op.store 56 (Operand.tmp 21) (Operand.tmp 20), type := 0, pos := "ref.go:53", after := #[{ on := 7, ground := Ground.data }, { on := 6, ground := Ground.data }, { on := 6, ground := Ground.chain }, { on := 0, ground := Ground.phase }, { on := 1, ground := Ground.phase }, { on := 2, ground := Ground.phase }, { on := 3, ground := Ground.phase }, { on := 4, ground := Ground.phase }, { on := 5, ground := Ground.phase }, { on := 6, ground := Ground.phase }], guard := Option.none }) (by rfl) (by rfl) ?_ (fun K hK => ?_)
        · kernel_rfl
        go_simp
        refine hK.out _ _ ?_
        clear hK K
        try simp only [Act.put, List.setIfInBounds_toArray, List.set_cons_zero, List.set_cons_succ]
        have HT9 := q_there (cur := #[.int .i64 0, .int .i64 0, .bool false, .slice none 0 0, .int .u64 0, .int .u64 0]) rfl HG.out.1 n (.slice Aa zs.length ka) lost ev1
        go_wp2_with (first | ((with_reducible refine gate_store (p := 4) (v := .tmp 22) rfl ?_); refine Hid.out (p := _) ?_) | fail)
        refine Lib.hid ?_
        refine store_ev rfl 89 (.tmp 4) (.tmp 22) rfl (w.heap.size + 1 + 1) 0 (qcs n (.slice Aa zs.length ka) lost ev1) rfl (q_lit n (.slice Aa zs.length ka) lost ev1) ?_ ?_ ?_ ?_
        · exact HT9
        · exact size6 _ _ _ _
        · exact qcs_one _ _ _ _ _ _
        intro w9 hw9
        obtain ⟨n9, K9⟩ := q_store (cur := #[.int .i64 0, .int .i64 0, .bool false, .slice none 0 0, .int .u64 0, .int .u64 0]) rfl HG.out.1 n (.slice Aa zs.length ka) lost ev1 hw9
        have B9 := K9 HG.out.2 (by omega) HG.out.2.size
        have S9 : ∀ k, w.heap.size + 2 < k → w9.heap[k]? = wa6.heap[k]? := fun k hk => by
          rw [hw9, setCells_other _ _ _ _ k (by omega)]
          exact Below.heap_setCell _ ⟨w.heap.size, 3, none⟩ _ k (by show k ≠ w.heap.size; omega)
        have s9 : w9.heap.size = wa6.heap.size := by rw [hw9, setCells_size]; simp [World.setCell]
        have HY : Hid (Rd ks w9 (fun k => F k ∨ (w.heap.size ≤ k ∧ k < w9.heap.size)) (.slice Aa zs.length ka) zs ∧ Below w.heap.size w w9) := Lib.hid ⟨(HA.out.2.2.2.2.same flat_ks (fun k hk => S9 k (Nat.lt_of_lt_of_le HLT.out hk.1))).mono (fun k hk => .inr ⟨by have := HLT.out; have h9 : w2.heap.size ≤ k := hk.1; omega, by rw [s9]; exact hk.2⟩), B9⟩
        clear c0 c1 c2 c3 c4 c5 z3 K9 B9 HT9 S9 s9 hw9
        have c0 : w9.cell? ⟨w.heap.size + 1 + 1, 0, none⟩ = some (.int .i64 n.room) := blk_cell n9 0
        have c1 : w9.cell? ⟨w.heap.size + 1 + 1, 1, none⟩ = some (.int .i64 n.depth) := blk_cell n9 1
        have c2 : w9.cell? ⟨w.heap.size + 1 + 1, 2, none⟩ = some (.bool n.newest) := blk_cell n9 2
        have c3 : w9.cell? ⟨w.heap.size + 1 + 1, 3, none⟩ = some (.slice Aa zs.length ka) := blk_cell n9 3
        have c4 : w9.cell? ⟨w.heap.size + 1 + 1, 4, none⟩ = some (.int .u64 lost) := blk_cell n9 4
        have c5 : w9.cell? ⟨w.heap.size + 1 + 1, 5, none⟩ = some (.int .u64 ev1) := blk_cell n9 5
        go_wp2
        exact bodyPost_ret (v := .agg #[.int .i64 n.room, .int .i64 n.depth, .bool n.newest, .slice Aa zs.length ka, .int .u64 lost, .int .u64 ev1]) (by simp [results, Try.results54, go_sem, c0, c1, c2, c3, c4, c5]) rfl ⟨_, rfl, by rw [← HZS.out]; exact HY.out.1, HY.out.2⟩

      · refine Reg.G_step (o := { dst := some 19, op := Op.buildSlice 56 1 #[(0, Operand.tmp 18)], type := 56, pos := "ref.go:53", after := #[{ on := 4, ground := Ground.data }], guard := Option.none }) (by rfl) ?_ (fun K hK => ?_)
        · kernel_rfl
        refine build1 (x := x) rfl rfl ?_
        refine hK.out _ _ ?_ (fun hHeld => ?_)
        · exact HKP.out _ (((Below.refl _ _).alloc (Nat.le_refl _) _).alloc (by rw [asz]; omega) _)
        clear hK K
        try simp only [Act.put, List.setIfInBounds_toArray, List.set_cons_zero, List.set_cons_succ]
        skip
        refine Reg.G_step (o := { dst := some 17, op := Op.call { callee := Callee.builtin Builtin.append, args := #[Operand.tmp 14, Operand.tmp 16], argTypes := #[56, 56] }, type := 56, pos := "ref.go:53", after := #[{ on := 0, ground := Ground.data }, { on := 2, ground := Ground.data }], guard := Option.none }) (by rfl) ?_ (fun K hK => ?_)
        · kernel_rfl
        refine op_append (.tmp 14) (.tmp 16) 56 rfl rfl rfl HB.out.1 ?_
        refine hK.out _ _ ?_ (fun hHeld => ?_)
        · exact HKP.out _ HB.out.2.1
        clear hK K
        try simp only [Act.put, List.setIfInBounds_toArray, List.set_cons_zero, List.set_cons_succ]
        skip
        refine Reg.G_step (o := { dst := some 20, op := Op.call { callee := Callee.builtin Builtin.append, args := #[Operand.tmp 17, Operand.tmp 19], argTypes := #[56, 56] }, type := 56, pos := "ref.go:53", after := #[{ on := 3, ground := Ground.data }, { on := 5, ground := Ground.data }, { on := 3, ground := Ground.chain }], guard := Option.none }) (by rfl) ?_ (fun K hK => ?_)
        · kernel_rfl
        refine op_append (.tmp 17) (.tmp 19) 56 rfl rfl rfl HB.out.2.2.1 ?_
        refine hK.out _ _ ?_ (fun hHeld => ?_)
        · exact HKP.out _ HB.out.2.2.2.1
        clear hK K
        try simp only [Act.put, List.setIfInBounds_toArray, List.set_cons_zero, List.set_cons_succ]
        refine Reg.G_on (o := { dst := some 21, op := Op.fieldAddr 89 (Operand.tmp 2) 3, type := 0, pos := "ref.go:53", after := #[{ on := 0, ground := Ground.phase }, { on := 1, ground := Ground.phase }, { on := 2, ground := Ground.phase }, { on := 3, ground := Ground.phase }, { on := 4, ground := Ground.phase }, { on := 5, ground := Ground.phase }, { on := 6, ground := Ground.phase }], guard := Option.none }) (v := ?_) (by rfl) ?_ (fun wS hSw => ?_) ?_
        rotate_left
        · kernel_rfl
        · (try dsimp only at hSw); go_simp; (try with_reducible rfl)
        try simp only [Act.put, List.setIfInBounds_toArray, List.set_cons_zero, List.set_cons_succ]
        clear hHeld
        have G6 := blk_below (w := w2.drew) HM.out.1 HB.out.2.2.2.1
        have G8 := blk_below (w := w2.drew) HM.out.2.2.1 HB.out.2.2.2.1
        have B8 := (HM.out.2.2.2.2.drew).trans (HB.out.2.2.2.1.mono (show w.heap.size ≤ w2.drew.heap.size from HM.out.2.2.2.2.size))
        have c0 : wb6.cell? ⟨w.heap.size, 0, none⟩ = some (.int .i64 n.room) := blk_cell G6 0
        have c1 : wb6.cell? ⟨w.heap.size, 1, none⟩ = some (.int .i64 n.depth) := blk_cell G6 1
        have c2 : wb6.cell? ⟨w.heap.size, 2, none⟩ = some (.bool n.newest) := blk_cell G6 2
        have c3 : wb6.cell? ⟨w.heap.size, 3, none⟩ = some (.slice A1 ys.length k1) := blk_cell G6 3
        have c4 : wb6.cell? ⟨w.heap.size, 4, none⟩ = some (.int .u64 lost) := blk_cell G6 4
        have c5 : wb6.cell? ⟨w.heap.size, 5, none⟩ = some (.int .u64 ev1) := blk_cell G6 5
        have z3 := blk_frozen G6 3
        have HG : Hid ((wb6.setCell ⟨w.heap.size, 3, none⟩ (.slice Ab zs.length kb)).heap[w.heap.size + 1 + 1]? = some (.cells #[.int .i64 0, .int .i64 0, .bool false, .slice none 0 0, .int .u64 0, .int .u64 0] 89 (0, 0)) ∧ Below w.heap.size w (wb6.setCell ⟨w.heap.size, 3, none⟩ (.slice Ab zs.length kb))) :=
          Lib.hid ⟨(Below.heap_setCell _ ⟨w.heap.size, 3, none⟩ _ (w.heap.size + 1 + 1) (by show w.heap.size + 1 + 1 ≠ w.heap.size; omega)).trans G8, B8.setCell (p := ⟨w.heap.size, 3, none⟩) (Nat.le_refl _) _⟩
        clear G6 G8 B8
        refine Reg.G_last (o := { dst := Option.none, op := Op.store 56 (Operand.tmp 21) (Operand.tmp 20), type := 0, pos := "ref.go:53", after := #[{ on := 7, ground := Ground.data }, { on := 6, ground := Ground.data }, { on := 6, ground := Ground.chain }, { on := 0, ground := Ground.phase }, { on := 1, ground := Ground.phase }, { on := 2, ground := Ground.phase }, { on := 3, ground := Ground.phase }, { on := 4, ground := Ground.phase }, { on := 5, ground := Ground.phase }, { on := 6, ground := Ground.phase }], guard := Option.none }) (by rfl) (by rfl) ?_ (fun K hK => ?_)
        · kernel_rfl
        go_simp
        refine hK.out _ _ ?_
        clear hK K
        try simp only [Act.put, List.setIfInBounds_toArray, List.set_cons_zero, List.set_cons_succ]
        have HT9 := q_there (cur := #[.int .i64 0, .int .i64 0, .bool false, .slice none 0 0, .int .u64 0, .int .u64 0]) rfl HG.out.1 n (.slice Ab zs.length kb) lost ev1
        go_wp2_with (first | ((with_reducible refine gate_store (p := 4) (v := .tmp 22) rfl ?_); refine Hid.out (p := _) ?_) | fail)
        refine Lib.hid ?_
        refine store_ev rfl 89 (.tmp 4) (.tmp 22) rfl (w.heap.size + 1 + 1) 0 (qcs n (.slice Ab zs.length kb) lost ev1) rfl (q_lit n (.slice Ab zs.length kb) lost ev1) ?_ ?_ ?_ ?_
        · exact HT9
        · exact size6 _ _ _ _
        · exact qcs_one _ _ _ _ _ _
        intro w9 hw9
        obtain ⟨n9, K9⟩ := q_store (cur := #[.int .i64 0, .int .i64 0, .bool false, .slice none 0 0, .int .u64 0, .int .u64 0]) rfl HG.out.1 n (.slice Ab zs.length kb) lost ev1 hw9
        have B9 := K9 HG.out.2 (by omega) HG.out.2.size
        have S9 : ∀ k, w.heap.size + 2 < k → w9.heap[k]? = wb6.heap[k]? := fun k hk => by
          rw [hw9, setCells_other _ _ _ _ k (by omega)]
          exact Below.heap_setCell _ ⟨w.heap.size, 3, none⟩ _ k (by show k ≠ w.heap.size; omega)
        have s9 : w9.heap.size = wb6.heap.size := by rw [hw9, setCells_size]; simp [World.setCell]
        have HY : Hid (Rd ks w9 (fun k => F k ∨ (w.heap.size ≤ k ∧ k < w9.heap.size)) (.slice Ab zs.length kb) zs ∧ Below w.heap.size w w9) := Lib.hid ⟨(HB.out.2.2.2.2.same flat_ks (fun k hk => S9 k (Nat.lt_of_lt_of_le HLT.out hk.1))).mono (fun k hk => .inr ⟨by have := HLT.out; have h9 : w2.heap.size ≤ k := hk.1; omega, by rw [s9]; exact hk.2⟩), B9⟩
        clear c0 c1 c2 c3 c4 c5 z3 K9 B9 HT9 S9 s9 hw9
        have c0 : w9.cell? ⟨w.heap.size + 1 + 1, 0, none⟩ = some (.int .i64 n.room) := blk_cell n9 0
        have c1 : w9.cell? ⟨w.heap.size + 1 + 1, 1, none⟩ = some (.int .i64 n.depth) := blk_cell n9 1
        have c2 : w9.cell? ⟨w.heap.size + 1 + 1, 2, none⟩ = some (.bool n.newest) := blk_cell n9 2
        have c3 : w9.cell? ⟨w.heap.size + 1 + 1, 3, none⟩ = some (.slice Ab zs.length kb) := blk_cell n9 3
        have c4 : w9.cell? ⟨w.heap.size + 1 + 1, 4, none⟩ = some (.int .u64 lost) := blk_cell n9 4
        have c5 : w9.cell? ⟨w.heap.size + 1 + 1, 5, none⟩ = some (.int .u64 ev1) := blk_cell n9 5
        go_wp2
        exact bodyPost_ret (v := .agg #[.int .i64 n.room, .int .i64 n.depth, .bool n.newest, .slice Ab zs.length kb, .int .u64 lost, .int .u64 ev1]) (by simp [results, Try.results54, go_sem, c0, c1, c2, c3, c4, c5]) rfl ⟨_, rfl, by rw [← HZS.out]; exact HY.out.1, HY.out.2⟩

    · refine Reg.G_step (o := { dst := some 19, op := Op.buildSlice 56 1 #[(0, Operand.tmp 18)], type := 56, pos := "ref.go:53", after := #[{ on := 4, ground := Ground.data }], guard := Option.none }) (by rfl) ?_ (fun K hK => ?_)
      · kernel_rfl
      refine build1 (x := x) rfl rfl ?_
      refine hK.out _ _ ?_ (fun hHeld => ?_)
      · exact HKP.out _ ((Below.refl _ _).alloc (Nat.le_refl _) _)
      clear hK K
      try simp only [Act.put, List.setIfInBounds_toArray, List.set_cons_zero, List.set_cons_succ]
      skip
      refine Reg.G_step (o := { dst := some 14, op := Op.buildSlice 56 0 #[], type := 56, pos := "ref.go:53", after := #[], guard := Option.none }) (by rfl) ?_ (fun K hK => ?_)
      · kernel_rfl
      refine build0 rfl ?_
      refine hK.out _ _ ?_ (fun hHeld => ?_)
      · exact HKP.out _ (((Below.refl _ _).alloc (Nat.le_refl _) _).alloc (by rw [asz]; omega) _)
      clear hK K
      try simp only [Act.put, List.setIfInBounds_toArray, List.set_cons_zero, List.set_cons_succ]
      skip
      refine Reg.G_step (o := { dst := some 17, op := Op.call { callee := Callee.builtin Builtin.append, args := #[Operand.tmp 14, Operand.tmp 16], argTypes := #[56, 56] }, type := 56, pos := "ref.go:53", after := #[{ on := 0, ground := Ground.data }, { on := 2, ground := Ground.data }], guard := Option.none }) (by rfl) ?_ (fun K hK => ?_)
      · kernel_rfl
      refine op_append (.tmp 14) (.tmp 16) 56 rfl rfl rfl HC.out.1 ?_
      refine hK.out _ _ ?_ (fun hHeld => ?_)
      · exact HKP.out _ HC.out.2.1
      clear hK K
      try simp only [Act.put, List.setIfInBounds_toArray, List.set_cons_zero, List.set_cons_succ]
      skip
      refine Reg.G_step (o := { dst := some 20, op := Op.call { callee := Callee.builtin Builtin.append, args := #[Operand.tmp 17, Operand.tmp 19], argTypes := #[56, 56] }, type := 56, pos := "ref.go:53", after := #[{ on := 3, ground := Ground.data }, { on := 5, ground := Ground.data }, { on := 3, ground := Ground.chain }], guard := Option.none }) (by rfl) ?_ (fun K hK => ?_)
      · kernel_rfl
      refine op_append (.tmp 17) (.tmp 19) 56 rfl rfl rfl HC.out.2.2.1 ?_
      refine hK.out _ _ ?_ (fun hHeld => ?_)
      · exact HKP.out _ HC.out.2.2.2.1
      clear hK K
      try simp only [Act.put, List.setIfInBounds_toArray, List.set_cons_zero, List.set_cons_succ]
      refine Reg.G_on (o := { dst := some 21, op := Op.fieldAddr 89 (Operand.tmp 2) 3, type := 0, pos := "ref.go:53", after := #[{ on := 0, ground := Ground.phase }, { on := 1, ground := Ground.phase }, { on := 2, ground := Ground.phase }, { on := 3, ground := Ground.phase }, { on := 4, ground := Ground.phase }, { on := 5, ground := Ground.phase }, { on := 6, ground := Ground.phase }], guard := Option.none }) (v := ?_) (by rfl) ?_ (fun wS hSw => ?_) ?_
      rotate_left
      · kernel_rfl
      · (try dsimp only at hSw); go_simp; (try with_reducible rfl)
      try simp only [Act.put, List.setIfInBounds_toArray, List.set_cons_zero, List.set_cons_succ]
      clear hHeld
      have G6 := blk_below (w := w2.drew) HM.out.1 HC.out.2.2.2.1
      have G8 := blk_below (w := w2.drew) HM.out.2.2.1 HC.out.2.2.2.1
      have B8 := (HM.out.2.2.2.2.drew).trans (HC.out.2.2.2.1.mono (show w.heap.size ≤ w2.drew.heap.size from HM.out.2.2.2.2.size))
      have c0 : wc6.cell? ⟨w.heap.size, 0, none⟩ = some (.int .i64 n.room) := blk_cell G6 0
      have c1 : wc6.cell? ⟨w.heap.size, 1, none⟩ = some (.int .i64 n.depth) := blk_cell G6 1
      have c2 : wc6.cell? ⟨w.heap.size, 2, none⟩ = some (.bool n.newest) := blk_cell G6 2
      have c3 : wc6.cell? ⟨w.heap.size, 3, none⟩ = some (.slice A1 ys.length k1) := blk_cell G6 3
      have c4 : wc6.cell? ⟨w.heap.size, 4, none⟩ = some (.int .u64 lost) := blk_cell G6 4
      have c5 : wc6.cell? ⟨w.heap.size, 5, none⟩ = some (.int .u64 ev1) := blk_cell G6 5
      have z3 := blk_frozen G6 3
      have HG : Hid ((wc6.setCell ⟨w.heap.size, 3, none⟩ (.slice Ac zs.length kc)).heap[w.heap.size + 1 + 1]? = some (.cells #[.int .i64 0, .int .i64 0, .bool false, .slice none 0 0, .int .u64 0, .int .u64 0] 89 (0, 0)) ∧ Below w.heap.size w (wc6.setCell ⟨w.heap.size, 3, none⟩ (.slice Ac zs.length kc))) :=
        Lib.hid ⟨(Below.heap_setCell _ ⟨w.heap.size, 3, none⟩ _ (w.heap.size + 1 + 1) (by show w.heap.size + 1 + 1 ≠ w.heap.size; omega)).trans G8, B8.setCell (p := ⟨w.heap.size, 3, none⟩) (Nat.le_refl _) _⟩
      clear G6 G8 B8
      refine Reg.G_last (o := { dst := Option.none, op := Op.store 56 (Operand.tmp 21) (Operand.tmp 20), type := 0, pos := "ref.go:53", after := #[{ on := 7, ground := Ground.data }, { on := 6, ground := Ground.data }, { on := 6, ground := Ground.chain }, { on := 0, ground := Ground.phase }, { on := 1, ground := Ground.phase }, { on := 2, ground := Ground.phase }, { on := 3, ground := Ground.phase }, { on := 4, ground := Ground.phase }, { on := 5, ground := Ground.phase }, { on := 6, ground := Ground.phase }], guard := Option.none }) (by rfl) (by rfl) ?_ (fun K hK => ?_)
      · kernel_rfl
      go_simp
      refine hK.out _ _ ?_
      clear hK K
      try simp only [Act.put, List.setIfInBounds_toArray, List.set_cons_zero, List.set_cons_succ]
      have HT9 := q_there (cur := #[.int .i64 0, .int .i64 0, .bool false, .slice none 0 0, .int .u64 0, .int .u64 0]) rfl HG.out.1 n (.slice Ac zs.length kc) lost ev1
      go_wp2_with (first | ((with_reducible refine gate_store (p := 4) (v := .tmp 22) rfl ?_); refine Hid.out (p := _) ?_) | fail)
      refine Lib.hid ?_
      refine store_ev rfl 89 (.tmp 4) (.tmp 22) rfl (w.heap.size + 1 + 1) 0 (qcs n (.slice Ac zs.length kc) lost ev1) rfl (q_lit n (.slice Ac zs.length kc) lost ev1) ?_ ?_ ?_ ?_
      · exact HT9
      · exact size6 _ _ _ _
      · exact qcs_one _ _ _ _ _ _
      intro w9 hw9
      obtain ⟨n9, K9⟩ := q_store (cur := #[.int .i64 0, .int .i64 0, .bool false, .slice none 0 0, .int .u64 0, .int .u64 0]) rfl HG.out.1 n (.slice Ac zs.length kc) lost ev1 hw9
      have B9 := K9 HG.out.2 (by omega) HG.out.2.size
      have S9 : ∀ k, w.heap.size + 2 < k → w9.heap[k]? = wc6.heap[k]? := fun k hk => by
        rw [hw9, setCells_other _ _ _ _ k (by omega)]
        exact Below.heap_setCell _ ⟨w.heap.size, 3, none⟩ _ k (by show k ≠ w.heap.size; omega)
      have s9 : w9.heap.size = wc6.heap.size := by rw [hw9, setCells_size]; simp [World.setCell]
      have HY : Hid (Rd ks w9 (fun k => F k ∨ (w.heap.size ≤ k ∧ k < w9.heap.size)) (.slice Ac zs.length kc) zs ∧ Below w.heap.size w w9) := Lib.hid ⟨(HC.out.2.2.2.2.same flat_ks (fun k hk => S9 k (Nat.lt_of_lt_of_le HLT.out hk.1))).mono (fun k hk => .inr ⟨by have := HLT.out; have h9 : w2.heap.size ≤ k := hk.1; omega, by rw [s9]; exact hk.2⟩), B9⟩
      clear c0 c1 c2 c3 c4 c5 z3 K9 B9 HT9 S9 s9 hw9
      have c0 : w9.cell? ⟨w.heap.size + 1 + 1, 0, none⟩ = some (.int .i64 n.room) := blk_cell n9 0
      have c1 : w9.cell? ⟨w.heap.size + 1 + 1, 1, none⟩ = some (.int .i64 n.depth) := blk_cell n9 1
      have c2 : w9.cell? ⟨w.heap.size + 1 + 1, 2, none⟩ = some (.bool n.newest) := blk_cell n9 2
      have c3 : w9.cell? ⟨w.heap.size + 1 + 1, 3, none⟩ = some (.slice Ac zs.length kc) := blk_cell n9 3
      have c4 : w9.cell? ⟨w.heap.size + 1 + 1, 4, none⟩ = some (.int .u64 lost) := blk_cell n9 4
      have c5 : w9.cell? ⟨w.heap.size + 1 + 1, 5, none⟩ = some (.int .u64 ev1) := blk_cell n9 5
      go_wp2
      exact bodyPost_ret (v := .agg #[.int .i64 n.room, .int .i64 n.depth, .bool n.newest, .slice Ac zs.length kc, .int .u64 lost, .int .u64 ev1]) (by simp [results, Try.results54, go_sem, c0, c1, c2, c3, c4, c5]) rfl ⟨_, rfl, by rw [← HZS.out]; exact HY.out.1, HY.out.2⟩
end Go.Proofs.Ytimalojaiaofkaa.Rng
namespace Go.Proofs.Ytimalojaiaofkaa.Rng
open Go.RowKit Base Sp Flat Go.Proofs.YtimalojaiaofkaaW.PrintWords Go.Shelf Smp His
theorem addz (a : Addr) : a.add 0 = a := by unfold Addr.add; rw [if_pos rfl]
/-- What an expiry keeps. -/
def keepr (now f : Int) (x : Smp) : Bool := decide (f ≤ 0) || !oldr now f x
theorem expm_keep (now f : Int) (xs : List Smp) : expm now f xs = xs.filter (keepr now f) := by
  unfold expm
  split
  · rename_i hf
    refine (List.filter_eq_self.2 fun x _ => ?_).symm
    unfold keepr
    rw [decide_eq_true hf, Bool.true_or]
  · rename_i hf
    congr 1
    funext x
    unfold keepr
    rw [decide_eq_false hf, Bool.false_or]
theorem keep_step (now f : Int) (xs : List Smp) (i : Nat) (hi : i < xs.length) : (xs.take (i + 1)).filter (keepr now f) = if keepr now f xs[i] = true then (xs.take i).filter (keepr now f) ++ [xs[i]] else (xs.take i).filter (keepr now f) := by
  rw [List.take_succ_eq_append_getElem hi, List.filter_append]
  by_cases h : keepr now f xs[i] = true
  · rw [if_pos h, List.filter_cons_of_pos h]
    rfl
  · rw [if_neg h, List.filter_cons_of_neg h]
    simp
set_option maxRecDepth 20000 in
set_option maxHeartbeats 4000000 in
theorem rexpire {w : World} {F : Nat → Prop} {v : Value} {xs : List Smp} (n : Qn) (lost ev : Int) (h : Rd ks w F v xs) (hF : ∀ k, F k → k < w.heap.size) (now f : Int) (hl : xs.length * 80 ≤ 140737488355328) (hn : now < 18446744073709551616) (f0 : -9223372036854775808 ≤ f) (f1 : f < 9223372036854775808) :
    Calls Try.prog 57 #[rqv n v lost ev, .int .u64 now, .int .i64 f] w fun e w' => ∃ v', e = .returned (rqv n v' lost ev) ∧ Rd ks w' (fun k => F k ∨ (w.heap.size ≤ k ∧ k < w'.heap.size)) v' (expm now f xs) ∧ Below w.heap.size w w' := by
  have HF := Lib.hid hF
  have HH := Lib.hid h
  have HL := Lib.hid hl
  have HN := Lib.hid (And.intro hn (And.intro f0 f1))
  obtain ⟨A, c, rfl, hc, hC9, hA9⟩ := h
  obtain ⟨h1, h2, b0⟩ := two_new w #[.int .i64 n.room, .int .i64 n.depth, .bool n.newest, .slice A xs.length c, .int .u64 lost, .int .u64 ev] zq 89 89
  unfold zq at *
  unfold rqv at *
  rw [expm_keep]
  have H0 := Lib.hid (And.intro h1 (And.intro h2 b0))
  generalize hW : (w.alloc (.cells #[.int .i64 n.room, .int .i64 n.depth, .bool n.newest, .slice A xs.length c, .int .u64 lost, .int .u64 ev] 89)).alloc (.cells #[.int .i64 0, .int .i64 0, .bool false, .slice none 0 0, .int .u64 0, .int .u64 0] 89) = W0 at *
  have HW := Lib.hid hW
  have HLT : Hid (w.heap.size + 1 < W0.heap.size) := Lib.hid (blk_lt h2)
  clear h1 h2 hC9 hA9 hF hl hc b0 hW hn f0 f1
  go_enter Try.func57, Try.ntmps57
  go_wp2
  rw [HW.out]
  go_loopw [7, 8] (fun v7 v8 wr => ∃ (i : Nat) (out : List Smp), v8 = .int .i64 (i : Int) ∧ i ≤ xs.length ∧ Hid (out = (xs.take i).filter (keepr now f)) ∧ Own ks 60 wr (fun k => W0.heap.size ≤ k ∧ k < wr.heap.size) v7 out ∧ Below W0.heap.size W0 wr) (fun _ v8 _ => xs.length - (intOf v8).toNat)
  case atStart => exact ⟨0, [], rfl, Nat.zero_le _, Lib.hid (by simp), Own.nil _ _ _ _, Below.refl _ _⟩
  case round =>
    obtain ⟨i, out, rfl, hi, ho, hO, bb⟩ := hrel
    have g0 := blk_below H0.out.1 bb
    have bw := bstep H0.out.2.2 bb
    by_cases hlt : i < xs.length
    · have k0 : (0 : Int) ≤ (i : Int) := by omega
      have k1 : (i : Int) < (xs.length : Int) := by omega
      obtain ⟨ad, rfl, q1⟩ := rd_at (rd_below HH.out bw) hlt
      have c3 : wr.cell? ⟨w.heap.size, 3, none⟩ = some (.slice (some ad) xs.length c) := blk_cell g0 3
      have hwi : wrap64 ((i : Int) + 1) = ((i + 1 : Nat) : Int) := by have := HL.out; unfold wrap64; omega
      have hlt2 := Lib.hid hlt
      have hstep := keep_step now f xs i hlt
      rw [← ho.out] at hstep
      have hol : Hid (out.length + 1 ≤ xs.length) := Lib.hid (by
        have := List.length_filter_le (keepr now f) (xs.take i)
        rw [← ho.out, List.length_take] at this
        omega)
      generalize xs[i] = y at q1 hstep
      have o1 : wr.cell? (ad.add (i * 23)) = some (.int .i64 y.op) := by have := q1 0 _ rfl; rwa [addz] at this
      have o2 : wr.cell? ⟨(ad.add (i * 23)).block, (ad.add (i * 23)).off + 2, none⟩ = some (.int .u64 y.frame) := by have := q1 2 _ rfl; rwa [add_pos _ (by decide)] at this
      have hx := wf_u64 y.good.2.2.1
      have C := Clock.over_ref now y.frame f wr HN.out.1 hx.1 HN.out.2.1 HN.out.2.2
      have HWI := Lib.hid hwi
      clear hlt hi ho hx g0 bw hwi
      by_cases hf : f ≤ 0
      · rw [if_pos (show keepr now f y = true by unfold keepr; rw [decide_eq_true hf, Bool.true_or])] at hstep
        have hs2 := Lib.hid hstep
        clear hstep C o1 o2
        obtain ⟨vq, wq, hrun, oq, gq, sq⟩ := hO.append (P := Try.prog) flat_ks 56 56 (.agg (cells zsmp).toArray) 80 Try.underlying56 info (by show (cells zsmp).toArray.size = 23; rw [List.size_toArray, cells_len]) (by decide) (by decide) y (cells y) rfl (fun k hk => hk.2) (by have := hol.out; have := HL.out; omega)
        have hown := hO.base
        have HX : Hid (Own ks 60 wq (fun k => W0.heap.size ≤ k ∧ k < wq.heap.size) vq (out ++ [y]) ∧ Below W0.heap.size W0 wq) := Lib.hid ⟨oq.mono (fun k hk => hk.elim (fun hh => ⟨hh.1, Nat.lt_trans hh.2 sq⟩) (fun hh => ⟨Nat.le_trans bb.size hh.1, hh.2⟩)), bb.grown gq bb.size (fun k hk => (hown k hk).1)⟩
        obtain ⟨Aq, cq, rfl, _, _, _⟩ := hO.rd
        clear oq gq sq hown hO bb
        go_wp2_with (first | ((with_reducible refine gate_dst (N := 44) rfl ?_); refine load_any (by kernel_rfl) 60 (.tmp 43) rfl _ rfl (cells y) _ q1 Try.underlying60 rfl (size23 y) ?_) | ((with_reducible refine gate_dst (N := 45) rfl ?_); refine build1L (x := y) rfl rfl rfl ?_) | (at_builtin; refine wp_append rfl (.tmp 39) (.tmp 45) 56 rfl rfl rfl hrun ?_))
        rw [HWI.out]
        exact ⟨⟨i + 1, out ++ [y], rfl, hlt2.out, Lib.hid hs2.out.symm, HX.out.1, HX.out.2⟩, meas _ _ hlt2.out⟩
      · by_cases hop : y.op = 1
        · cases hov : Clock.over now y.frame f with
          | true =>
            rw [if_neg (show ¬ keepr now f y = true by unfold keepr oldr; rw [decide_eq_false hf, decide_eq_true hop, hov]; decide)] at hstep
            have hs2 := Lib.hid hstep
            rw [hov] at C
            rw [hop] at o1
            clear hstep hov hop
            have hf1 : ¬ f ≤ 0 := hf
            go_wp2_with fail
            refine C.mono ?_
            rintro e w5 ⟨rfl, rfl⟩
            go_wp2
            rw [HWI.out]
            exact ⟨⟨i + 1, out, rfl, hlt2.out, Lib.hid hs2.out.symm, hO, bb⟩, meas _ _ hlt2.out⟩
          | false =>
            rw [if_pos (show keepr now f y = true by unfold keepr oldr; rw [hov]; simp)] at hstep
            have hs2 := Lib.hid hstep
            rw [hov] at C
            rw [hop] at o1
            clear hstep hov hop
            have hf1 : ¬ f ≤ 0 := hf
            obtain ⟨vq, wq, hrun, oq, gq, sq⟩ := hO.append (P := Try.prog) flat_ks 56 56 (.agg (cells zsmp).toArray) 80 Try.underlying56 info (by show (cells zsmp).toArray.size = 23; rw [List.size_toArray, cells_len]) (by decide) (by decide) y (cells y) rfl (fun k hk => hk.2) (by have := hol.out; have := HL.out; omega)
            have hown := hO.base
            have HX : Hid (Own ks 60 wq (fun k => W0.heap.size ≤ k ∧ k < wq.heap.size) vq (out ++ [y]) ∧ Below W0.heap.size W0 wq) := Lib.hid ⟨oq.mono (fun k hk => hk.elim (fun hh => ⟨hh.1, Nat.lt_trans hh.2 sq⟩) (fun hh => ⟨Nat.le_trans bb.size hh.1, hh.2⟩)), bb.grown gq bb.size (fun k hk => (hown k hk).1)⟩
            obtain ⟨Aq, cq, rfl, _, _, _⟩ := hO.rd
            clear oq gq sq hown hO bb
            go_wp2_with fail
            refine C.mono ?_
            rintro e w5 ⟨rfl, rfl⟩
            clear C
            go_wp2_with (first | ((with_reducible refine gate_dst (N := 44) rfl ?_); refine load_any (by kernel_rfl) 60 (.tmp 43) rfl _ rfl (cells y) _ q1 Try.underlying60 rfl (size23 y) ?_) | ((with_reducible refine gate_dst (N := 45) rfl ?_); refine build1L (x := y) rfl rfl rfl ?_) | (at_builtin; refine wp_append rfl (.tmp 39) (.tmp 45) 56 rfl rfl rfl hrun ?_))
            rw [HWI.out]
            exact ⟨⟨i + 1, out ++ [y], rfl, hlt2.out, Lib.hid hs2.out.symm, HX.out.1, HX.out.2⟩, meas _ _ hlt2.out⟩
        · rw [if_pos (show keepr now f y = true by unfold keepr oldr; rw [decide_eq_false hop]; simp)] at hstep
          have hs2 := Lib.hid hstep
          have hob : (y.op == 1) = false := beq_eq_false_iff_ne.2 hop
          have hob2 : (y.op != 1) = true := bne_iff_ne.2 hop
          have hf1 : ¬ f ≤ 0 := hf
          clear hstep C o2 hop
          obtain ⟨vq, wq, hrun, oq, gq, sq⟩ := hO.append (P := Try.prog) flat_ks 56 56 (.agg (cells zsmp).toArray) 80 Try.underlying56 info (by show (cells zsmp).toArray.size = 23; rw [List.size_toArray, cells_len]) (by decide) (by decide) y (cells y) rfl (fun k hk => hk.2) (by have := hol.out; have := HL.out; omega)
          have hown := hO.base
          have HX : Hid (Own ks 60 wq (fun k => W0.heap.size ≤ k ∧ k < wq.heap.size) vq (out ++ [y]) ∧ Below W0.heap.size W0 wq) := Lib.hid ⟨oq.mono (fun k hk => hk.elim (fun hh => ⟨hh.1, Nat.lt_trans hh.2 sq⟩) (fun hh => ⟨Nat.le_trans bb.size hh.1, hh.2⟩)), bb.grown gq bb.size (fun k hk => (hown k hk).1)⟩
          obtain ⟨Aq, cq, rfl, _, _, _⟩ := hO.rd
          clear oq gq sq hown hO bb
          go_wp2_with (first | ((with_reducible refine gate_dst (N := 44) rfl ?_); refine load_any (by kernel_rfl) 60 (.tmp 43) rfl _ rfl (cells y) _ q1 Try.underlying60 rfl (size23 y) ?_) | ((with_reducible refine gate_dst (N := 45) rfl ?_); refine build1L (x := y) rfl rfl rfl ?_) | (at_builtin; refine wp_append rfl (.tmp 39) (.tmp 45) 56 rfl rfl rfl hrun ?_))
          rw [HWI.out]
          exact ⟨⟨i + 1, out ++ [y], rfl, hlt2.out, Lib.hid hs2.out.symm, HX.out.1, HX.out.2⟩, meas _ _ hlt2.out⟩
    · have k1 : ¬ (i : Int) < (xs.length : Int) := by omega
      have HO : Hid (Own ks 60 wr (fun k => W0.heap.size ≤ k ∧ k < wr.heap.size) u7 (xs.filter (keepr now f))) := Lib.hid (by
        rw [ho.out, List.take_of_length_le (by omega)] at hO
        exact hO)
      have HZS := Lib.hid (show Hid True from trivial)
      obtain ⟨zs, hzs⟩ : ∃ zs, zs = xs.filter (keepr now f) := ⟨_, rfl⟩
      rw [← hzs] at HO
      have HZ := Lib.hid hzs
      obtain ⟨A7, k7, rfl, _, _, _⟩ := HO.out.rd
      have g2 := blk_below H0.out.2.1 bb
      have hlt2 := Lib.hid (Nat.lt_of_lt_of_le HLT.out (Nat.le_refl _))
      have HG : Hid ((wr.setCell ⟨w.heap.size, 3, none⟩ (.slice A7 zs.length k7)).heap[w.heap.size + 1]? = some (.cells #[.int .i64 0, .int .i64 0, .bool false, .slice none 0 0, .int .u64 0, .int .u64 0] 89 (0, 0)) ∧ Below w.heap.size w (wr.setCell ⟨w.heap.size, 3, none⟩ (.slice A7 zs.length k7))) :=
        Lib.hid ⟨(Below.heap_setCell _ ⟨w.heap.size, 3, none⟩ _ (w.heap.size + 1) (by show w.heap.size + 1 ≠ w.heap.size; omega)).trans g2, bw.setCell (p := ⟨w.heap.size, 3, none⟩) (Nat.le_refl _) _⟩
      have c0 : wr.cell? ⟨w.heap.size, 0, none⟩ = some (.int .i64 n.room) := blk_cell g0 0
      have c1 : wr.cell? ⟨w.heap.size, 1, none⟩ = some (.int .i64 n.depth) := blk_cell g0 1
      have c2 : wr.cell? ⟨w.heap.size, 2, none⟩ = some (.bool n.newest) := blk_cell g0 2
      have c3 : wr.cell? ⟨w.heap.size, 3, none⟩ = some (.slice (A) xs.length c) := blk_cell g0 3
      have c4 : wr.cell? ⟨w.heap.size, 4, none⟩ = some (.int .u64 lost) := blk_cell g0 4
      have c5 : wr.cell? ⟨w.heap.size, 5, none⟩ = some (.int .u64 ev) := blk_cell g0 5
      have z3 := blk_frozen g0 3
      clear hO ho hi hlt g0 g2 bb bw hzs HZS
      have HT9 := q_there (cur := #[.int .i64 0, .int .i64 0, .bool false, .slice none 0 0, .int .u64 0, .int .u64 0]) rfl HG.out.1 n (.slice A7 zs.length k7) lost ev
      go_wp2_with (first | ((with_reducible refine gate_store (p := 6) (v := .tmp 49) rfl ?_); refine Hid.out (p := _) ?_) | fail)
      refine Lib.hid ?_
      refine store_ev rfl 89 (.tmp 6) (.tmp 49) rfl (w.heap.size + 1) 0 (qcs n (.slice A7 zs.length k7) lost ev) rfl (q_lit n (.slice A7 zs.length k7) lost ev) ?_ ?_ ?_ ?_
      · exact HT9
      · exact size6 _ _ _ _
      · exact qcs_one _ _ _ _ _ _
      intro w9 hw9
      obtain ⟨n9, K9⟩ := q_store (cur := #[.int .i64 0, .int .i64 0, .bool false, .slice none 0 0, .int .u64 0, .int .u64 0]) rfl HG.out.1 n (.slice A7 zs.length k7) lost ev hw9
      have B9 := K9 HG.out.2 (by omega) HG.out.2.size
      have S9 : ∀ k, W0.heap.size ≤ k → w9.heap[k]? = wr.heap[k]? := fun k hk => by
        have h9 := HLT.out
        rw [hw9, setCells_other _ _ _ _ k (by omega)]
        exact Below.heap_setCell _ ⟨w.heap.size, 3, none⟩ _ k (by show k ≠ w.heap.size; omega)
      have s9 : w9.heap.size = wr.heap.size := by rw [hw9, setCells_size]; simp [World.setCell]
      have HY : Hid (Rd ks w9 (fun k => F k ∨ (w.heap.size ≤ k ∧ k < w9.heap.size)) (.slice A7 zs.length k7) zs ∧ Below w.heap.size w w9) := Lib.hid ⟨(HO.out.rd.same flat_ks (w' := w9) (fun k hk => S9 k hk.1)).mono (fun k hk => .inr ⟨by have := HLT.out; have := hk.1; omega, by rw [s9]; exact hk.2⟩), B9⟩
      clear c0 c1 c2 c3 c4 c5 z3 K9 B9 HT9 S9 s9 hw9
      have c0 : w9.cell? ⟨w.heap.size + 1, 0, none⟩ = some (.int .i64 n.room) := blk_cell n9 0
      have c1 : w9.cell? ⟨w.heap.size + 1, 1, none⟩ = some (.int .i64 n.depth) := blk_cell n9 1
      have c2 : w9.cell? ⟨w.heap.size + 1, 2, none⟩ = some (.bool n.newest) := blk_cell n9 2
      have c3 : w9.cell? ⟨w.heap.size + 1, 3, none⟩ = some (.slice A7 zs.length k7) := blk_cell n9 3
      have c4 : w9.cell? ⟨w.heap.size + 1, 4, none⟩ = some (.int .u64 lost) := blk_cell n9 4
      have c5 : w9.cell? ⟨w.heap.size + 1, 5, none⟩ = some (.int .u64 ev) := blk_cell n9 5
      go_wp2
      exact bodyPost_ret (v := .agg #[.int .i64 n.room, .int .i64 n.depth, .bool n.newest, .slice A7 zs.length k7, .int .u64 lost, .int .u64 ev]) (by simp [results, Try.results57, go_sem, c0, c1, c2, c3, c4, c5]) rfl ⟨_, rfl, by rw [← HZ.out]; exact HY.out.1, HY.out.2⟩
end Go.Proofs.Ytimalojaiaofkaa.Rng
