import Derived.Test.YtimalojaiaofkaaSchedQ
import Derived.Test.YtimalojaiaofkaaFlat
import Derived.Laws.Tables
import Derived.Laws.Rows
import Derived.Test.YtimalojaiaofkaaPSchedChecksx2
set_option linter.unusedVariables false
set_option linter.unusedSimpArgs false
namespace Go.Proofs.Ytimalojaiaofkaa.SchedP
open Go.RowKit Base Sp Flat Go.Proofs.YtimalojaiaofkaaW.PrintWords Go.Proofs.YtimalojaiaofkaaW.PrintLast
abbrev S := Go.Proofs.Ytimalojaiaofkaa.PSchedChecks.S32
abbrev kS : Kd S := Go.Proofs.Ytimalojaiaofkaa.PSchedChecks.k32
/-- Windows as pairs. -/
def pr (l : List S) : List (Int × Int) := l.map fun x => (x.f0, x.f1)
theorem pr_len (l : List S) : (pr l).length = l.length := List.length_map _
/-- Cells of the counts. -/
def ccs (q : List Int) : Array Value := ((cnt q).map (Value.int .i64)).toArray
theorem ccs_nil : ccs [] = #[.int .i64 0, .int .i64 0, .int .i64 0, .int .i64 0, .int .i64 0, .int .i64 0, .int .i64 0, .int .i64 0, .int .i64 0, .int .i64 0, .int .i64 0, .int .i64 0, .int .i64 0, .int .i64 0, .int .i64 0, .int .i64 0, .int .i64 0, .int .i64 0, .int .i64 0, .int .i64 0, .int .i64 0, .int .i64 0, .int .i64 0, .int .i64 0, .int .i64 0, .int .i64 0, .int .i64 0, .int .i64 0, .int .i64 0, .int .i64 0, .int .i64 0, .int .i64 0] := by rfl
theorem ccs_get (q : List Int) (j : Nat) (h : j < 32) : (ccs q)[j]? = some (.int .i64 (q.count (j : Int) : Int)) := by
  unfold ccs
  rw [List.getElem?_toArray, List.getElem?_map, cnt_get q j h]
  rfl
theorem ccs_set (q : List Int) (x : Nat) (h : x < 32) : (ccs q).setIfInBounds x (.int .i64 (q.count (x : Int) + 1)) = ccs (q ++ [(x : Int)]) := by
  unfold ccs
  rw [cnt_snoc q x h, List.setIfInBounds_toArray, List.map_set]
theorem mem_snoc (q : List Int) (x : Int) : decide (-1 ∈ q ++ [x]) = (decide (-1 ∈ q) || decide (x = -1)) := by
  simp [Bool.decide_or, eq_comm]
/-- The state of the loop. -/
def BusN (q : List Int) : Int := if -1 ∈ q then 1 else 0
theorem take_snoc (l : List S) (k : Nat) (h : k < l.length) : pts (pr (l.take (k + 1))) = pts (pr (l.take k)) ++ [l[k].f0] := by
  rw [List.take_succ_eq_append_getElem h]
  unfold pts pr
  rw [List.map_append, List.map_append]
  rfl
theorem bad_at (parts : Int) (l : List S) (k : Nat) (h : k < l.length) (i : Int) (b : Bool) : bad parts (pr (l.drop k)) i b = if rng parts (l[k].f0, l[k].f1) = true then (7, i) else if l[k].f0 = -1 ∧ b = true then (6, i) else bad parts (pr (l.drop (k + 1))) (i + 1) (b || decide (l[k].f0 = -1)) := by
  rw [List.drop_eq_getElem_cons h]
  rfl
theorem win_cell {w : World} {A : Option Addr} {l : List S} (h : Kd.C kS w A l.length l) (k : Nat) (hk : k < l.length) :
    ∃ ad : Addr, A = some ad ∧ w.cell? (ad.add (k * 2)) = some (.int .i64 l[k].f0) ∧ w.cell? ⟨(ad.add (k * 2)).block, (ad.add (k * 2)).off + 1, none⟩ = some (.int .i64 l[k].f1) := by
  obtain ⟨ad, e, c0, c1⟩ := Go.Proofs.Ytimalojaiaofkaa.PSchedChecks.at_T32 h (k : Int) (by omega) (by omega)
  refine ⟨ad, e, ?_⟩
  rw [Int.toNat_natCast] at c0 c1
  have e2 : Go.Proofs.Ytimalojaiaofkaa.PSchedChecks.rd_T32 l (k : Int) = l[k] := by
    unfold Go.Proofs.Ytimalojaiaofkaa.PSchedChecks.rd_T32
    rw [Int.toNat_natCast, List.getD_eq_getElem?_getD, List.getElem?_eq_getElem hk]
    rfl
  rw [e2] at c0 c1
  exact ⟨c0, c1⟩
theorem rowbel {w0 w : World} {B p : Nat} (hb : Below B w0 w) (hp : B ≤ p) (v : Array Value) : Below B w0 (w.setRow p v) :=
  ⟨hb.os, hb.tape, hb.output, by simpa using hb.size, fun k hk => (setRow_other _ _ _ _ (by omega)).trans (hb.block k hk)⟩
set_option maxRecDepth 20000 in
set_option maxHeartbeats 4000000 in
theorem check (A : Option Addr) (cap : Nat) (l : List S) (parts : Int) (w : World) (hS : Kd.C kS w A l.length l) :
    Calls Try.prog 16 #[.slice A l.length cap, .int .i64 parts] w fun e w' => e = .returned (.agg #[.int .i64 (chk parts (pr l)).1, .int .i64 (chk parts (pr l)).2]) ∧ Below w.heap.size w w' := by
  have b0 : ∀ o, Below w.heap.size w (w.alloc o) := fun o => (Below.refl _ _).alloc (Nat.le_refl _) _
  by_cases h0 : l.length = 0
  · have HC : Hid (chk parts (pr l) = (18, 0)) := Lib.hid (by unfold chk; rw [pr_len, if_pos h0])
    have hz : ((l.length : Int) == 0) = true := by rw [h0]; rfl
    have h1 : (l.length : Int) = 0 := by omega
    go_enter Try.func16, Try.ntmps16
    go_wp2
    have e0 : (w.alloc (.cells #[.int .i64 18, .int .i64 0] 26)).cell? ⟨w.heap.size, 0, none⟩ = some (.int .i64 18) := blk_cell (heap_alloc_new _ _) 0
    have e1 : (w.alloc (.cells #[.int .i64 18, .int .i64 0] 26)).cell? ⟨w.heap.size, 1, none⟩ = some (.int .i64 0) := blk_cell (heap_alloc_new _ _) 1
    exact bodyPost_ret (v := .agg #[.int .i64 18, .int .i64 0]) (by simp [results, Try.results16, go_sem, e0, e1]) rfl ⟨by rw [HC.out], b0 _⟩
  · by_cases h32 : 32 < l.length
    · have HC : Hid (chk parts (pr l) = (3, 32)) := Lib.hid (by unfold chk; rw [pr_len, if_neg h0, if_pos h32])
      have hz : ((l.length : Int) == 0) = false := beq_eq_false_iff_ne.2 (by omega)
      have h1 : ¬ (l.length : Int) = 0 := by omega
      have h2 : (32 : Int) < (l.length : Int) := by omega
      clear h32 h0
      go_enter Try.func16, Try.ntmps16
      go_wp2
      have e0 : (w.alloc (.cells #[.int .i64 3, .int .i64 32] 26)).cell? ⟨w.heap.size, 0, none⟩ = some (.int .i64 3) := blk_cell (heap_alloc_new _ _) 0
      have e1 : (w.alloc (.cells #[.int .i64 3, .int .i64 32] 26)).cell? ⟨w.heap.size, 1, none⟩ = some (.int .i64 32) := blk_cell (heap_alloc_new _ _) 1
      exact bodyPost_ret (v := .agg #[.int .i64 3, .int .i64 32]) (by simp [results, Try.results16, go_sem, e0, e1]) rfl ⟨by rw [HC.out], b0 _⟩
    · have HC : Hid (chk parts (pr l) = if (bad parts (pr (l.drop 0)) 0 (decide (-1 ∈ ([] : List Int)))).1 ≠ 0 then bad parts (pr (l.drop 0)) 0 (decide (-1 ∈ ([] : List Int))) else if -1 ∈ pts (pr l) ∧ parts ≤ dn (pts (pr l)) 32 then (0, 0) else (18, l.length)) := Lib.hid (by unfold chk; rw [pr_len, if_neg h0, if_neg h32]; rfl)
      have hz : ((l.length : Int) == 0) = false := beq_eq_false_iff_ne.2 (by omega)
      have h1 : ¬ (l.length : Int) = 0 := by omega
      have h2 : ¬ (32 : Int) < (l.length : Int) := by omega
      have HLN := Lib.hid h32
      obtain ⟨B, hB0⟩ : ∃ B, B = bad parts (pr (l.drop 0)) 0 (decide (-1 ∈ ([] : List Int))) := ⟨_, rfl⟩
      rw [← hB0] at HC
      have HB := Lib.hid hB0
      clear h32 h0 hB0
      go_enter Try.func16, Try.ntmps16
      go_wp2
      go_loopw [6, 7, 22] (fun v s i wr => ∃ k : Nat, k ≤ l.length ∧ v = .int .i64 (BusN (pts (pr (l.take k)))) ∧ s = .int .i64 (dn (pts (pr (l.take k))) 32 : Int) ∧ i = .int .i64 (k : Int) ∧
        Hid (B = bad parts (pr (l.drop k)) k (decide (-1 ∈ pts (pr (l.take k))))) ∧ wr.heap[w.heap.size]? = some (.cells #[.int .i64 0, .int .i64 0] 26 (0, 0)) ∧
        wr.heap[w.heap.size + 1]? = some (.cells (ccs (pts (pr (l.take k)))) 100 (0, 0)) ∧ Below w.heap.size w wr) (fun _ _ i _ => (l.length - (intOf i).toNat))
      case atStart =>
        refine ⟨0, Nat.zero_le _, rfl, ?_, rfl, HB, ?_, ?_, (b0 _).alloc (by simp) _⟩
        · rfl
        · exact (Below.heap_alloc _ _ _ (by simp)).trans (heap_alloc_new _ _)
        · have := heap_alloc_new (w.alloc (.cells #[.int .i64 0, .int .i64 0] 26)) (.cells (ccs []) 100)
          rw [World.size_alloc] at this
          exact this
      case round =>
        clear HB
        obtain ⟨k, hk, rfl, rfl, rfl, HB, hF, hR, bb⟩ := hrel
        have k0 : (0 : Int) ≤ (k : Int) := by omega
        by_cases hlt : k < l.length
        · have k2 : (k : Int) < (l.length : Int) := by omega
          obtain ⟨ad, rfl, c0, c1⟩ := win_cell (Kd.C_below hS (bb.mono (Nat.le_refl _))) k hlt
          have hat := Lib.hid (bad_at parts l k hlt k (decide (-1 ∈ pts (pr (l.take k)))))
          have hts := Lib.hid (take_snoc l k hlt)
          generalize l[k] = x at *
          obtain ⟨x0, x1⟩ := x
          dsimp only at c0 c1
          have b5 : Below w.heap.size w (wr.alloc (.cells #[.int .i64 x0, .int .i64 x1] 32)) := bb.alloc bb.size _
          have hF5 := (Below.heap_alloc wr (.cells #[.int .i64 x0, .int .i64 x1] 32) _ (blk_lt hF)).trans hF
          have hR5 := (Below.heap_alloc wr (.cells #[.int .i64 x0, .int .i64 x1] 32) _ (blk_lt hR)).trans hR
          have hwk : wrap64 ((k : Int) + 1) = ((k + 1 : Nat) : Int) := by have := HLN.out; unfold wrap64; omega
          have HA := hat
          have HN : Hid (pts (pr (l.take (k + 1))) = pts (pr (l.take k)) ++ [x0]) := hts
          clear hat hts hF
          by_cases hr : x0 < -1 ∨ parts ≤ x0 ∨ x1 < 0 ∨ 16 < x1
          · by_cases c : x0 < -1
            · have HJ : Hid (chk parts (pr l) = (7, (k : Int))) := Lib.hid (by
                have h1 : rng parts (x0, x1) = true := by unfold rng; simp; omega
                have h2 : B = (7, (k : Int)) := by rw [HB.out, HA.out, if_pos h1]
                rw [HC.out, if_pos (by rw [h2]; show (7 : Int) ≠ 0; decide), h2])
              have HRW := Lib.hid (heap_setCell_same _ _ 1 _ _ (.int .i64 k) (heap_setCell_same _ _ 0 _ _ (.int .i64 7) hF5))
              have HBL := Lib.hid ((b5.setCell (p := ⟨w.heap.size, 0, none⟩) (Nat.le_refl _) (.int .i64 7)).setCell (p := ⟨w.heap.size, 1, none⟩) (Nat.le_refl _) (.int .i64 k))
              have d0 := blk_cell hF5 0
              have d1 := blk_cell hF5 1
              have z0 := blk_frozen hF5 0
              have z1 := blk_frozen hF5 1
              clear HC HB HN HA bb hF5 hR5 b5
              go_wp2
              have e0 := blk_cell HRW.out 0
              have e1 := blk_cell HRW.out 1
              exact bodyPost_ret (v := .agg #[.int .i64 7, .int .i64 k]) (by simp [results, Try.results16, go_sem, e0, e1]) rfl ⟨by rw [HJ.out], HBL.out⟩
            · by_cases c2 : parts ≤ x0
              · have HJ : Hid (chk parts (pr l) = (7, (k : Int))) := Lib.hid (by
                  have h1 : rng parts (x0, x1) = true := by unfold rng; simp; omega
                  have h2 : B = (7, (k : Int)) := by rw [HB.out, HA.out, if_pos h1]
                  rw [HC.out, if_pos (by rw [h2]; show (7 : Int) ≠ 0; decide), h2])
                have HRW := Lib.hid (heap_setCell_same _ _ 1 _ _ (.int .i64 k) (heap_setCell_same _ _ 0 _ _ (.int .i64 7) hF5))
                have HBL := Lib.hid ((b5.setCell (p := ⟨w.heap.size, 0, none⟩) (Nat.le_refl _) (.int .i64 7)).setCell (p := ⟨w.heap.size, 1, none⟩) (Nat.le_refl _) (.int .i64 k))
                have d0 := blk_cell hF5 0
                have d1 := blk_cell hF5 1
                have z0 := blk_frozen hF5 0
                have z1 := blk_frozen hF5 1
                clear HC HB HN HA bb hF5 hR5 b5
                go_wp2
                have e0 := blk_cell HRW.out 0
                have e1 := blk_cell HRW.out 1
                exact bodyPost_ret (v := .agg #[.int .i64 7, .int .i64 k]) (by simp [results, Try.results16, go_sem, e0, e1]) rfl ⟨by rw [HJ.out], HBL.out⟩
              · by_cases c3 : x1 < 0
                · have HJ : Hid (chk parts (pr l) = (7, (k : Int))) := Lib.hid (by
                    have h1 : rng parts (x0, x1) = true := by unfold rng; simp; omega
                    have h2 : B = (7, (k : Int)) := by rw [HB.out, HA.out, if_pos h1]
                    rw [HC.out, if_pos (by rw [h2]; show (7 : Int) ≠ 0; decide), h2])
                  have HRW := Lib.hid (heap_setCell_same _ _ 1 _ _ (.int .i64 k) (heap_setCell_same _ _ 0 _ _ (.int .i64 7) hF5))
                  have HBL := Lib.hid ((b5.setCell (p := ⟨w.heap.size, 0, none⟩) (Nat.le_refl _) (.int .i64 7)).setCell (p := ⟨w.heap.size, 1, none⟩) (Nat.le_refl _) (.int .i64 k))
                  have d0 := blk_cell hF5 0
                  have d1 := blk_cell hF5 1
                  have z0 := blk_frozen hF5 0
                  have z1 := blk_frozen hF5 1
                  clear HC HB HN HA bb hF5 hR5 b5
                  go_wp2
                  have e0 := blk_cell HRW.out 0
                  have e1 := blk_cell HRW.out 1
                  exact bodyPost_ret (v := .agg #[.int .i64 7, .int .i64 k]) (by simp [results, Try.results16, go_sem, e0, e1]) rfl ⟨by rw [HJ.out], HBL.out⟩
                · have c4 : 16 < x1 := by omega
                  have HJ : Hid (chk parts (pr l) = (7, (k : Int))) := Lib.hid (by
                    have h1 : rng parts (x0, x1) = true := by unfold rng; simp; omega
                    have h2 : B = (7, (k : Int)) := by rw [HB.out, HA.out, if_pos h1]
                    rw [HC.out, if_pos (by rw [h2]; show (7 : Int) ≠ 0; decide), h2])
                  have HRW := Lib.hid (heap_setCell_same _ _ 1 _ _ (.int .i64 k) (heap_setCell_same _ _ 0 _ _ (.int .i64 7) hF5))
                  have HBL := Lib.hid ((b5.setCell (p := ⟨w.heap.size, 0, none⟩) (Nat.le_refl _) (.int .i64 7)).setCell (p := ⟨w.heap.size, 1, none⟩) (Nat.le_refl _) (.int .i64 k))
                  have d0 := blk_cell hF5 0
                  have d1 := blk_cell hF5 1
                  have z0 := blk_frozen hF5 0
                  have z1 := blk_frozen hF5 1
                  clear HC HB HN HA bb hF5 hR5 b5
                  go_wp2
                  have e0 := blk_cell HRW.out 0
                  have e1 := blk_cell HRW.out 1
                  exact bodyPost_ret (v := .agg #[.int .i64 7, .int .i64 k]) (by simp [results, Try.results16, go_sem, e0, e1]) rfl ⟨by rw [HJ.out], HBL.out⟩
          · have r1 : ¬ x0 < -1 := by omega
            have r2 : ¬ parts ≤ x0 := by omega
            have r3 : ¬ x1 < 0 := by omega
            have r4 : ¬ 16 < x1 := by omega
            clear hr
            by_cases hbus : x0 = -1
            · subst hbus
              by_cases c6 : x1 = 0
              · subst c6
                have hnr : ¬ rng parts (-1, 0) = true := by unfold rng; simp; omega
                by_cases hm : -1 ∈ pts (pr (l.take k))
                · have hbn : BusN (pts (pr (l.take k))) = 1 := if_pos hm
                  have HJ : Hid (chk parts (pr l) = (6, (k : Int))) := Lib.hid (by
                    have h2 : B = (6, (k : Int)) := by rw [HB.out, HA.out, if_neg hnr, if_pos ⟨rfl, decide_eq_true hm⟩]
                    rw [HC.out, if_pos (by rw [h2]; show (6 : Int) ≠ 0; decide), h2])
                  rw [hbn]
                  clear hbn hm hnr
                  have HRW := Lib.hid (heap_setCell_same _ _ 1 _ _ (.int .i64 k) (heap_setCell_same _ _ 0 _ _ (.int .i64 6) hF5))
                  have HBL := Lib.hid ((b5.setCell (p := ⟨w.heap.size, 0, none⟩) (Nat.le_refl _) (.int .i64 6)).setCell (p := ⟨w.heap.size, 1, none⟩) (Nat.le_refl _) (.int .i64 k))
                  have d0 := blk_cell hF5 0
                  have d1 := blk_cell hF5 1
                  have z0 := blk_frozen hF5 0
                  have z1 := blk_frozen hF5 1
                  clear HC HB HN HA bb hF5 hR5 b5
                  go_wp2
                  have e0 := blk_cell HRW.out 0
                  have e1 := blk_cell HRW.out 1
                  exact bodyPost_ret (v := .agg #[.int .i64 6, .int .i64 k]) (by simp [results, Try.results16, go_sem, e0, e1]) rfl ⟨by rw [HJ.out], HBL.out⟩
                · have hbn : BusN (pts (pr (l.take k))) = 0 := if_neg hm
                  have HB2 : Hid (B = bad parts (pr (l.drop (k + 1))) ((k + 1 : Nat) : Int) (decide (-1 ∈ pts (pr (l.take (k + 1)))))) := Lib.hid (by
                    rw [HB.out, HA.out, if_neg hnr, if_neg (fun h => hm (of_decide_eq_true h.2)), HN.out, mem_snoc]
                    rfl)
                  have HV : Hid ((1 : Int) = BusN (pts (pr (l.take (k + 1))))) := Lib.hid (by rw [HN.out]; unfold BusN; rw [if_pos (List.mem_append_right _ (List.mem_singleton.2 rfl))])
                  have HS : Hid (dn (pts (pr (l.take k))) 32 = dn (pts (pr (l.take (k + 1)))) 32) := Lib.hid (by rw [HN.out, dn_snoc, if_neg (by omega)]; rfl)
                  have HR6 : Hid ((wr.alloc (.cells #[.int .i64 (-1), .int .i64 0] 32)).heap[w.heap.size + 1]? = some (.cells (ccs (pts (pr (l.take (k + 1))))) 100 (0, 0))) := Lib.hid (by
                    rw [hR5, HN.out]; unfold ccs; rw [cnt_skip _ _ (by omega)])
                  rw [hbn]
                  clear hbn hm hnr hR5 HB HC HA bb
                  go_wp2
                  go_roundw
                  case rel => exact ⟨k + 1, hlt, by rw [HV.out], by rw [HS.out], by go_num, HB2, hF5, HR6.out, b5⟩
                  case measure => simp [intOf]; omega
              · have c7 : (x1 != 0) = true := by simpa using c6
                have HJ : Hid (chk parts (pr l) = (7, (k : Int))) := Lib.hid (by
                  have h1 : rng parts (-1, x1) = true := by unfold rng; simp; omega
                  have h2 : B = (7, (k : Int)) := by rw [HB.out, HA.out, if_pos h1]
                  rw [HC.out, if_pos (by rw [h2]; show (7 : Int) ≠ 0; decide), h2])
                have HRW := Lib.hid (heap_setCell_same _ _ 1 _ _ (.int .i64 k) (heap_setCell_same _ _ 0 _ _ (.int .i64 7) hF5))
                have HBL := Lib.hid ((b5.setCell (p := ⟨w.heap.size, 0, none⟩) (Nat.le_refl _) (.int .i64 7)).setCell (p := ⟨w.heap.size, 1, none⟩) (Nat.le_refl _) (.int .i64 k))
                have d0 := blk_cell hF5 0
                have d1 := blk_cell hF5 1
                have z0 := blk_frozen hF5 0
                have z1 := blk_frozen hF5 1
                clear HC HB HN HA bb hF5 hR5 b5
                go_wp2
                have e0 := blk_cell HRW.out 0
                have e1 := blk_cell HRW.out 1
                exact bodyPost_ret (v := .agg #[.int .i64 7, .int .i64 k]) (by simp [results, Try.results16, go_sem, e0, e1]) rfl ⟨by rw [HJ.out], HBL.out⟩
            · have hb1 : (x0 == -1) = false := beq_eq_false_iff_ne.2 hbus
              have hnr : ¬ rng parts (x0, x1) = true := by unfold rng; simp; omega
              have HB2 : Hid (B = bad parts (pr (l.drop (k + 1))) ((k + 1 : Nat) : Int) (decide (-1 ∈ pts (pr (l.take (k + 1)))))) := Lib.hid (by
                rw [HB.out, HA.out, if_neg hnr, if_neg (fun h => hbus h.1), HN.out, mem_snoc]
                rfl)
              have HV : Hid (BusN (pts (pr (l.take k))) = BusN (pts (pr (l.take (k + 1))))) := Lib.hid (by
                rw [HN.out]; unfold BusN; simp only [List.mem_append, List.mem_singleton, show ¬ (-1 = x0) from fun h => hbus h.symm, or_false])
              clear hnr HB HC HA bb
              obtain ⟨m, rfl⟩ : ∃ m : Nat, x0 = (m : Int) := ⟨x0.toNat, by omega⟩
              have HS0 := Lib.hid (dn_snoc (pts (pr (l.take k))) (m : Int) 32)
              by_cases h32 : (m : Int) < 32
              · have hm32 : m < 32 := by omega
                have hct := Lib.hid (Nat.le_trans (List.count_le_length (a := (m : Int)) (l := pts (pr (l.take k)))) (by unfold pts pr; rw [List.length_map, List.length_map, List.length_take]; exact Nat.min_le_right _ _))
                have hd := (blk_cell hR5 m).trans (ccs_get _ m hm32)
                have hz := blk_frozen hR5 m
                have hRs := heap_setCell_same _ _ m _ _ (.int .i64 (((pts (pr (l.take k))).count (m : Int) : Int) + 1)) hR5
                rw [ccs_set _ m hm32, ← HN.out] at hRs
                have HR6 := Lib.hid hRs
                have hne : w.heap.size + 1 ≠ wr.heap.size := Nat.ne_of_lt (blk_lt hR)
                have hFs := Lib.hid ((heap_setCell_other _ ⟨w.heap.size + 1, m, none⟩ _ (.int .i64 (((pts (pr (l.take k))).count (m : Int) : Int) + 1)) (Nat.ne_of_lt (Nat.lt_succ_self _))).trans hF5)
                have hbs := Lib.hid (b5.setCell (p := ⟨w.heap.size + 1, m, none⟩) (Nat.le_succ _) (.int .i64 (((pts (pr (l.take k))).count (m : Int) : Int) + 1)))
                have hx0 : (wr.alloc (.cells #[.int .i64 (m : Int), .int .i64 x1] 32)).cell? ⟨wr.heap.size, 0, none⟩ = some (.int .i64 (m : Int)) := blk_cell (heap_alloc_new _ _) 0
                have hx0s := cfar (p := ⟨w.heap.size + 1, m, none⟩) (v := .int .i64 (((pts (pr (l.take k))).count (m : Int) : Int) + 1)) hx0 hne
                have hds := csame (v := .int .i64 (((pts (pr (l.take k))).count (m : Int) : Int) + 1)) hd
                clear hRs hR5 hF5 b5 hR
                generalize (pts (pr (l.take k))).count (m : Int) = c at *
                have hw1 : wrap64 ((c : Int) + 1) = (c : Int) + 1 := by have := hct.out; have := HLN.out; unfold wrap64; omega
                by_cases hc : c = 0
                · have HS : Hid (((dn (pts (pr (l.take k))) 32 : Int) + 1) = (dn (pts (pr (l.take (k + 1)))) 32 : Int)) := Lib.hid (by rw [HN.out, HS0.out, if_pos ⟨⟨by omega, by omega⟩, hc⟩]; rfl)
                  have hdn := dn_le (pts (pr (l.take k))) 32
                  have hc1 : ((c : Int) + 1 == 1) = true := beq_iff_eq.2 (by omega)
                  clear HS0 hc
                  generalize dn (pts (pr (l.take k))) 32 = d at *
                  go_wp2
                  go_roundw
                  case rel => exact ⟨k + 1, hlt, by rw [HV.out], by rw [HS.out], by go_num, HB2, hFs.out, HR6.out, hbs.out⟩
                  case measure => simp [intOf]; omega
                · have HS : Hid (dn (pts (pr (l.take k))) 32 = dn (pts (pr (l.take (k + 1)))) 32) := Lib.hid (by rw [HN.out, HS0.out, if_neg (fun h => hc h.2)]; rfl)
                  clear HS0
                  have hc1 : ((c : Int) + 1 == 1) = false := beq_eq_false_iff_ne.2 (by omega)
                  go_wp2
                  go_roundw
                  case rel => exact ⟨k + 1, hlt, by rw [HV.out], by rw [HS.out], by go_num, HB2, hFs.out, HR6.out, hbs.out⟩
                  case measure => simp [intOf]; omega
              · have HS : Hid (dn (pts (pr (l.take k))) 32 = dn (pts (pr (l.take (k + 1)))) 32) := Lib.hid (by rw [HN.out, HS0.out, if_neg (by omega)]; rfl)
                have HR6 : Hid ((wr.alloc (.cells #[.int .i64 (m : Int), .int .i64 x1] 32)).heap[w.heap.size + 1]? = some (.cells (ccs (pts (pr (l.take (k + 1))))) 100 (0, 0))) := Lib.hid (by
                    rw [hR5, HN.out]; unfold ccs; rw [cnt_skip _ _ (by omega)])
                clear HS0 hR5
                go_wp2
                go_roundw
                case rel => exact ⟨k + 1, hlt, by rw [HV.out], by rw [HS.out], by go_num, HB2, hF5, HR6.out, b5⟩
                case measure => simp [intOf]; omega
        · obtain rfl : k = l.length := by omega
          have hB2 : B = (0, 0) := by rw [HB.out, List.drop_length]; rfl
          have HJ : Hid (chk parts (pr l) = if -1 ∈ pts (pr l) ∧ parts ≤ dn (pts (pr l)) 32 then ((0 : Int), (0 : Int)) else (18, (l.length : Int))) := Lib.hid (by rw [HC.out, hB2, if_neg (fun h => h rfl)])
          rw [List.take_length] at *
          clear HB HC hB2
          have HA := HJ
          have HB := HJ
          have HN := HJ
          have hR5 := hR
          have hF5 := hF
          have b5 := bb
          have HC := HJ
          by_cases hm : -1 ∈ pts (pr l)
          · have hbn : BusN (pts (pr l)) = 1 := if_pos hm
            rw [hbn]
            by_cases hd : parts ≤ (dn (pts (pr l)) 32 : Int)
            · have HJ : Hid (chk parts (pr l) = (0, 0)) := Lib.hid (by rw [HC.out, if_pos ⟨hm, hd⟩])
              have HRW := Lib.hid (heap_setCell_same _ _ 1 _ _ (.int .i64 0) (heap_setCell_same _ _ 0 _ _ (.int .i64 0) hF5))
              have HBL := Lib.hid ((b5.setCell (p := ⟨w.heap.size, 0, none⟩) (Nat.le_refl _) (.int .i64 0)).setCell (p := ⟨w.heap.size, 1, none⟩) (Nat.le_refl _) (.int .i64 0))
              have d0 := blk_cell hF5 0
              have d1 := blk_cell hF5 1
              have z0 := blk_frozen hF5 0
              have z1 := blk_frozen hF5 1
              clear HC HB HN HA bb hF5 hR5 b5
              go_wp2
              have e0 := blk_cell HRW.out 0
              have e1 := blk_cell HRW.out 1
              exact bodyPost_ret (v := .agg #[.int .i64 0, .int .i64 0]) (by simp [results, Try.results16, go_sem, e0, e1]) rfl ⟨by rw [HJ.out], HBL.out⟩
            · have HJ : Hid (chk parts (pr l) = (18, (l.length : Int))) := Lib.hid (by rw [HC.out, if_neg (fun h => hd h.2)])
              have HRW := Lib.hid (heap_setCell_same _ _ 1 _ _ (.int .i64 l.length) (heap_setCell_same _ _ 0 _ _ (.int .i64 18) hF5))
              have HBL := Lib.hid ((b5.setCell (p := ⟨w.heap.size, 0, none⟩) (Nat.le_refl _) (.int .i64 18)).setCell (p := ⟨w.heap.size, 1, none⟩) (Nat.le_refl _) (.int .i64 l.length))
              have d0 := blk_cell hF5 0
              have d1 := blk_cell hF5 1
              have z0 := blk_frozen hF5 0
              have z1 := blk_frozen hF5 1
              clear HC HB HN HA bb hF5 hR5 b5
              go_wp2
              have e0 := blk_cell HRW.out 0
              have e1 := blk_cell HRW.out 1
              exact bodyPost_ret (v := .agg #[.int .i64 18, .int .i64 l.length]) (by simp [results, Try.results16, go_sem, e0, e1]) rfl ⟨by rw [HJ.out], HBL.out⟩
          · have hbn : BusN (pts (pr l)) = 0 := if_neg hm
            rw [hbn]
            have HJ : Hid (chk parts (pr l) = (18, (l.length : Int))) := Lib.hid (by rw [HC.out, if_neg (fun h => hm h.1)])
            have HRW := Lib.hid (heap_setCell_same _ _ 1 _ _ (.int .i64 l.length) (heap_setCell_same _ _ 0 _ _ (.int .i64 18) hF5))
            have HBL := Lib.hid ((b5.setCell (p := ⟨w.heap.size, 0, none⟩) (Nat.le_refl _) (.int .i64 18)).setCell (p := ⟨w.heap.size, 1, none⟩) (Nat.le_refl _) (.int .i64 l.length))
            have d0 := blk_cell hF5 0
            have d1 := blk_cell hF5 1
            have z0 := blk_frozen hF5 0
            have z1 := blk_frozen hF5 1
            clear HC HB HN HA bb hF5 hR5 b5
            go_wp2
            have e0 := blk_cell HRW.out 0
            have e1 := blk_cell HRW.out 1
            exact bodyPost_ret (v := .agg #[.int .i64 18, .int .i64 l.length]) (by simp [results, Try.results16, go_sem, e0, e1]) rfl ⟨by rw [HJ.out], HBL.out⟩
end Go.Proofs.Ytimalojaiaofkaa.SchedP
