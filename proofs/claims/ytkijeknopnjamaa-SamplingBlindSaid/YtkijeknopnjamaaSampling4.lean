import Derived.Test.YtkijeknopnjamaaSampling3
set_option linter.unusedVariables false
set_option linter.unusedSimpArgs false
namespace Go.Proofs.Ytkijeknopnjamaa.Sampling
open Go.RowKit Base Go.Proofs.Ytkijeknopnjamaa.PSamplingSteps Go.Proofs.YtkijeknopnjamaaW.PrintWords Go.Proofs.YtkijeknopnjamaaW.PrintLast
theorem rread (A : Option Addr) (c : Nat) (l : List Msg) (n : Int) (r1 : ByteArray) (r2 r3 : Int) (w : World) (hC : Kd.C kmsg w A l.length l) (hc : l.length ≤ c) (h : broadsheetref32_Read.f l n = some (r1, r2, r3)) :
    Calls Try.prog 18 #[.slice A l.length c, .int .u64 n] w fun e w' => e = .returned (.tuple #[.string r1, .int .u64 r2, .int .i64 r3]) ∧ Below w.heap.size w w' := broadsheetref32_Read.calls A c l n r1 r2 r3 w hC hc h
theorem put_heap (w : World) (b : Nat) (s : ByteArray) (n : Int) (i : Nat) (h : i ≠ b) : (put w b s n).heap[i]? = w.heap[i]? := by
  unfold put
  rw [Below.heap_setCell _ _ _ i h, Below.heap_setCell _ _ _ i h, Below.heap_setCell _ _ _ i h]
theorem Port.kept {w w' : World} {b : Nat} {z : Int} {t : Bool} {s : ByteArray} {f : Int} (h : Port w b z t s f) (e : w'.heap[b]? = w.heap[b]?) : Port w' b z t s f := by
  have c : ∀ j, w'.cell? ⟨b, j, none⟩ = w.cell? ⟨b, j, none⟩ := fun j => by unfold World.cell?; rw [e]
  have g : ∀ j, w'.frozen? ⟨b, j, none⟩ = w.frozen? ⟨b, j, none⟩ := fun j => by unfold World.frozen?; rw [e]
  unfold Port
  rw [c, c, c, c, g, g, g]
  exact h
set_option maxHeartbeats 4000000 in
set_option maxRecDepth 20000 in
theorem steps (z : Int) (A : Option Addr) (c : Nat) (l : List Stp) (w : World) (hC : Kd.C kst w A l.length l) (hn : ∀ x ∈ l, 0 ≤ x.n ∧ x.n < 18446744073709551616) (hz : -9223372036854775808 ≤ z ∧ z < 9223372036854775808) :
    Calls Try.prog 3 #[.int .i64 z, .slice A l.length c] w fun e w' => e = .returned (.bool true) ∧ Below w.heap.size w w' := by
  by_cases hbig : 200 < l.length
  · go_enter Try.func3, Try.ntmps3
    go_wp2_with fail
    refine (awake _).mono ?_
    rintro e w' ⟨rfl, hb⟩
    go_wp2
    go_ret
    exact ⟨rfl, hb⟩
  · have HN := Lib.hid hn
    clear hn hz
    go_enter Try.func3, Try.ntmps3
    go_wp2_with fail
    refine (new z _).mono ?_
    rintro e w' ⟨rfl, rfl⟩
    go_wp2
    go_loopw [6, 7] (fun v i wr => ∃ (k : Nat) (ms : List Msg) (t : Bool) (s : ByteArray) (f : Int), k ≤ l.length ∧ i = .int .i64 (k : Int) ∧ ms.length ≤ k ∧ Port wr w.heap.size (mx z) t s f ∧ Hid (St ms t s f) ∧
      Kd.R kmsg tmsg wr w.heap.size (fun b => b ≠ w.heap.size) v ms ∧ Below w.heap.size w wr ∧ w.heap.size < wr.heap.size) (fun _ i _ => (l.length - (intOf i).toNat))
    case atStart => exact ⟨0, [], false, ByteArray.empty, 0, by omega, rfl, by simp, Port.new w (mx z), Lib.hid (.inl ⟨rfl, rfl, rfl, rfl⟩), Kd.R_nil _ _ _ _ _, (Below.refl _ _).alloc (Nat.le_refl _) _, by simp⟩
    case round =>
      obtain ⟨k, ms, t, s, f, hk, rfl, hmk, hp, hst, hR, hb, hs⟩ := hrel
      have k0 : (0 : Int) ≤ (k : Int) := by omega
      by_cases hlt : k < l.length
      · have k2 : (k : Int) < (l.length : Int) := by omega
        have hCr := Kd.C_below hC hb
        obtain ⟨ad, rfl, c0, c1, c2⟩ := step_cells hCr k hlt
        have hx := Lib.hid (HN.out _ (List.getElem_mem hlt))
        generalize l[k] = x at *
        obtain ⟨xr, xs, xn⟩ := x
        dsimp only at c0 c1 c2
        obtain ⟨A1, cc, rfl⟩ := Kd.R_slice hR
        have hm3 : ms.length ≤ 300 := by omega
        cases xr with
        | true =>
          obtain ⟨W1, hW1⟩ : ∃ W1, W1 = wr.alloc (.cells #[.bool true, .string xs, .int .u64 xn] 29) := ⟨_, rfl⟩
          go_wp2_with fail
          rw [← hW1]
          have hbw : Below wr.heap.size wr W1 := by rw [hW1]; exact (Below.refl _ _).alloc (Nat.le_refl _) _
          have hp1 := hp.below hbw hs
          have hR1 := Kd.R_below hR hbw
          have hb1 := bstep hb hbw
          have hs1 : wr.heap.size < W1.heap.size := by rw [hW1]; simp
          have e1 : W1.cell? ⟨wr.heap.size, 1, none⟩ = some (.string xs) := by rw [hW1]; simp
          have e2 : W1.cell? ⟨wr.heap.size, 2, none⟩ = some (.int .u64 xn) := by rw [hW1]; simp
          clear hW1
          have hCm : Kd.C kmsg W1 A1 ms.length ms := (Kd.R_reads' hR1).2.2
          have hcm : ms.length ≤ cc := (Kd.R_reads' hR1).2.1
          rcases hst.out with ⟨hms, rfl, rfl, rfl⟩ | ⟨m0, hms, rfl, f0⟩
          · have hrr : broadsheetref32_Read.f ms xn = some (⟨#[]⟩, 0, 18) := by rw [hms]; rfl
            clear hms
            refine (read_none xn (mx z) _ _ hp1).mono ?_
            rintro e w' ⟨rfl, rfl⟩
            go_wp2_with fail
            refine (rread A1 cc ms xn _ _ _ _ hCm hcm hrr).mono ?_
            rintro e w2 ⟨rfl, hb2⟩
            go_wp2
            go_roundw
            case rel => exact ⟨k + 1, ms, false, ByteArray.empty, 0, by omega, by go_num, by omega, hp1.below hb2 (by omega), hst, Kd.R_below hR1 hb2, bstep hb1 hb2, Nat.lt_of_lt_of_le (Nat.lt_trans hs hs1) hb2.size⟩
            case measure => simp [intOf]; omega
          · have hrr : broadsheetref32_Read.f ms xn = some (s, age xn f, 0) := by
              rw [hms]
              refine ref_last m0 s f xn ?_ hx.out.2 f0
              rw [hms] at hm3
              simp at hm3
              omega
            clear hms
            refine (read_last xn (mx z) f s _ _ hp1 hx.out.2 f0).mono ?_
            rintro e w' ⟨rfl, rfl⟩
            go_wp2_with fail
            refine (rread A1 cc ms xn _ _ _ _ (Kd.C_drew hCm) hcm hrr).mono ?_
            rintro e w2 ⟨rfl, hb2⟩
            have hb3 : Below W1.heap.size W1 w2 := ((Below.refl _ _).drew).trans hb2
            go_wp2
            go_roundw
            case rel => exact ⟨k + 1, ms, true, s, f, by omega, by go_num, by omega, hp1.below hb3 (by omega), hst, Kd.R_below hR1 hb3, bstep hb1 hb3, Nat.lt_of_lt_of_le (Nat.lt_trans hs hs1) hb3.size⟩
            case measure => simp [intOf]; omega
        | false =>
          obtain ⟨W1, hW1⟩ : ∃ W1, W1 = wr.alloc (.cells #[.bool false, .string xs, .int .u64 xn] 29) := ⟨_, rfl⟩
          go_wp2_with fail
          rw [← hW1]
          have hbw : Below wr.heap.size wr W1 := by rw [hW1]; exact (Below.refl _ _).alloc (Nat.le_refl _) _
          have hp1 := hp.below hbw hs
          have hR1 := Kd.R_below hR hbw
          have hb1 := bstep hb hbw
          have hs1 : wr.heap.size < W1.heap.size := by rw [hW1]; simp
          have e1 : W1.cell? ⟨wr.heap.size, 1, none⟩ = some (.string xs) := by rw [hW1]; simp
          have e2 : W1.cell? ⟨wr.heap.size, 2, none⟩ = some (.int .u64 xn) := by rw [hW1]; simp
          clear hW1
          have hR1' : Kd.R kmsg tmsg W1 w.heap.size (fun b => b ≠ w.heap.size ∧ b < wr.heap.size) (.slice A1 ms.length cc) ms := Kd.R_below (Kd.R_mono (Kd.R_bound hR) (fun b h => ⟨h.1, h.2.2.1⟩)) hbw
          by_cases hl : (xs.size : Int) > mx z
          · refine (broadsheetref32_Write.calls _ _ ms z xs xn ms 3 w W1 hb1 hR1' (by rw [ref_write ms z xn xs hm3, if_pos hl])).mono ?_
            rintro e w2 ⟨v0, rfl, hR2, hb2, hK2⟩
            have hp2 := hp1.kept (hK2.2 w.heap.size (by omega) (fun h => h.1 rfl))
            have e1' := (cell_kept e1 hK2 (fun h => Nat.lt_irrefl _ h.2))
            have e2' := (cell_kept e2 hK2 (fun h => Nat.lt_irrefl _ h.2))
            go_wp2_with fail
            refine (write_long xs xn (mx z) _ _ hp2.1 hl).mono ?_
            rintro e w' ⟨rfl, rfl⟩
            go_wp2
            go_roundw
            case rel => exact ⟨k + 1, ms, t, s, f, by omega, by go_num, by omega, hp2, hst, Kd.R_mono hR2 (fun b h => h.elim (fun h => h.1) (fun h => by omega)), hb2, Nat.lt_of_lt_of_le (Nat.lt_trans hs hs1) hK2.1⟩
            case measure => simp [intOf]; omega
          · refine (broadsheetref32_Write.calls _ _ ms z xs xn (ms ++ [⟨xs, xn⟩]) 0 w W1 hb1 hR1' (by rw [ref_write ms z xn xs hm3, if_neg hl])).mono ?_
            rintro e w2 ⟨v0, rfl, hR2, hb2, hK2⟩
            have hp2 := hp1.kept (hK2.2 w.heap.size (by omega) (fun h => h.1 rfl))
            have e1' := (cell_kept e1 hK2 (fun h => Nat.lt_irrefl _ h.2))
            have e2' := (cell_kept e2 hK2 (fun h => Nat.lt_irrefl _ h.2))
            have hl' : (xs.size : Int) ≤ mx z := by omega
            have hR2' : Kd.R kmsg tmsg w2 w.heap.size (fun b => b ≠ w.heap.size) v0 (ms ++ [⟨xs, xn⟩]) := Kd.R_mono hR2 (fun b h => h.elim (fun h => h.1) (fun h => by omega))
            go_wp2_with fail
            refine (write xs xn (mx z) _ _ _ _ _ hp2 hl').mono ?_
            rintro e w' ⟨rfl, rfl⟩
            go_wp2
            go_roundw
            case rel => exact ⟨k + 1, ms ++ [⟨xs, xn⟩], true, xs, xn, by omega, by go_num, by simp; omega, hp2.put xs xn, Lib.hid (.inr ⟨ms, rfl, rfl, hx.out.1⟩), Kd.R_move hR2' (fun b h => put_heap _ _ _ _ _ h), put_below hb2 (Nat.le_refl _), by rw [put_size]; exact Nat.lt_of_lt_of_le (Nat.lt_trans hs hs1) hK2.1⟩
            case measure => simp [intOf]; omega
      · go_wp2_with fail
        refine (size_ (mx z) _ _ hp.1).mono ?_
        rintro e w' ⟨rfl, rfl⟩
        unfold mx
        by_cases hz0 : z < 0
        · rw [if_pos hz0]
          go_wp2_with fail
          refine (awake _).mono ?_
          rintro e w' ⟨rfl, hb2⟩
          go_wp2
          go_ret
          exact ⟨rfl, bstep hb hb2⟩
        · rw [if_neg hz0]
          go_wp2_with fail
          refine (awake _).mono ?_
          rintro e w' ⟨rfl, hb2⟩
          go_wp2
          go_ret
          exact ⟨rfl, bstep hb hb2⟩
end Go.Proofs.Ytkijeknopnjamaa.Sampling
