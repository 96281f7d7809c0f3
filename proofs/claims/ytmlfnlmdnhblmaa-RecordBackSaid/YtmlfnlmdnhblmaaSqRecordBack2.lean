import Derived.Test.YtmlfnlmdnhblmaaPRecordBackx1
import Derived.Test.YtmlfnlmdnhblmaaSqRecordBack1
set_option linter.unusedVariables false
set_option linter.unusedSimpArgs false
namespace Go.Proofs.Ytmlfnlmdnhblmaa.Rec
open Go.RowKit Base Sp Flat Go.Proofs.YtmlfnlmdnhblmaaW.PrintWords Go.Proofs.YtmlfnlmdnhblmaaW.PrintLast Go.Proofs.YtmlfnlmdnhblmaaW.PrintMore Wd Al Buf Smp
/-- The numbers' bytes after k rounds. -/
def pre (x : Smp) : Nat → List UInt8
  | 0 => []
  | 1 => nbytes x.frame 8
  | 2 => nbytes x.frame 8 ++ nbytes x.run 8
  | _ => rhd x
/-- What is known while a record is put. -/
structure Pp (w0 w : World) (bb g : Nat) (x : Smp) (l : List UInt8) (F : Nat → Prop) : Prop where
  hb : BB w F bb l
  hx : w.heap[w0.heap.size]? = some (.cells (cells x).toArray 26 (0, 0))
  hg : w.heap[g]? = some (.cells #[.int .u64 x.frame, .int .u64 x.run, .int .u64 x.seq] 22 (0, 0))
  xF : ¬ F w0.heap.size
  gF : ¬ F g
  fF : ∀ k, F k → w0.heap.size ≤ k
  be : Below w0.heap.size w0 w
theorem Pp.wr {w0 w w' : World} {bb g : Nat} {x : Smp} {l l' : List UInt8} {F : Nat → Prop} (h : Pp w0 w bb g x l F) (hw : Wr w F bb l' w') : ∃ F', Pp w0 w' bb g x l' F' := by
  obtain ⟨F2, hb, hm, hg⟩ := hw
  have l1 := blk_lt h.hx
  have l2 := blk_lt h.hg
  exact ⟨F2, hb, (hm.block _ l1 h.xF).trans h.hx, (hm.block _ l2 h.gF).trans h.hg, fun hf => (hg _ hf).elim h.xF (fun h1 => by omega), fun hf => (hg _ hf).elim h.gF (fun h1 => by omega), grow_up hg h.fF h.be.size, hm.below h.be h.be.size h.fF⟩
theorem Pp.bel {w0 w w' : World} {bb g : Nat} {x : Smp} {l : List UInt8} {F : Nat → Prop} (h : Pp w0 w bb g x l F) (hb : Below w.heap.size w w') : Pp w0 w' bb g x l F :=
  ⟨h.hb.below hb, blk_below h.hx hb, blk_below h.hg hb, h.xF, h.gF, h.fF, bstep h.be hb⟩
theorem putp (L : List UInt8) (n s : Int) (m : Nat) (F : Nat → Prop) (bb : Nat) (w : World) (h : BB w F bb L) (hl : L.length = m) (hm : m ≤ 100) (hg : gapv m s = 0) (h0 : 0 ≤ n) (h1 : n < 18446744073709551616) (hc : pcode n s = 0) :
    Calls Try.prog 16 #[.pointer (some ⟨bb, 0, none⟩), .int .u64 n, .int .i64 s] w fun e w' => e = .returned (.int .i64 0) ∧ Wr w F bb (L ++ nbytes n s) w' := by
  have := put_good F bb L n s w h (by omega) h0 h1 hc
  rwa [pbytes_flat L n s m hl hg] at this
theorem wf_byte {n : Int} (h0 : 0 ≤ n) (h1 : n ≤ 65535) : IntKind.u64.wrap n = n := wrapu64 h0 (by omega)
set_option maxRecDepth 20000 in
set_option maxHeartbeats 4000000 in
theorem put_bad (x : Smp) (hb : bad x = true) (w : World) :
    Calls Try.prog 7 #[.agg (cells x).toArray] w fun e' w' => e' = .returned (.tuple #[.string (rput x).1, .int .i64 (rput x).2]) ∧ Below w.heap.size w w' := by
  have hr : rput x = (⟨#[]⟩, 7) := by unfold rput; rw [if_pos hb]
  rw [hr]
  have b0 : Below w.heap.size w (w.alloc (.cells (cells x).toArray 26)) := (Below.refl _ _).alloc (Nat.le_refl _) _
  have BX := BoxC.of (heap_alloc_new w (.cells (cells x).toArray 26))
  have c0 := BX.c0
  have c1 := BX.c1
  clear BX
  unfold bad at hb
  simp only [Bool.or_eq_true, decide_eq_true_eq] at hb
  by_cases h1 : x.op < 0
  · clear hb
    go_enter Try.func7, Try.ntmps7
    go_wp2
    go_ret2
    exact ⟨rfl, b0⟩
  by_cases h2 : 255 < x.op
  · clear hb
    go_enter Try.func7, Try.ntmps7
    go_wp2
    go_ret2
    exact ⟨rfl, b0⟩
  by_cases h3 : x.writer < 0
  · clear hb
    go_enter Try.func7, Try.ntmps7
    go_wp2
    go_ret2
    exact ⟨rfl, b0⟩
  · have h4 : 255 < x.writer := by omega
    clear hb
    go_enter Try.func7, Try.ntmps7
    go_wp2
    go_ret2
    exact ⟨rfl, b0⟩
set_option maxRecDepth 20000 in
set_option maxHeartbeats 4000000 in
theorem put_long (x : Smp) (hb : bad x = false) (hl : 512 < x.data.size) (w : World) :
    Calls Try.prog 7 #[.agg (cells x).toArray] w fun e' w' => e' = .returned (.tuple #[.string (rput x).1, .int .i64 (rput x).2]) ∧ Below w.heap.size w w' := by
  have hr : rput x = (⟨#[]⟩, 3) := by unfold rput; rw [if_neg (by rw [hb]; decide), if_pos hl]
  rw [hr]
  have b0 : Below w.heap.size w (w.alloc (.cells (cells x).toArray 26)) := (Below.refl _ _).alloc (Nat.le_refl _) _
  have BX := BoxC.of (heap_alloc_new w (.cells (cells x).toArray 26))
  have c0 := BX.c0
  have c1 := BX.c1
  have c22 := BX.c22
  clear BX
  obtain ⟨h1, h2, h3, h4⟩ := bad_f hb
  have hl2 : (512 : Int) < (x.data.size : Int) := by omega
  clear hb hl
  go_enter Try.func7, Try.ntmps7
  go_wp2
  go_ret2
  exact ⟨rfl, b0⟩
set_option maxRecDepth 20000 in
set_option maxHeartbeats 4000000 in
theorem put_fine (x : Smp) (hb : bad x = false) (hl : x.data.size ≤ 512) (w : World) :
    Calls Try.prog 7 #[.agg (cells x).toArray] w fun e' w' => e' = .returned (.tuple #[.string (rput x).1, .int .i64 (rput x).2]) ∧ Below w.heap.size w w' := by
  have hr : rput x = (tx (recb x), 0) := by unfold rput; rw [if_neg (by rw [hb]; decide), if_neg (by omega)]
  rw [hr]
  have b0 : Below w.heap.size w (w.alloc (.cells (cells x).toArray 26)) := (Below.refl _ _).alloc (Nat.le_refl _) _
  have h0 := heap_alloc_new w (.cells (cells x).toArray 26)
  have BX := BoxC.of h0
  have c0 := BX.c0
  have c1 := BX.c1
  have c22 := BX.c22
  clear BX
  have GD := Lib.hid x.good
  have HB := Lib.hid (bad_f hb)
  have HS := Lib.hid hl
  obtain ⟨h1, h2, h3, h4⟩ := bad_f hb
  have hl2 : (x.data.size : Int) ≤ 512 := by omega
  clear hb hl
  obtain ⟨W0, hW0⟩ : ∃ W0, W0 = w.alloc (.cells (cells x).toArray 26) := ⟨_, rfl⟩
  rw [← hW0] at b0 h0
  go_enter Try.func7, Try.ntmps7
  go_wp2_with fail
  rw [← hW0]
  clear hW0 c0 c1 c22 h1 h2 h3 h4 hl2
  refine (Buf.new W0).mono ?_
  rintro e' w1 ⟨rfl, k1, b1⟩
  have hx1 := (b1.block w.heap.size (blk_lt h0)).trans h0
  have BX := BoxC.of hx1
  have c2 := BX.c2
  have c3 := BX.c3
  have c4 := BX.c4
  clear BX
  have hne : w1.heap.size < (w1.alloc (.cells #[.int .u64 x.frame, .int .u64 x.run, .int .u64 x.seq] 22)).heap.size := by rw [World.size_alloc]; exact Nat.lt_succ_self _
  have L0 : Pp w (w1.alloc (.cells #[.int .u64 x.frame, .int .u64 x.run, .int .u64 x.seq] 22)) W0.heap.size w1.heap.size x (pre x 0) (fun k => k = W0.heap.size) :=
    ⟨k1.below ((Below.refl _ _).alloc (Nat.le_refl _) _), ((Below.refl _ _).alloc (Nat.le_refl _) _ : Below w1.heap.size w1 _).block _ (blk_lt hx1) |>.trans hx1, heap_alloc_new _ _, fun hh => by have := blk_lt h0; omega, fun hh => by have := k1.lt _ rfl; omega, fun k hk => by have := blk_lt h0; omega, bstep (bstep b0 b1) ((Below.refl _ _).alloc (Nat.le_refl _) _)⟩
  clear hne k1 b0 b1 h0 hx1
  generalize W0.heap.size = bb at *
  generalize hgs : w1.heap.size = g at L0
  go_wp2
  clear hgs c2 c3 c4
  generalize (w1.alloc (.cells #[.int .u64 x.frame, .int .u64 x.run, .int .u64 x.seq] 22)) = W2 at *
  go_loopw [40] (fun i wr => ∃ (k : Nat) (F : Nat → Prop), k ≤ 3 ∧ i = .int .i64 (k : Int) ∧ Pp w wr bb g x (pre x k) F) (fun i _ => (3 - (intOf i).toNat))
  case atStart => exact ⟨0, _, by decide, rfl, L0⟩
  case round =>
    clear L0
    obtain ⟨k, F, hk, rfl, HL⟩ := hrel
    have hkk : k = 0 ∨ k = 1 ∨ k = 2 ∨ k = 3 := by omega
    rcases hkk with rfl | rfl | rfl | rfl
    · have hcell : wr.cell? ⟨g, 0, none⟩ = some (.int .u64 x.frame) := blk_cell HL.hg 0
      have hP := putp (pre x 0) x.frame 8 0 F bb wr HL.hb rfl (by decide) (by kernel_rfl) (u64r GD.out.2.2.1).1 (u64r GD.out.2.2.1).2 (pcode8 _ (u64r GD.out.2.2.1).2)
      go_wp2_with fail
      refine hP.mono ?_
      rintro e' w2 ⟨rfl, hw2⟩
      obtain ⟨F2, HL2⟩ := HL.wr hw2
      clear hP hw2 HL hcell
      go_wp2
      go_roundw
      case rel => exact ⟨0 + 1, F2, by decide, rfl, HL2⟩
      case measure => decide
    · have hcell : wr.cell? ⟨g, 1, none⟩ = some (.int .u64 x.run) := blk_cell HL.hg 1
      have hP := putp (pre x 1) x.run 8 8 F bb wr HL.hb (nbytes_len _ _) (by decide) (by kernel_rfl) (u64r GD.out.2.2.2.1).1 (u64r GD.out.2.2.2.1).2 (pcode8 _ (u64r GD.out.2.2.2.1).2)
      go_wp2_with fail
      refine hP.mono ?_
      rintro e' w2 ⟨rfl, hw2⟩
      obtain ⟨F2, HL2⟩ := HL.wr hw2
      clear hP hw2 HL hcell
      go_wp2
      go_roundw
      case rel => exact ⟨1 + 1, F2, by decide, rfl, HL2⟩
      case measure => decide
    · have hcell : wr.cell? ⟨g, 2, none⟩ = some (.int .u64 x.seq) := blk_cell HL.hg 2
      have hP := putp (pre x 2) x.seq 8 16 F bb wr HL.hb (by show (nbytes _ 8 ++ nbytes _ 8).length = 16; rw [List.length_append, nbytes_len, nbytes_len]; rfl) (by decide) (by kernel_rfl) (u64r GD.out.2.2.2.2.1).1 (u64r GD.out.2.2.2.2.1).2 (pcode8 _ (u64r GD.out.2.2.2.2.1).2)
      go_wp2_with fail
      refine hP.mono ?_
      rintro e' w2 ⟨rfl, hw2⟩
      obtain ⟨F2, HL2⟩ := HL.wr hw2
      clear hP hw2 HL hcell
      go_wp2
      go_roundw
      case rel => exact ⟨2 + 1, F2, by decide, rfl, HL2⟩
      case measure => decide
    · have BX := BoxC.of HL.hx
      have c0 := BX.c0
      clear BX
      have hw0 := wf_byte HB.out.1 (by have := HB.out; omega)
      have hP := putp (rhd x) x.op 1 24 F bb wr HL.hb (rhd_len x) (by decide) (by kernel_rfl) HB.out.1 (by have := HB.out; omega) (pcode1 _ HB.out.2.1)
      go_wp2_with fail
      refine hP.mono ?_
      rintro e' w2 ⟨rfl, hw2⟩
      obtain ⟨F2, HL2⟩ := HL.wr hw2
      clear hP hw2 HL c0 hw0 hk
      have BX := BoxC.of HL2.hx
      have c0 := BX.c1
      clear BX
      have hw0 := wf_byte HB.out.2.2.1 (by have := HB.out; omega)
      have hP := putp (rhd x ++ nbytes x.op 1) x.writer 1 25 F2 bb w2 HL2.hb (by rw [List.length_append, rhd_len, nbytes_len]; rfl) (by decide) (by kernel_rfl) HB.out.2.2.1 (by have := HB.out; omega) (pcode1 _ HB.out.2.2.2)
      go_wp2_with fail
      refine hP.mono ?_
      rintro e' w3 ⟨rfl, hw3⟩
      obtain ⟨F3, HL3⟩ := HL2.wr hw3
      clear hP hw3 HL2 c0 hw0
      have BX := BoxC.of HL3.hx
      have c0 := BX.c22
      clear BX
      have hw0 : IntKind.u64.wrap (x.data.size : Int) = (x.data.size : Int) := wf_byte (by omega) (by have := HS.out; omega)
      have hP := putp (rhd x ++ nbytes x.op 1 ++ nbytes x.writer 1) (x.data.size : Int) 2 26 F3 bb w3 HL3.hb (by rw [List.length_append, List.length_append, rhd_len, nbytes_len, nbytes_len]; rfl) (by decide) (by kernel_rfl) (by omega) (by have := HS.out; omega) (pcode2 _ (by have := HS.out; omega))
      go_wp2_with fail
      refine hP.mono ?_
      rintro e' w4 ⟨rfl, hw4⟩
      obtain ⟨F4, HL4⟩ := HL3.wr hw4
      clear hP hw4 HL3 c0 hw0
      have BX := BoxC.of HL4.hx
      have ck := BX.ck
      clear BX
      have hcv := run_convert_bytes_arg (P := Try.prog) w4 46 5 Try.underlying46 Try.underlying5 w.heap.size 5 17 17 x.key (key_len x) ck 9 Try.underlying9
      rw [kby_tx] at hcv
      have hP := Buf.text F4 bb _ (tx (kby x.key)) w4 HL4.hb (by have := rmd_len x; unfold rmd at this; rw [tx_size, kby_len, key_len]; omega)
      go_wp2_with fail
      refine hP.mono ?_
      rintro e' w5 ⟨rfl, hw5⟩
      obtain ⟨F5, HL5⟩ := HL4.wr hw5
      clear hP hw5 HL4 hcv ck
      have BX := BoxC.of HL5.hx
      have c0 := BX.c22
      clear BX
      have hlen5 : (rmd x ++ kby x.key).length = 45 := by rw [List.length_append, rmd_len, kby_len, key_len]
      have hP := Buf.text F5 bb (rmd x ++ kby x.key) x.data w5 HL5.hb (by have := HS.out; omega)
      go_wp2_with fail
      refine hP.mono ?_
      rintro e' w6 ⟨rfl, hw6⟩
      obtain ⟨F6, HL6⟩ := HL5.wr hw6
      clear hP hw6 HL5 c0 hlen5
      have HL7 : Pp w w6 bb g x (rbd x) F6 := HL6
      clear HL6
      have hP := Buf.len_ F6 bb (rbd x) w6 HL7.hb
      have hl45 : (((rbd x).length : Nat) : Int) = 45 + (x.data.size : Int) := by rw [rbd_len]; omega
      rw [hl45] at hP
      go_wp2_with fail
      refine hP.mono ?_
      rintro e' w7 ⟨rfl, rfl⟩
      clear hP
      have hG := gapv_le (45 + (x.data.size : Int)) 8
      have hP := Al.gap (45 + (x.data.size : Int)) 8 (by omega) (by have := HS.out; omega) w6
      rw [show gapv (45 + (x.data.size : Int)) 8 = (rgp x : Int) from by unfold rgp; omega] at hP
      have hR := rgp_le x
      clear hG hl45
      go_wp2_with fail
      refine hP.mono ?_
      rintro e' w8 ⟨rfl, b8⟩
      have HL8 := HL7.bel b8
      clear hP HL7 b8
      have hP := Try.strings_Repeat ⟨#[0]⟩ (rgp x) w8 (by omega) (by have : (⟨#[0]⟩ : ByteArray).size = 1 := rfl; rw [this]; omega)
      rw [zeros_str] at hP
      go_wp2_with fail
      refine hP.mono ?_
      rintro e' w9 ⟨rfl, b9⟩
      have HL9 := HL8.bel b9
      clear hP HL8 b9
      have hP := Buf.text F6 bb (rbd x) ⟨(List.replicate (rgp x) 0).toArray⟩ w9 HL9.hb (by have := HS.out; rw [rbd_len]; show _ + (List.replicate (rgp x) (0 : UInt8)).toArray.size ≤ _; simp; omega)
      go_wp2_with fail
      refine hP.mono ?_
      rintro e' w10 ⟨rfl, hw10⟩
      obtain ⟨F10, HL10⟩ := HL9.wr hw10
      clear hP hw10 HL9
      have HL11 : Pp w w10 bb g x (recb x) F10 := HL10
      clear HL10
      have hP := Buf.bytes F10 bb (recb x) w10 HL11.hb
      go_wp2_with fail
      refine hP.mono ?_
      rintro e' w11 ⟨rfl, _, m11⟩
      go_wp2
      go_ret2
      exact ⟨rfl, m11.below HL11.be HL11.be.size HL11.fF⟩
theorem put (x : Smp) (w : World) :
    Calls Try.prog 7 #[.agg (cells x).toArray] w fun e' w' => e' = .returned (.tuple #[.string (rput x).1, .int .i64 (rput x).2]) ∧ Below w.heap.size w w' := by
  by_cases hb : bad x = true
  · exact put_bad x hb w
  · have hb2 : bad x = false := by simpa using hb
    by_cases hl : 512 < x.data.size
    · exact put_long x hb2 hl w
    · exact put_fine x hb2 (by omega) w
end Go.Proofs.Ytmlfnlmdnhblmaa.Rec
namespace Go.Proofs.Ytmlfnlmdnhblmaa.Rec
open Go.RowKit Base Sp Flat Go.Proofs.YtmlfnlmdnhblmaaW.PrintWords Go.Proofs.YtmlfnlmdnhblmaaW.PrintLast Go.Proofs.YtmlfnlmdnhblmaaW.PrintMore Wd Al Buf Smp Go.Proofs.Ytmlfnlmdnhblmaa.PRecordPuts
def rh2 (x : Smp) : List UInt8 := nbytes x.frame 8 ++ nbytes x.run 8
def rm1 (x : Smp) : List UInt8 := rhd x ++ nbytes x.op 1
def rm2 (x : Smp) : List UInt8 := rm1 x ++ nbytes x.writer 1
/-- The bytes before key byte j. -/
def kk (x : Smp) (j : Nat) : List UInt8 := rmd x ++ kby (x.key.take j)
theorem rh2_len (x : Smp) : (rh2 x).length = 16 := by unfold rh2; rw [List.length_append, nbytes_len, nbytes_len]; rfl
theorem rm1_len (x : Smp) : (rm1 x).length = 25 := by unfold rm1; rw [List.length_append, rhd_len, nbytes_len]; rfl
theorem rm2_len (x : Smp) : (rm2 x).length = 26 := by unfold rm2; rw [List.length_append, rm1_len, nbytes_len]; rfl
theorem kk_zero (x : Smp) : kk x 0 = rmd x := by unfold kk; rw [List.take_zero]; exact List.append_nil _
theorem kk_all (x : Smp) : kk x 17 = rmd x ++ kby x.key := by unfold kk; rw [List.take_of_length_le (by rw [key_len]; omega)]
theorem kk_len (x : Smp) (j : Nat) (h : j ≤ 17) : (kk x j).length = 28 + j := by unfold kk; rw [List.length_append, rmd_len, kby_len, List.length_take, key_len]; omega
theorem kk_succ (x : Smp) (j : Nat) (h : j < 17) : tx (kk x j) ++ strOfNums [x.key.getD j 0] = tx (kk x (j + 1)) := by
  have hj : j < x.key.length := by rw [key_len]; exact h
  rw [kby_tx, ← tx_app]
  unfold kk
  rw [List.append_assoc, List.take_succ_eq_append_getElem hj, List.getD_eq_getElem?_getD, List.getElem?_eq_getElem hj]
  unfold kby
  rw [List.map_append]
  rfl
theorem meas17 {j : Nat} (h : j < 17) : 17 - (intOf (Value.int IntKind.i64 ((j : Int) + 1))).toNat < 17 - (intOf (Value.int IntKind.i64 (j : Int))).toNat := by simp [intOf]; omega
theorem pto_flat (L : List UInt8) (n s : Int) (m : Nat) (hl : L.length = m) (hg : gapv m s = 0) (hc : pcode n s = 0) : pto L n s = L ++ nbytes n s := by
  unfold pto
  rw [if_pos hc, pbytes_flat L n s m hl hg]
theorem rput40 (L : List UInt8) (n s : Int) (m : Nat) (hl : L.length = m) (hm : m ≤ 100) (hg : gapv m s = 0) (h0 : 0 ≤ n) (h1 : n < 18446744073709551616) (hc : pcode n s = 0) (w : World) :
    Calls Try.prog 22 #[.string (tx L), .int .u64 n, .int .i64 s] w fun e w' => e = .returned (.string (tx (L ++ nbytes n s))) ∧ Below w.heap.size w w' := by
  have h := rput2_eq L n s (by omega) h0 h1
  refine broadsheetref40_put.calls 12 (tx L) n s _ w ?_
  unfold broadsheetref40_put.f
  rw [h, Option.bind_some, pto_flat L n s m hl hg hc]
theorem zeros_eq (n : Nat) (hn : n ≤ 1000) : broadsheetref02_Zeros.f (n : Int) = some (tx (List.replicate n 0)) := by
  unfold broadsheetref02_Zeros.f
  rw [if_pos (by omega), if_pos (by omega), Int.toNat_natCast, nums_zeros]
theorem zeros (n : Nat) (hn : n ≤ 1000) (w : World) : Calls Try.prog 23 #[.int .i64 (n : Int)] w fun e w' => e = .returned (.string (tx (List.replicate n 0))) ∧ Below w.heap.size w w' :=
  broadsheetref02_Zeros.calls (n : Int) _ w (zeros_eq n hn)
set_option maxRecDepth 20000 in
set_option maxHeartbeats 4000000 in
theorem rput_bad (x : Smp) (hb : bad x = true) (w : World) :
    Calls Try.prog 8 #[.agg (cells x).toArray] w fun e' w' => e' = .returned (.tuple #[.string (rput x).1, .int .i64 (rput x).2]) ∧ Below w.heap.size w w' := by
  have hr : rput x = (⟨#[]⟩, 7) := by unfold rput; rw [if_pos hb]
  rw [hr]
  have b0 : Below w.heap.size w (w.alloc (.cells (cells x).toArray 26)) := (Below.refl _ _).alloc (Nat.le_refl _) _
  have BX := BoxC.of (heap_alloc_new w (.cells (cells x).toArray 26))
  have c0 := BX.c0
  have c1 := BX.c1
  clear BX
  unfold bad at hb
  simp only [Bool.or_eq_true, decide_eq_true_eq] at hb
  by_cases h1 : x.op < 0
  · clear hb
    go_enter Try.func8, Try.ntmps8
    go_wp2
    go_ret2
    exact ⟨rfl, b0⟩
  by_cases h2 : 255 < x.op
  · clear hb
    go_enter Try.func8, Try.ntmps8
    go_wp2
    go_ret2
    exact ⟨rfl, b0⟩
  by_cases h3 : x.writer < 0
  · clear hb
    go_enter Try.func8, Try.ntmps8
    go_wp2
    go_ret2
    exact ⟨rfl, b0⟩
  · have h4 : 255 < x.writer := by omega
    clear hb
    go_enter Try.func8, Try.ntmps8
    go_wp2
    go_ret2
    exact ⟨rfl, b0⟩
set_option maxRecDepth 20000 in
set_option maxHeartbeats 4000000 in
theorem rput_long (x : Smp) (hb : bad x = false) (hl : 512 < x.data.size) (w : World) :
    Calls Try.prog 8 #[.agg (cells x).toArray] w fun e' w' => e' = .returned (.tuple #[.string (rput x).1, .int .i64 (rput x).2]) ∧ Below w.heap.size w w' := by
  have hr : rput x = (⟨#[]⟩, 3) := by unfold rput; rw [if_neg (by rw [hb]; decide), if_pos hl]
  rw [hr]
  have b0 : Below w.heap.size w (w.alloc (.cells (cells x).toArray 26)) := (Below.refl _ _).alloc (Nat.le_refl _) _
  have BX := BoxC.of (heap_alloc_new w (.cells (cells x).toArray 26))
  have c0 := BX.c0
  have c1 := BX.c1
  have c22 := BX.c22
  clear BX
  obtain ⟨h1, h2, h3, h4⟩ := bad_f hb
  have hl2 : (512 : Int) < (x.data.size : Int) := by omega
  clear hb hl
  go_enter Try.func8, Try.ntmps8
  go_wp2
  go_ret2
  exact ⟨rfl, b0⟩
set_option maxRecDepth 20000 in
set_option maxHeartbeats 4000000 in
theorem rput_fine (x : Smp) (hb : bad x = false) (hl : x.data.size ≤ 512) (w : World) :
    Calls Try.prog 8 #[.agg (cells x).toArray] w fun e' w' => e' = .returned (.tuple #[.string (rput x).1, .int .i64 (rput x).2]) ∧ Below w.heap.size w w' := by
  have hr : rput x = (tx (recb x), 0) := by unfold rput; rw [if_neg (by rw [hb]; decide), if_neg (by omega)]
  rw [hr]
  have b0 : Below w.heap.size w (w.alloc (.cells (cells x).toArray 26)) := (Below.refl _ _).alloc (Nat.le_refl _) _
  have h0 := heap_alloc_new w (.cells (cells x).toArray 26)
  have BX := BoxC.of h0
  have c0 := BX.c0
  have c1 := BX.c1
  have c22 := BX.c22
  have c2 := BX.c2
  have c3 := BX.c3
  have c4 := BX.c4
  clear BX
  have GD := Lib.hid x.good
  have HB := Lib.hid (bad_f hb)
  have HS := Lib.hid hl
  obtain ⟨h1, h2, h3, h4⟩ := bad_f hb
  have hl2 : (x.data.size : Int) ≤ 512 := by omega
  have HP1 : ∀ w, Calls Try.prog 22 #[.string ⟨#[]⟩, .int .u64 x.frame, .int .i64 8] w fun e w' => e = .returned (.string (tx (nbytes x.frame 8))) ∧ Below w.heap.size w w' := fun w =>
    rput40 [] x.frame 8 0 rfl (by decide) (by kernel_rfl) (u64r x.good.2.2.1).1 (u64r x.good.2.2.1).2 (pcode8 _ (u64r x.good.2.2.1).2) w
  have HP2 : ∀ w, Calls Try.prog 22 #[.string (tx (nbytes x.frame 8)), .int .u64 x.run, .int .i64 8] w fun e w' => e = .returned (.string (tx (rh2 x))) ∧ Below w.heap.size w w' := fun w => rput40 (nbytes x.frame 8) x.run 8 8 (nbytes_len _ _) (by decide) (by kernel_rfl) (u64r x.good.2.2.2.1).1 (u64r x.good.2.2.2.1).2 (pcode8 _ (u64r x.good.2.2.2.1).2) w
  have HP3 : ∀ w, Calls Try.prog 22 #[.string (tx (rh2 x)), .int .u64 x.seq, .int .i64 8] w fun e w' => e = .returned (.string (tx (rhd x))) ∧ Below w.heap.size w w' := fun w => rput40 (rh2 x) x.seq 8 16 (rh2_len x) (by decide) (by kernel_rfl) (u64r x.good.2.2.2.2.1).1 (u64r x.good.2.2.2.2.1).2 (pcode8 _ (u64r x.good.2.2.2.2.1).2) w
  have HP4 : ∀ w, Calls Try.prog 22 #[.string (tx (rhd x)), .int .u64 (IntKind.u64.wrap x.op), .int .i64 1] w fun e w' => e = .returned (.string (tx (rm1 x))) ∧ Below w.heap.size w w' := fun w => by
    rw [wf_byte h1 (by omega)]
    exact rput40 (rhd x) x.op 1 24 (rhd_len x) (by decide) (by kernel_rfl) h1 (by omega) (pcode1 _ h2) w
  have HP5 : ∀ w, Calls Try.prog 22 #[.string (tx (rm1 x)), .int .u64 (IntKind.u64.wrap x.writer), .int .i64 1] w fun e w' => e = .returned (.string (tx (rm2 x))) ∧ Below w.heap.size w w' := fun w => by
    rw [wf_byte h3 (by omega)]
    exact rput40 (rm1 x) x.writer 1 25 (rm1_len x) (by decide) (by kernel_rfl) h3 (by omega) (pcode1 _ h4) w
  have HP6 : ∀ w, Calls Try.prog 22 #[.string (tx (rm2 x)), .int .u64 (IntKind.u64.wrap (x.data.size : Int)), .int .i64 2] w fun e w' => e = .returned (.string (tx (rmd x))) ∧ Below w.heap.size w w' := fun w => by
    rw [wf_byte (by omega) (by omega)]
    exact rput40 (rm2 x) (x.data.size : Int) 2 26 (rm2_len x) (by decide) (by kernel_rfl) (by omega) (by omega) (pcode2 _ (by omega)) w
  clear hb hl
  obtain ⟨W0, hW0⟩ : ∃ W0, W0 = w.alloc (.cells (cells x).toArray 26) := ⟨_, rfl⟩
  rw [← hW0] at b0 h0 c2 c3 c4
  go_enter Try.func8, Try.ntmps8
  go_wp2_with fail
  rw [← hW0]
  clear hW0 c0 c1 c22 h1 h2 h3 h4 hl2
  refine Reg.wp_plan (S := fun w' => w'.cell? ⟨w.heap.size, 2, none⟩ = some (.int .u64 x.frame) ∧ w'.cell? ⟨w.heap.size, 3, none⟩ = some (.int .u64 x.run) ∧ w'.cell? ⟨w.heap.size, 4, none⟩ = some (.int .u64 x.seq) ∧ w'.heap[w.heap.size]? = some (.cells (cells x).toArray 26 (0, 0))) 10 (.fl 0 (.fl 1 (.fl 3 (.fl 4 (.fl 6 (.fl 7 (.one 2 (.one 5 (.one 8 (.fl 9 .done)))))))))) (by kernel_rfl) (by kernel_rfl) (by kernel_rfl) (by kernel_rfl) (fun _ _ _ d _ h => by cases d <;> exact h) ?_ (fun hHeld => ?_)
  · exact ⟨c2, c3, c4, h0⟩
  refine Reg.G_on (o := { dst := some 28, op := Op.fieldAddr 26 (Operand.tmp 1) 2, type := 0, pos := "ref.go:35", after := #[], guard := Option.none }) (v := ?_) (by rfl) ?_ (fun wS hSw => ?_) ?_
  rotate_left
  · kernel_rfl
  · (try dsimp only at hSw); go_simp; (try with_reducible rfl)
  try simp only [Act.put, List.setIfInBounds_toArray, List.set_cons_zero, List.set_cons_succ]
  refine Reg.G_on (o := { dst := some 29, op := Op.load 22 (Operand.tmp 28), type := 22, pos := "ref.go:35", after := #[{ on := 0, ground := Ground.data }], guard := Option.none }) (v := ?_) (by rfl) ?_ (fun wS hSw => ?_) ?_
  rotate_left
  · kernel_rfl
  · (try dsimp only at hSw); go_simp; (try with_reducible rfl)
  try simp only [Act.put, List.setIfInBounds_toArray, List.set_cons_zero, List.set_cons_succ]
  refine Reg.G_on (o := { dst := some 31, op := Op.fieldAddr 26 (Operand.tmp 1) 3, type := 0, pos := "ref.go:35", after := #[], guard := Option.none }) (v := ?_) (by rfl) ?_ (fun wS hSw => ?_) ?_
  rotate_left
  · kernel_rfl
  · (try dsimp only at hSw); go_simp; (try with_reducible rfl)
  try simp only [Act.put, List.setIfInBounds_toArray, List.set_cons_zero, List.set_cons_succ]
  refine Reg.G_on (o := { dst := some 32, op := Op.load 22 (Operand.tmp 31), type := 22, pos := "ref.go:35", after := #[{ on := 3, ground := Ground.data }], guard := Option.none }) (v := ?_) (by rfl) ?_ (fun wS hSw => ?_) ?_
  rotate_left
  · kernel_rfl
  · (try dsimp only at hSw); go_simp; (try with_reducible rfl)
  try simp only [Act.put, List.setIfInBounds_toArray, List.set_cons_zero, List.set_cons_succ]
  refine Reg.G_on (o := { dst := some 34, op := Op.fieldAddr 26 (Operand.tmp 1) 4, type := 0, pos := "ref.go:35", after := #[], guard := Option.none }) (v := ?_) (by rfl) ?_ (fun wS hSw => ?_) ?_
  rotate_left
  · kernel_rfl
  · (try dsimp only at hSw); go_simp; (try with_reducible rfl)
  try simp only [Act.put, List.setIfInBounds_toArray, List.set_cons_zero, List.set_cons_succ]
  refine Reg.G_on (o := { dst := some 35, op := Op.load 22 (Operand.tmp 34), type := 22, pos := "ref.go:35", after := #[{ on := 6, ground := Ground.data }], guard := Option.none }) (v := ?_) (by rfl) ?_ (fun wS hSw => ?_) ?_
  rotate_left
  · kernel_rfl
  · (try dsimp only at hSw); go_simp; (try with_reducible rfl)
  try simp only [Act.put, List.setIfInBounds_toArray, List.set_cons_zero, List.set_cons_succ]
  refine Reg.G_step (o := { dst := some 30, op := Op.call { callee := Callee.value (Operand.func 22), args := #[Operand.const (Value.string { data := #[] }), Operand.tmp 29, Operand.const (Value.int IntKind.i64 8)], argTypes := #[9, 22, 3] }, type := 9, pos := "ref.go:35", after := #[{ on := 1, ground := Ground.data }], guard := Option.none }) (by rfl) ?_ (fun K hK => ?_)
  · kernel_rfl
  go_simp
  refine (HP1 _).mono ?_
  rintro e w' ⟨rfl, hb1⟩
  refine hK.out _ _ ?_ (fun hHeld => ?_)
  · exact ⟨argb hb1 hHeld.1, argb hb1 hHeld.2.1, argb hb1 hHeld.2.2.1, blk_below hHeld.2.2.2 hb1⟩
  clear hK K
  try simp only [Act.put, List.setIfInBounds_toArray, List.set_cons_zero, List.set_cons_succ]
  skip
  refine Reg.G_step (o := { dst := some 33, op := Op.call { callee := Callee.value (Operand.func 22), args := #[Operand.tmp 30, Operand.tmp 32, Operand.const (Value.int IntKind.i64 8)], argTypes := #[9, 22, 3] }, type := 9, pos := "ref.go:35", after := #[{ on := 2, ground := Ground.data }, { on := 4, ground := Ground.data }, { on := 2, ground := Ground.chain }], guard := Option.none }) (by rfl) ?_ (fun K hK => ?_)
  · kernel_rfl
  go_simp
  refine (HP2 _).mono ?_
  rintro e w' ⟨rfl, hb2⟩
  refine hK.out _ _ ?_ (fun hHeld => ?_)
  · exact ⟨argb hb2 hHeld.1, argb hb2 hHeld.2.1, argb hb2 hHeld.2.2.1, blk_below hHeld.2.2.2 hb2⟩
  clear hK K
  try simp only [Act.put, List.setIfInBounds_toArray, List.set_cons_zero, List.set_cons_succ]
  skip
  refine Reg.G_step (o := { dst := some 36, op := Op.call { callee := Callee.value (Operand.func 22), args := #[Operand.tmp 33, Operand.tmp 35, Operand.const (Value.int IntKind.i64 8)], argTypes := #[9, 22, 3] }, type := 9, pos := "ref.go:35", after := #[{ on := 5, ground := Ground.data }, { on := 7, ground := Ground.data }, { on := 5, ground := Ground.chain }], guard := Option.none }) (by rfl) ?_ (fun K hK => ?_)
  · kernel_rfl
  go_simp
  refine (HP3 _).mono ?_
  rintro e w' ⟨rfl, hb3⟩
  refine hK.out _ _ ?_ (fun hHeld => ?_)
  · exact ⟨argb hb3 hHeld.1, argb hb3 hHeld.2.1, argb hb3 hHeld.2.2.1, blk_below hHeld.2.2.2 hb3⟩
  clear hK K
  try simp only [Act.put, List.setIfInBounds_toArray, List.set_cons_zero, List.set_cons_succ]
  refine Reg.G_on (o := { dst := some 4, op := Op.assign (Operand.tmp 36), type := 9, pos := "ref.go:35", after := #[{ on := 8, ground := Ground.data }, { on := 8, ground := Ground.chain }, { on := 0, ground := Ground.phase }, { on := 1, ground := Ground.phase }, { on := 2, ground := Ground.phase }, { on := 3, ground := Ground.phase }, { on := 4, ground := Ground.phase }, { on := 5, ground := Ground.phase }, { on := 6, ground := Ground.phase }, { on := 7, ground := Ground.phase }, { on := 8, ground := Ground.phase }], guard := Option.none }) (v := ?_) (by rfl) ?_ (fun wS hSw => ?_) ?_
  rotate_left
  · kernel_rfl
  · (try dsimp only at hSw); go_simp; (try with_reducible rfl)
  try simp only [Act.put, List.setIfInBounds_toArray, List.set_cons_zero, List.set_cons_succ]
  refine Reg.G_done ?_
  have bb5 := bstep (bstep (bstep b0.drew hb1) hb2) hb3
  have hx5 := hHeld.2.2.2
  clear hb1 hb2 hb3 HP1 HP2 HP3 hHeld b0 h0 c2 c3 c4
  have BX := BoxC.of hx5
  have c0 := BX.c0
  have c1 := BX.c1
  have c22 := BX.c22
  clear BX
  rename World => w5
  go_wp2_with fail
  refine Reg.wp_plan (S := fun w' => w'.cell? ⟨w.heap.size, 0, none⟩ = some (.int .i64 x.op) ∧ w'.cell? ⟨w.heap.size, 1, none⟩ = some (.int .i64 x.writer) ∧ w'.cell? ⟨w.heap.size, 22, none⟩ = some (.string x.data) ∧ w'.heap[w.heap.size]? = some (.cells (cells x).toArray 26 (0, 0))) 15 (.fl 0 (.fl 1 (.fl 2 (.fl 3 (.fl 5 (.fl 6 (.fl 7 (.fl 9 (.fl 10 (.fl 11 (.fl 12 (.one 4 (.one 8 (.one 13 (.fl 14 .done))))))))))))))) (by kernel_rfl) (by kernel_rfl) (by kernel_rfl) (by kernel_rfl) (fun _ _ _ d _ h => by cases d <;> exact h) ?_ (fun hHeld => ?_)
  · exact ⟨c0, c1, c22, hx5⟩
  refine Reg.G_on (o := { dst := some 37, op := Op.move (Operand.tmp 4), type := 9, pos := "ref.go:36", after := #[], guard := Option.none }) (v := ?_) (by rfl) ?_ (fun wS hSw => ?_) ?_
  rotate_left
  · kernel_rfl
  · (try dsimp only at hSw); go_simp; (try with_reducible rfl)
  try simp only [Act.put, List.setIfInBounds_toArray, List.set_cons_zero, List.set_cons_succ]
  refine Reg.G_on (o := { dst := some 38, op := Op.fieldAddr 26 (Operand.tmp 1) 0, type := 0, pos := "ref.go:36", after := #[], guard := Option.none }) (v := ?_) (by rfl) ?_ (fun wS hSw => ?_) ?_
  rotate_left
  · kernel_rfl
  · (try dsimp only at hSw); go_simp; (try with_reducible rfl)
  try simp only [Act.put, List.setIfInBounds_toArray, List.set_cons_zero, List.set_cons_succ]
  refine Reg.G_on (o := { dst := some 39, op := Op.load 3 (Operand.tmp 38), type := 3, pos := "ref.go:36", after := #[{ on := 1, ground := Ground.data }], guard := Option.none }) (v := ?_) (by rfl) ?_ (fun wS hSw => ?_) ?_
  rotate_left
  · kernel_rfl
  · (try dsimp only at hSw); go_simp; (try with_reducible rfl)
  try simp only [Act.put, List.setIfInBounds_toArray, List.set_cons_zero, List.set_cons_succ]
  refine Reg.G_on (o := { dst := some 40, op := Op.convert 3 22 (Operand.tmp 39), type := 22, pos := "ref.go:36", after := #[{ on := 2, ground := Ground.data }], guard := Option.none }) (v := ?_) (by rfl) ?_ (fun wS hSw => ?_) ?_
  rotate_left
  · kernel_rfl
  · (try dsimp only at hSw); go_simp; (try with_reducible rfl)
  try simp only [Act.put, List.setIfInBounds_toArray, List.set_cons_zero, List.set_cons_succ]
  refine Reg.G_on (o := { dst := some 42, op := Op.fieldAddr 26 (Operand.tmp 1) 1, type := 0, pos := "ref.go:36", after := #[], guard := Option.none }) (v := ?_) (by rfl) ?_ (fun wS hSw => ?_) ?_
  rotate_left
  · kernel_rfl
  · (try dsimp only at hSw); go_simp; (try with_reducible rfl)
  try simp only [Act.put, List.setIfInBounds_toArray, List.set_cons_zero, List.set_cons_succ]
  refine Reg.G_on (o := { dst := some 43, op := Op.load 3 (Operand.tmp 42), type := 3, pos := "ref.go:36", after := #[{ on := 5, ground := Ground.data }], guard := Option.none }) (v := ?_) (by rfl) ?_ (fun wS hSw => ?_) ?_
  rotate_left
  · kernel_rfl
  · (try dsimp only at hSw); go_simp; (try with_reducible rfl)
  try simp only [Act.put, List.setIfInBounds_toArray, List.set_cons_zero, List.set_cons_succ]
  refine Reg.G_on (o := { dst := some 44, op := Op.convert 3 22 (Operand.tmp 43), type := 22, pos := "ref.go:36", after := #[{ on := 6, ground := Ground.data }], guard := Option.none }) (v := ?_) (by rfl) ?_ (fun wS hSw => ?_) ?_
  rotate_left
  · kernel_rfl
  · (try dsimp only at hSw); go_simp; (try with_reducible rfl)
  try simp only [Act.put, List.setIfInBounds_toArray, List.set_cons_zero, List.set_cons_succ]
  refine Reg.G_on (o := { dst := some 46, op := Op.fieldAddr 26 (Operand.tmp 1) 6, type := 0, pos := "ref.go:36", after := #[], guard := Option.none }) (v := ?_) (by rfl) ?_ (fun wS hSw => ?_) ?_
  rotate_left
  · kernel_rfl
  · (try dsimp only at hSw); go_simp; (try with_reducible rfl)
  try simp only [Act.put, List.setIfInBounds_toArray, List.set_cons_zero, List.set_cons_succ]
  refine Reg.G_on (o := { dst := some 47, op := Op.load 9 (Operand.tmp 46), type := 9, pos := "ref.go:36", after := #[{ on := 9, ground := Ground.data }], guard := Option.none }) (v := ?_) (by rfl) ?_ (fun wS hSw => ?_) ?_
  rotate_left
  · kernel_rfl
  · (try dsimp only at hSw); go_simp; (try with_reducible rfl)
  try simp only [Act.put, List.setIfInBounds_toArray, List.set_cons_zero, List.set_cons_succ]
  refine Reg.G_on (o := { dst := some 48, op := Op.call { callee := Callee.builtin Builtin.len, args := #[Operand.tmp 47], argTypes := #[9] }, type := 3, pos := "ref.go:36", after := #[{ on := 10, ground := Ground.data }], guard := Option.none }) (v := ?_) (by rfl) ?_ (fun wS hSw => ?_) ?_
  rotate_left
  · kernel_rfl
  · (try dsimp only at hSw); go_simp; (try with_reducible rfl)
  try simp only [Act.put, List.setIfInBounds_toArray, List.set_cons_zero, List.set_cons_succ]
  refine Reg.G_on (o := { dst := some 49, op := Op.convert 3 22 (Operand.tmp 48), type := 22, pos := "ref.go:36", after := #[{ on := 11, ground := Ground.data }], guard := Option.none }) (v := ?_) (by rfl) ?_ (fun wS hSw => ?_) ?_
  rotate_left
  · kernel_rfl
  · (try dsimp only at hSw); go_simp; (try with_reducible rfl)
  try simp only [Act.put, List.setIfInBounds_toArray, List.set_cons_zero, List.set_cons_succ]
  refine Reg.G_step (o := { dst := some 41, op := Op.call { callee := Callee.value (Operand.func 22), args := #[Operand.tmp 37, Operand.tmp 40, Operand.const (Value.int IntKind.i64 1)], argTypes := #[9, 22, 3] }, type := 9, pos := "ref.go:36", after := #[{ on := 0, ground := Ground.data }, { on := 3, ground := Ground.data }], guard := Option.none }) (by rfl) ?_ (fun K hK => ?_)
  · kernel_rfl
  go_simp
  refine (HP4 _).mono ?_
  rintro e w' ⟨rfl, hb1⟩
  refine hK.out _ _ ?_ (fun hHeld => ?_)
  · exact ⟨argb hb1 hHeld.1, argb hb1 hHeld.2.1, argb hb1 hHeld.2.2.1, blk_below hHeld.2.2.2 hb1⟩
  clear hK K
  try simp only [Act.put, List.setIfInBounds_toArray, List.set_cons_zero, List.set_cons_succ]
  skip
  refine Reg.G_step (o := { dst := some 45, op := Op.call { callee := Callee.value (Operand.func 22), args := #[Operand.tmp 41, Operand.tmp 44, Operand.const (Value.int IntKind.i64 1)], argTypes := #[9, 22, 3] }, type := 9, pos := "ref.go:36", after := #[{ on := 4, ground := Ground.data }, { on := 7, ground := Ground.data }, { on := 4, ground := Ground.chain }], guard := Option.none }) (by rfl) ?_ (fun K hK => ?_)
  · kernel_rfl
  go_simp
  refine (HP5 _).mono ?_
  rintro e w' ⟨rfl, hb2⟩
  refine hK.out _ _ ?_ (fun hHeld => ?_)
  · exact ⟨argb hb2 hHeld.1, argb hb2 hHeld.2.1, argb hb2 hHeld.2.2.1, blk_below hHeld.2.2.2 hb2⟩
  clear hK K
  try simp only [Act.put, List.setIfInBounds_toArray, List.set_cons_zero, List.set_cons_succ]
  skip
  refine Reg.G_step (o := { dst := some 50, op := Op.call { callee := Callee.value (Operand.func 22), args := #[Operand.tmp 45, Operand.tmp 49, Operand.const (Value.int IntKind.i64 2)], argTypes := #[9, 22, 3] }, type := 9, pos := "ref.go:36", after := #[{ on := 8, ground := Ground.data }, { on := 12, ground := Ground.data }, { on := 8, ground := Ground.chain }], guard := Option.none }) (by rfl) ?_ (fun K hK => ?_)
  · kernel_rfl
  go_simp
  refine (HP6 _).mono ?_
  rintro e w' ⟨rfl, hb3⟩
  refine hK.out _ _ ?_ (fun hHeld => ?_)
  · exact ⟨argb hb3 hHeld.1, argb hb3 hHeld.2.1, argb hb3 hHeld.2.2.1, blk_below hHeld.2.2.2 hb3⟩
  clear hK K
  try simp only [Act.put, List.setIfInBounds_toArray, List.set_cons_zero, List.set_cons_succ]
  refine Reg.G_on (o := { dst := some 4, op := Op.assign (Operand.tmp 50), type := 9, pos := "ref.go:36", after := #[{ on := 13, ground := Ground.data }, { on := 13, ground := Ground.chain }, { on := 0, ground := Ground.phase }, { on := 1, ground := Ground.phase }, { on := 2, ground := Ground.phase }, { on := 3, ground := Ground.phase }, { on := 4, ground := Ground.phase }, { on := 5, ground := Ground.phase }, { on := 6, ground := Ground.phase }, { on := 7, ground := Ground.phase }, { on := 8, ground := Ground.phase }, { on := 9, ground := Ground.phase }, { on := 10, ground := Ground.phase }, { on := 11, ground := Ground.phase }, { on := 12, ground := Ground.phase }, { on := 13, ground := Ground.phase }], guard := Option.none }) (v := ?_) (by rfl) ?_ (fun wS hSw => ?_) ?_
  rotate_left
  · kernel_rfl
  · (try dsimp only at hSw); go_simp; (try with_reducible rfl)
  try simp only [Act.put, List.setIfInBounds_toArray, List.set_cons_zero, List.set_cons_succ]
  refine Reg.G_done ?_
  have bb6 := bstep (bstep (bstep bb5.drew hb1) hb2) hb3
  have hx6 := hHeld.2.2.2
  clear hb1 hb2 hb3 HP4 HP5 HP6 hHeld hx5 bb5 c0 c1 c22
  rename World => w6
  have hk0 := kk_zero x
  go_wp2_with fail
  go_loopw [4, 5] (fun v4 v5 wr => ∃ j : Nat, v5 = .int .i64 (j : Int) ∧ v4 = .string (tx (kk x j)) ∧ j ≤ 17 ∧ wr.heap[w.heap.size]? = some (.cells (cells x).toArray 26 (0, 0)) ∧ Below w.heap.size w wr) (fun _ i _ => (17 - (intOf i).toNat))
  case atStart => exact ⟨0, rfl, by rw [hk0], by decide, hx6, bb6⟩
  case round =>
    clear hx6 bb6 hk0
    obtain ⟨j, rfl, rfl, hj, hxr, bbr⟩ := hrel
    by_cases hlt : j < 17
    · have j0 : (0 : Int) ≤ (j : Int) := by omega
      have j1 : (j : Int) < 17 := by omega
      have BX := BoxC.of hxr
      have ck := BX.ck j hlt
      clear BX
      have hwj : wrap64 ((j : Int) + 1) = ((j + 1 : Nat) : Int) := by unfold wrap64; omega
      have hsum := kk_succ x j hlt
      have hz : (tx (kk x j)).size + (strOfNums [x.key.getD j 0]).size ≤ 100 := by rw [tx_size, kk_len x j hj, strOfNums_size]; simp; omega
      generalize x.key.getD j 0 = v at *
      have hcv := run_convert_bytes_arg (P := Try.prog) (wr.alloc (.cells #[.int .u8 v] 5)) 46 5 Try.underlying46 Try.underlying5 wr.heap.size 0 1 1 [v] rfl (fun i hi => by
        have : i = 0 := by omega
        subst this
        rw [blk_cell (heap_alloc_new _ _)]
        rfl) 9 Try.underlying9
      have hlt2 := Lib.hid hlt
      have hxr2 := blk_alloc hxr (.cells #[.int .u8 v] 5)
      have bbr2 := bbr.alloc bbr.size (.cells #[.int .u8 v] 5)
      clear hlt hj hxr bbr
      go_wp2_with fail
      exact ⟨⟨j + 1, rfl, rfl, hlt2.out, hxr2, bbr2⟩, meas17 hlt2.out⟩
    · have hk : j = 17 := by omega
      subst hk
      clear hlt hj
      have BX := BoxC.of hxr
      have c22 := BX.c22
      clear BX hxr
      have hn := HS.out
      have hsum : tx (kk x 17) ++ x.data = tx (rbd x) := by rw [kk_all]; unfold rbd; rw [tx_app (rmd x ++ kby x.key) x.data.data.toList]; rfl
      have hz : (tx (kk x 17)).size + x.data.size ≤ 1000 := by rw [tx_size, kk_len x 17 (by decide)]; omega
      have hz2 : (tx (rbd x)).size = 45 + x.data.size := by rw [tx_size, rbd_len]
      have hgp := rgp_le x
      have hrs : rsz (x.data.size : Int) = 45 + (x.data.size : Int) + (rgp x : Int) := by
        have := gapv_le (45 + (x.data.size : Int)) 8
        unfold rsz rgp
        rw [if_neg (by omega)]
        omega
      have hP := rsize (x.data.size : Int) (by omega) wr
      rw [hrs] at hP
      have hQ := fun w => zeros (rgp x) (by omega) w
      have hsum2 : tx (rbd x) ++ tx (List.replicate (rgp x) 0) = tx (recb x) := by unfold recb; rw [tx_app]
      have hz3 : (tx (rbd x)).size + (tx (List.replicate (rgp x) 0)).size ≤ 2000 := by rw [hz2, tx_size, List.length_replicate]; omega
      have hsub : wrap64 (45 + (x.data.size : Int) + (rgp x : Int) - ((tx (rbd x)).size : Int)) = (rgp x : Int) := by rw [hz2]; unfold wrap64; omega
      clear hn hgp hrs hz2
      generalize rgp x = q at *
      go_wp2_with fail
      refine hP.mono ?_
      rintro e w7 ⟨rfl, b7⟩
      go_wp2_with fail
      refine (hQ _).mono ?_
      rintro e w8 ⟨rfl, b8⟩
      go_wp2
      go_ret2
      exact ⟨rfl, bstep (bstep bbr b7) b8⟩
theorem rputs (x : Smp) (w : World) :
    Calls Try.prog 8 #[.agg (cells x).toArray] w fun e' w' => e' = .returned (.tuple #[.string (rput x).1, .int .i64 (rput x).2]) ∧ Below w.heap.size w w' := by
  by_cases hb : bad x = true
  · exact rput_bad x hb w
  · have hb2 : bad x = false := by simpa using hb
    by_cases hl : 512 < x.data.size
    · exact rput_long x hb2 hl w
    · exact rput_fine x hb2 (by omega) w
end Go.Proofs.Ytmlfnlmdnhblmaa.Rec
namespace Go.Proofs.Ytmlfnlmdnhblmaa.Buf
open Go.RowKit Base Sp Flat Go.Proofs.YtmlfnlmdnhblmaaW.PrintWords Go.Lib
/-- A builder at cell 0 of block b, whose blocks are F's. -/
def sB (w : World) (F : Nat → Prop) (b : Nat)  (l : List UInt8) : Prop :=
  ∃ p v, w.heap[b]? = some (.cells #[ p, v] 55 (0, 0)) ∧ (p = .pointer none ∨ p = .pointer (some ⟨b, 0, none⟩)) ∧ w.ownsRowF 0 5 1 v l.length (byteCells l) ∧ v.ownBlock ≠ some b ∧ F b ∧ (∀ k, v.ownBlock = some k → F k) ∧ ∀ k, F k → k < w.heap.size
theorem sB.lt {w : World} {F : Nat → Prop} {b : Nat}  {l : List UInt8} (h : sB w F b  l) : ∀ k, F k → k < w.heap.size := by
  obtain ⟨p, v, _, _, _, _, _, _, h⟩ := h
  exact h
theorem sB.at_ {w : World} {F : Nat → Prop} {b : Nat}  {l : List UInt8} (h : sB w F b  l) : F b := by
  obtain ⟨p, v, _, _, _, _, h, _⟩ := h
  exact h
theorem sB.same {w w' : World} {F : Nat → Prop} {b : Nat}  {l : List UInt8} (h : sB w F b  l) (hs : Same F w w') (hz : w.heap.size ≤ w'.heap.size) : sB w' F b  l := by
  obtain ⟨p, v, h1, h2, h3, h4, h5, h6, h7⟩ := h
  exact ⟨p, v, (hs b h5).trans h1, h2, ownF_same h3 (fun k hk => hs k (h6 k hk)), h4, h5, h6, fun k hk => Nat.lt_of_lt_of_le (h7 k hk) hz⟩
theorem sB.far {w w' : World} {F G : Nat → Prop} {b : Nat}  {l : List UInt8} (h : sB w F b  l) (hm : Mod G w w') (hd : ∀ k, F k → ¬ G k) : sB w' F b  l := h.same (hm.same h.lt hd) hm.size
theorem sB.below {w w' : World} {F : Nat → Prop} {b : Nat}  {l : List UInt8} (h : sB w F b  l) (hb : Below w.heap.size w w') : sB w' F b  l := h.same (Same.of hb h.lt) hb.size
set_option maxRecDepth 100000 in
theorem scheck (b : Nat)  (p v : Value) (w : World) (h : w.heap[b]? = some (.cells #[ p, v] 55 (0, 0))) (hp : p = .pointer none ∨ p = .pointer (some ⟨b, 0, none⟩)) :
    Calls Try.prog 35 #[.pointer (some ⟨b, 0, none⟩)] w fun e w' => e = .returned (.tuple #[]) ∧ w'.heap[b]? = some (.cells #[ .pointer (some ⟨b, 0, none⟩), v] 55 (0, 0)) ∧ Mod (At b) w w' := by
  have hsz : ((Try.prog).info? 55).map (·.size) = some 2 := by kernel_rfl
  obtain ⟨j, hj, hjs⟩ := Option.map_eq_some_iff.1 hsz
  have hsh : w.shape? b = some (55, 0 + 2) := by simp [World.shape?, h]
  have hlies : liesAt Try.prog (Try.prog).depth 55 ((0 + 2) / (Try.prog).cellsOf 55) 0 55 1 = true := by kernel_rfl
  have h0 : w.cell? ⟨b, 0, none⟩ = some p := blk_cell h 0
  have hf0 : w.frozen? ⟨b, 0, none⟩ = false := blk_frozen h 0
  have H := Lib.hid h
  clear h
  rcases hp with rfl | rfl
  · go_enter Try.func35, Try.ntmps35
    go_wp2
    rw [Lib.run_to_unsafe w ⟨b, 0, none⟩ Try.underlying53 Try.underlying85 hj (by rw [hjs]; decide) hsh (by show 0 < 0 + 2; omega)]
    simp only [Result.andThen]
    rw [Oper.upon_value]
    go_wp2
    rw [run_callFunc_extern Try.func49 (by kernel_rfl) (by kernel_rfl) (by kernel_rfl) (e := Extern.AbiNoEscape.same) (by kernel_rfl)]
    rw [Lib.run_noEscape]
    simp only [Result.andThen]
    rw [Oper.upon_value]
    go_wp2
    rw [Lib.run_from_unsafe w ⟨b, 0, none⟩ Try.underlying85 Try.underlying53 hj hsh hlies]
    simp only [Result.andThen]
    rw [Oper.upon_value]
    go_wp2
    go_end0
    refine ⟨rfl, ?_, at_set (Mod.refl _ _) _ _⟩
    have := blk_set H.out 0 (.pointer (some ⟨b, 0, none⟩))
    simpa using this
  · go_enter Try.func35, Try.ntmps35
    go_wp2
    rw [Lib.run_neq_ptr_same w _ Try.underlying53 hj]
    go_wp2
    go_end0
    exact ⟨rfl, H.out, Mod.refl _ _⟩
/-- Bytes were written. -/
def sWrote (w : World) (F : Nat → Prop) (b : Nat)  (l s : List UInt8) (w' : World) : Prop := ∃ F', sB w' F' b  (l ++ s) ∧ Mod F w w' ∧ Grow F F' w
set_option maxHeartbeats 1000000 in
set_option maxRecDepth 100000 in
theorem swrite (F : Nat → Prop) (b : Nat)  (l : List UInt8) (s : ByteArray) (w : World) (h : sB w F b  l) (hl : l.length + s.size ≤ 140737488355328) :
    Calls Try.prog 26 #[.pointer (some ⟨b, 0, none⟩), .string s] w fun e w' => e = .returned (.tuple #[.int .i64 s.size, .nilIface]) ∧ sWrote w F b  l s.data.toList w' := by
  obtain ⟨p, v, h1, h2, h3, h4, h5, h6, h7⟩ := h
  have HC := scheck b  p v w h1 h2
  have HL := Lib.hid hl
  have H3 := Lib.hid h3
  have H7 := Lib.hid h7
  have H6 := Lib.hid h6
  have hlt := blk_lt h1
  clear h1 h2 h3 hl h7 h6
  go_enter Try.func26, Try.ntmps26
  go_wp2_with fail
  refine HC.mono ?_
  rintro e w1 ⟨rfl, g1, m1⟩
  have hlt1 := Nat.lt_of_lt_of_le hlt m1.size
  have k1 := ownF_same H3.out (fun k hk => m1.block k (H7.out k (H6.out k hk)) (fun e => h4 (by rw [hk, show k = b from e])))
  obtain ⟨v', w2, hr, o2, gr, hk⟩ := own_str 46 k1 s (by have := HL.out; omega)
  have g2 : w2.heap[b]? = some (.cells #[ .pointer (some ⟨b, 0, none⟩), v] 55 (0, 0)) := (gr.block b hlt1 (fun e => h4 e.symm)).trans g1
  obtain ⟨ao, n', cap, rfl⟩ : ∃ ao n' cap, v' = .slice ao n' cap := by
    rcases o2.2 with ⟨hv, _⟩ | ⟨g, cap, cur, fz, hv, _⟩
    · exact ⟨_, _, _, hv⟩
    · exact ⟨_, _, _, hv⟩
  have HR := Lib.hid hr
  have HO := Lib.hid o2
  have HG := Lib.hid gr
  have HK := Lib.hid hk
  have H1 := Lib.hid g1
  have H2 := Lib.hid g2
  have c1 : w1.cell? ⟨b, 0 + 1, none⟩ = some v := blk_cell g1 (0 + 1)
  have d1 : w2.cell? ⟨b, 0 + 1, none⟩ = some v := blk_cell g2 (0 + 1)
  have f1 : w2.frozen? ⟨b, 0 + 1, none⟩ = false := blk_frozen g2 (0 + 1)
  clear hr o2 gr hk g1 g2 k1
  go_wp2_with (at_builtin; refine wp_append' rfl (.tmp 12) (.tmp 13) 46 9 rfl rfl rfl HR.out ?_)
  go_ret2
  refine ⟨rfl, ?_⟩
  have hb1 : (Value.slice ao n' cap).ownBlock ≠ some b := fun e => by
    rcases HK.out b e with hx | hx
    · exact h4 hx
    · omega
  refine ⟨fun k => F k ∨ (Value.slice ao n' cap).ownBlock = some k, ⟨_, .slice ao n' cap, by have := blk_set H2.out (0 + 1) (.slice ao n' cap); simpa using this, .inr rfl, ?_, hb1, .inl h5, fun k hk => .inr hk, fun k hk => ?_⟩, ?_, fun k hk => ?_⟩
  · have o2 := HO.out
    have e1 : (l ++ s.data.toList).length = l.length + s.size := by rw [List.length_append]; rfl
    rw [e1, byteCells_append]
    exact ownF_same o2 (fun k hk => Below.heap_setCell _ _ _ _ (fun e => hb1 (by rw [hk]; exact congrArg _ e)))
  · have hz : (w2.setCell ⟨b, 0 + 1, none⟩ (.slice ao n' cap)).heap.size = w2.heap.size := by simp
    rw [hz]
    rcases hk with hk | hk
    · exact Nat.lt_of_lt_of_le (H7.out k hk) (Nat.le_trans m1.size HG.out.size)
    · exact (HO.out.lt k hk).2
  · refine Mod.set ?_ (.inl h5) _
    refine Mod.grown (m1.mono (fun k hk => .inl (by rw [show k = b from hk]; exact h5))) HG.out (fun k hk => .inl (H6.out k hk))
  · rcases hk with hk | hk
    · exact .inl hk
    · rcases HK.out k hk with hx | hx
      · exact .inl (H6.out k hx)
      · exact .inr (Nat.le_trans m1.size hx)
set_option maxHeartbeats 2000000 in
set_option maxRecDepth 100000 in
theorem sstring (F : Nat → Prop) (b : Nat)  (l : List UInt8) (w : World) (h : sB w F b  l) :
    Calls Try.prog 25 #[.pointer (some ⟨b, 0, none⟩)] w fun e w' => e = .returned (.string ⟨l.toArray⟩) ∧ sB w' F b  l ∧ Mod F w w' := by
  obtain ⟨p, v, h1, h2, h3, h4, h5, h6, h7⟩ := h
  have hlt := blk_lt h1
  rcases h3.2 with ⟨rfl, hz⟩ | ⟨g, cap, cur, fz, rfl, hbg, hg, hfz, hnc, hcm, hcs, htake⟩
  · obtain rfl : l = [] := List.eq_nil_of_length_eq_zero hz
    have hA : sB w.drew F b  [] ∧ Mod F w w.drew := ⟨⟨p, _, h1, h2, h3, h4, h5, h6, h7⟩, (Mod.refl F w).drew⟩
    have hUS := unsafeString_none
    have c1 : w.drew.cell? ⟨b, 0 + 1, none⟩ = some (.slice none 0 0) := blk_cell (w := w.drew) h1 (0 + 1)
    have hSD : (Builtin.unsafeSliceData_ #[46] 73 #[.slice none 0 0]).run Try.prog w.drew = .ok (.pointer none) w.drew := rfl
    have HA := Lib.hid hA
    clear hA h1 h3 hz h4 h6 h7 hlt
    go_enter Try.func25, Try.ntmps25
    go_wp2
    go_region
    all_goals (go_wp2; go_ret; exact ⟨rfl, HA.out⟩)
  · by_cases hl0 : l = []
    · subst hl0
      by_cases hc0 : cap = 0
      · subst hc0
        have hk : ∀ k, k < w.heap.size → (w.drew.alloc (.view ⟨g, 0, none⟩ 5)).heap[k]? = w.heap[k]? := fun k hk => Lib.alloc_old w.drew _ k hk
        have hA : sB (w.drew.alloc (.view ⟨g, 0, none⟩ 5)) F b  [] ∧ Mod F w (w.drew.alloc (.view ⟨g, 0, none⟩ 5)) :=
          ⟨⟨p, _, (hk b hlt).trans h1, h2, ownF_same h3 (fun k he => hk k (h7 k (h6 k he))), h4, h5, h6, fun k he => Nat.lt_succ_of_lt (h7 k he) |> (by simpa using ·)⟩, ((Mod.refl F w).drew).alloc _⟩
        have hUS := unsafeString_none
        have c1 : w.drew.cell? ⟨b, 0 + 1, none⟩ = some (.slice (some ⟨g, 0, none⟩) 0 0) := blk_cell (w := w.drew) h1 (0 + 1)
        have hSD : (Builtin.unsafeSliceData_ #[46] 73 #[.slice (some ⟨g, 0, none⟩) 0 0]).run Try.prog w.drew = .ok (.pointer (some ⟨w.drew.heap.size, 0, none⟩)) (w.drew.alloc (.view ⟨g, 0, none⟩ 5)) :=
          Lib.run_unsafeSliceData_zero w.drew _ _ 5 Try.underlying73 ⟨g, 0, none⟩ 0 (5, cur.size) (by have hg' : w.drew.heap[g]? = some (.cells cur 5 fz) := hg; simp [World.shape?, hg'])
        have c2 : (w.drew.alloc (.view ⟨g, 0, none⟩ 5)).cell? ⟨b, 0 + 1, none⟩ = some (.slice (some ⟨g, 0, none⟩) 0 0) := blk_cell ((hk b hlt).trans h1) (0 + 1)
        have c3 : (w.alloc (.view ⟨g, 0, none⟩ 5)).drew.cell? ⟨b, 0 + 1, none⟩ = some (.slice (some ⟨g, 0, none⟩) 0 0) := c2
        have c0 : w.cell? ⟨b, 0 + 1, none⟩ = some (.slice (some ⟨g, 0, none⟩) 0 0) := c1
        have HA := Lib.hid hA
        clear hA h1 h3 h4 h6 h7 hlt hk hg hfz hcs htake
        go_enter Try.func25, Try.ntmps25
        go_wp2
        go_region
        all_goals (go_wp2; go_ret; exact ⟨rfl, HA.out⟩)
      · have hA : sB w.drew F b  [] ∧ Mod F w w.drew := ⟨⟨p, _, h1, h2, h3, h4, h5, h6, h7⟩, (Mod.refl F w).drew⟩
        have hUS := unsafeString_none
        have c1 : w.drew.cell? ⟨b, 0 + 1, none⟩ = some (.slice (some ⟨g, 0, none⟩) 0 cap) := blk_cell (w := w.drew) h1 (0 + 1)
        have hSD : (Builtin.unsafeSliceData_ #[46] 73 #[.slice (some ⟨g, 0, none⟩) 0 cap]).run Try.prog w.drew = .ok (.pointer (some ⟨g, 0, none⟩)) w.drew :=
          Lib.run_unsafeSliceData_row _ _ _ _ _ _ hc0
        have HA := Lib.hid hA
        clear hA h1 h3 h4 h6 h7 hlt hg hfz hcs htake hc0 hnc hcm
        go_enter Try.func25, Try.ntmps25
        go_wp2
        go_region
        all_goals (go_wp2; go_ret; exact ⟨rfl, HA.out⟩)
    · have hl1 : l.length ≠ 0 := by simpa using hl0
      have hcap : cap ≠ 0 := by omega
      have hgb : g ≠ b := fun e => h4 (by simp [Value.ownBlock, e])
      have hFg : F g := h6 g rfl
      have c1 : w.drew.cell? ⟨b, 0 + 1, none⟩ = some (.slice (some ⟨g, 0, none⟩) l.length cap) := blk_cell (w := w.drew) h1 (0 + 1)
      have hSD : (Builtin.unsafeSliceData_ #[46] 73 #[.slice (some ⟨g, 0, none⟩) l.length cap]).run Try.prog w.drew = .ok (.pointer (some ⟨g, 0, none⟩)) w.drew :=
        Lib.run_unsafeSliceData_row _ _ _ _ _ _ hcap
      have hUS : (Builtin.unsafeString_ #[73, 3] 9 #[.pointer (some ⟨g, 0, none⟩), .int .i64 l.length]).run Try.prog w.drew = .ok (.string ⟨l.toArray⟩) (w.drew.freeze ⟨g, 0, none⟩ l.length) := by
        refine Lib.run_unsafeString_row w.drew 73 3 9 5 Try.underlying73 (by kernel_rfl) g cur.size (by have hg' : w.drew.heap[g]? = some (.cells cur 5 fz) := hg; simp [World.shape?, hg']) l hl0 (by omega) (by unfold maxLen at hcm; omega) ?_
        intro j x hx
        have := h3.cells (g := g) rfl j (.int .u8 x.toNat) (by simp [Lib.byteCells, hx])
        exact this
      have hA : sB (w.drew.freeze ⟨g, 0, none⟩ l.length) F b  l ∧ Mod F w (w.drew.freeze ⟨g, 0, none⟩ l.length) := by
        refine ⟨⟨p, .slice (some ⟨g, 0, none⟩) l.length cap, (freeze_other w.drew g l.length b (Ne.symm hgb)).trans h1, h2, ?_, h4, h5, h6, fun k hk => by rw [freeze_size]; exact h7 k hk⟩, Mod.freeze (Mod.refl F w).drew g l.length (.inl hFg)⟩
        exact ownF_froze (w := w.drew) h3
      have HA := Lib.hid hA
      clear hA h1 h3 h4 h6 h7 hlt hg hfz hcs htake hgb
      go_enter Try.func25, Try.ntmps25
      go_wp2
      go_region
      all_goals (go_wp2; go_ret; exact ⟨rfl, HA.out⟩)
end Go.Proofs.Ytmlfnlmdnhblmaa.Buf
namespace Go.Proofs.Ytmlfnlmdnhblmaa.Rec
open Go.RowKit Base Sp Flat Go.Proofs.YtmlfnlmdnhblmaaW.PrintWords Go.Proofs.YtmlfnlmdnhblmaaW.PrintLast Go.Proofs.YtmlfnlmdnhblmaaW.PrintMore Wd Al Buf Smp
/-- Cells at an address, whatever it is. -/
def CellsAt (w : World) (a : Addr) (cs : List Value) : Prop := ∀ j v, cs[j]? = some v → w.cell? (a.add j) = some v
section
variable {P : Program} {ops : Array Oper} {rest : List Oper} {op : Oper} {a : Act} {w W : World} {Q : Exit → Act → World → Prop}
theorem loadVar_any (p : Addr) (ty : TypeId) (cs : List Value) (d : TypeDesc) (hc : CellsAt w p cs) (hu : P.underlying ty = some d) (hd : d.isRow = true) (hi : (P.info? ty).map (·.size) = some cs.length) :
    (loadVar ty p).run P w = .ok (.agg cs.toArray) w := by
  have hl : (loadCells p cs.length).run P w = .ok cs.toArray w := run_loadCells_list (P := P) w p cs hc
  cases hq : P.info? ty with
  | none => simp [hq] at hi
  | some i =>
    have hs : i.size = cs.length := by simpa [hq] using hi
    have hagg : (isAgg ty).run P w = .ok true w := by
      unfold isAgg
      rw [Sem.run_bind, run_underlying hu w]
      cases d <;> simp_all
    simp [loadVar, Sem.run_bind, hagg, sizeOf, typeInfo, hq, hs, hl]
theorem load_any (hw : Region.wanted op (yielded ops a.tmps) = true) (ty : TypeId) (x : Operand) (ho : op.op = .load ty x) (p : Addr) (hx : a.eval x = .pointer (some p)) (cs : List Value) (d : TypeDesc) (hc : CellsAt w p cs)
    (hu : P.underlying ty = some d) (hd : d.isRow = true) (hi : (P.info? ty).map (·.size) = some cs.length) (h : wpList P ops Q rest (a.put op.dst (.agg cs.toArray)) w) : wpList P ops Q (op :: rest) a w := by
  refine wpList_step fun K hK => ?_
  rw [if_pos hw]
  unfold Oper.wp execOp
  simp only [ho, hx, Instr.loadAt, Instr.sureAddr, Sem.run_bind, Sem.run_pure, Result.andThen_ok, loadVar_any p ty cs d hc hu hd hi]
  exact hK _ _ h
theorem load_yields_any {ty : TypeId} {x : Operand} (ho : op.op = .load ty x) {p : Addr} (hx : a.eval x = .pointer (some p)) {cs : List Value} {d : TypeDesc} (hc : CellsAt w p cs)
    (hu : P.underlying ty = some d) (hd : d.isRow = true) (hi : (P.info? ty).map (·.size) = some cs.length) : (execOp a.eval op).run P w = .ok (.value (.agg cs.toArray)) w := by
  unfold execOp
  simp only [ho, hx, Instr.loadAt, Instr.sureAddr, Sem.run_bind, Sem.run_pure, Result.andThen_ok, loadVar_any p ty cs d hc hu hd hi]
theorem store_ev (hgd : op.guard = none) (ty : TypeId) (x y : Operand) (ho : op.op = .store ty x y) (b o : Nat) (cs : List Value) (hx : a.eval x = .pointer (some ⟨b, o, none⟩)) (hy : a.eval y = .agg cs.toArray)
    (ht : W.there b o cs.length) (hi : (P.info? ty).map (·.size) = some cs.length) (h1 : ∀ u ∈ cs, u.oneCell' = true) (h : ∀ w1, w1 = W.setCells b o cs → wpList P ops Q rest (a.put op.dst undef) w1) : wpList P ops Q (op :: rest) a W :=
  wpList_store_mid hgd ty x y ho b o cs.toArray hx hy (by simpa using ht) (by simpa using hi) (all_oneCell_toArray h1) (h _ (by simp))
end
theorem add_add (a : Addr) (i j : Nat) : (a.add i).add j = a.add (i + j) := by
  unfold Addr.add
  by_cases h1 : i = 0 <;> by_cases h2 : j = 0 <;> simp [h1, h2, Nat.add_assoc]
theorem rd_at {w : World} {F : Nat → Prop} {A : Option Addr} {n c : Nat} {xs : List Smp} (h : Rd ks w F (.slice A n c) xs) {i : Nat} (hi : i < xs.length) : ∃ ad, A = some ad ∧ CellsAt w (ad.add (i * 23)) (cells xs[i]) := by
  obtain ⟨A', c', e, hl, hC, hA⟩ := h
  injection e with e1 _ _
  subst e1
  obtain ⟨ad, e, hc⟩ := hC.2.2 (by omega)
  refine ⟨ad, e, fun j v hj => ?_⟩
  obtain ⟨c, _, hK, hcell⟩ := hc i _ (List.getElem?_eq_getElem hi)
  have hK' : c = cells xs[i] := hK
  rw [add_add]
  exact hcell j v (by rw [hK']; exact hj)
theorem rd_below {w w' : World} {F : Nat → Prop} {v : Value} {xs : List Smp} (h : Rd ks w F v xs) (hb : Below w.heap.size w w') : Rd ks w' F v xs := by
  obtain ⟨A, c, e, hl, hC, hA⟩ := h
  exact ⟨A, c, e, hl, Kd.C_below hC hb, hA⟩
theorem meas (n k : Nat) (h : k < n) : n - (intOf (Value.int IntKind.i64 ((k + 1 : Nat) : Int))).toNat < n - (intOf (Value.int IntKind.i64 (k : Int))).toNat := by simp [intOf]; omega
/-- A sample's data cell. -/
theorem data_at {w : World} {a : Addr} {x : Smp} (h : CellsAt w a (cells x)) : w.cell? ⟨a.block, a.off + 22, none⟩ = some (.string x.data) := by
  have := h 22 (.string x.data) ?_
  · unfold Addr.add at this
    rwa [if_neg (by decide)] at this
  unfold cells head
  rw [List.getElem?_append_right (by simp), List.getElem?_append_right (by rw [nums_length, key_len]; simp), nums_length, key_len]
  rfl
/-- What much answers. -/
def Mu (w : World) (n : Nat) (e : Ending) (w' : World) : Prop := ∃ r : Bool, e = .returned (.bool r) ∧ (r = false → n ≤ 100) ∧ Below w.heap.size w w'
set_option maxRecDepth 20000 in
set_option maxHeartbeats 2000000 in
theorem much {F : Nat → Prop} {w : World} {v : Value} {xs : List Smp} (h : Rd ks w F v xs) :
    Calls Try.prog 5 #[v] w (Mu w xs.length) := by
  have b1 := Below.refl w.heap.size w
  have HL := Lib.hid h.max
  have HA := Lib.hid h
  obtain ⟨A, c, rfl, _, _, _⟩ := h
  go_enter Try.func5, Try.ntmps5
  go_wp2
  go_loopw [3, 4] (fun v3 v4 wr => ∃ (i : Nat) (n : Int), v4 = .int .i64 (i : Int) ∧ v3 = .int .i64 n ∧ i ≤ xs.length ∧ Below w.heap.size w wr) (fun _ v4 _ => xs.length - (intOf v4).toNat)
  case atStart => exact ⟨0, 0, rfl, rfl, Nat.zero_le _, b1⟩
  case round =>
    clear b1
    obtain ⟨i, n, rfl, rfl, hi, bb⟩ := hrel
    by_cases hlt : i < xs.length
    · have h0 : (0 : Int) ≤ (i : Int) := by omega
      have hlt1 : (i : Int) < (xs.length : Int) := by omega
      obtain ⟨ad, rfl, q1⟩ := rd_at (rd_below HA.out bb) hlt
      have c22 := data_at q1
      have hwi : wrap64 ((i : Int) + 1) = ((i + 1 : Nat) : Int) := by have := HL.out; unfold wrap64; omega
      have hm := meas _ _ hlt
      have hlt2 := Lib.hid hlt
      generalize xs[i] = x at q1 c22
      clear q1 hlt hi
      go_wp2
      rw [hwi]
      exact ⟨⟨i + 1, _, rfl, rfl, hlt2.out, bb⟩, hm⟩
    · have hk : i = xs.length := by omega
      subst hk
      clear hlt hi
      by_cases hb : (100 : Int) < (xs.length : Int)
      · go_wp2
        go_ret
        exact ⟨_, rfl, fun hh => by simp [hb] at hh, bb⟩
      · have HN : Hid (xs.length ≤ 100) := Lib.hid (by omega)
        go_wp2
        go_ret
        exact ⟨_, rfl, fun _ => HN.out, bb⟩
end Go.Proofs.Ytmlfnlmdnhblmaa.Rec
namespace Go.Proofs.Ytmlfnlmdnhblmaa.WdT
open Wd Go.RowKit Base Go.Proofs.YtmlfnlmdnhblmaaW.PrintWords Go.Proofs.YtmlfnlmdnhblmaaW.PrintLast Go.Proofs.YtmlfnlmdnhblmaaW.PrintMore Go.Proofs.Ytmlfnlmdnhblmaa.PRecordBack
theorem sized_eq (s : Int) : word_sized.f s = some (sz s) := by
  unfold word_sized.f sz
  by_cases h1 : s = 1
  · simp [h1]
  · by_cases h2 : s = 2
    · simp [h2]
    · by_cases h4 : s = 4
      · simp [h4]
      · simp [h1, h2, h4]
theorem mask_eq {s : Int} (h : sz s = true) : word_mask.f s = some (pw s - 1) := by
  rcases sz_cases h with rfl | rfl | rfl | rfl <;> kernel_rfl
theorem put_loop (a s : Int) (hs : s ≤ 8) : ∀ (j i : Nat) (pre : List Int) (k : Nat), ((i + j : Nat) : Int) = s → pre.length = i →
    word_Put.l0 (j + 1 + k) a (pre ++ List.replicate j 0) s (i : Int) = some (strOfNums (pre ++ le (a / 256 ^ i) j), 0)
  | 0, i, pre, k, h, hp => by
    rw [show 0 + 1 + k = k + 1 from by omega]
    simp only [word_Put.l0]
    rw [if_neg (by omega)]
    simp [le]
  | j + 1, i, pre, k, h, hp => by
    rw [show j + 1 + 1 + k = (j + 1 + k) + 1 from by omega]
    simp only [word_Put.l0]
    have e0 : (0 : Int) ≤ IntKind.u64.wrap (wrap64 (8 * (i : Int))) := by
      rw [u64_mod]
      omega
    have ew : wrap64 ((i : Int) + 1) = ((i + 1 : Nat) : Int) := by unfold wrap64; omega
    have es : (pre ++ List.replicate (j + 1) 0).set ((i : Int)).toNat (shr .u64 a (IntKind.u64.wrap (wrap64 (8 * (i : Int)))) % 256) = (pre ++ [a / 256 ^ i % 256]) ++ List.replicate j 0 := by
      rw [Int.toNat_natCast, List.set_append_right _ _ (by omega), hp, Nat.sub_self, shr_8 a i (by omega)]
      simp [List.replicate_succ]
    rw [if_pos (by omega), if_pos e0, if_pos (by omega), if_pos (by simp; omega), ew, es, put_loop a s hs j (i + 1) (pre ++ [a / 256 ^ i % 256]) k (by omega) (by simp [hp])]
    congr 2
    rw [le, List.append_assoc, List.singleton_append, Int.pow_succ, Int.ediv_ediv_of_nonneg (Int.pow_nonneg (by decide))]
theorem put_eq (a s : Int) (k : Nat) (hk : 12 ≤ k) (h0 : 0 ≤ a) (h1 : a < 18446744073709551616) : word_Put.f k a s = some (if sz s then putv a s else (⟨#[]⟩, 4)) := by
  unfold word_Put.f
  rw [sized_eq, Option.bind_some]
  cases h : sz s with
  | false => rfl
  | true =>
    have hs := sz_cases h
    rw [if_pos rfl, mask_eq h, Option.bind_some, if_pos rfl]
    unfold putv
    by_cases hp : a < pw s
    · rw [if_pos ((andNot_mask h h0 h1).2 hp), if_pos (by omega), if_pos (by omega), if_pos hp]
      obtain ⟨n, rfl⟩ : ∃ n : Nat, s = (n : Int) := ⟨s.toNat, by omega⟩
      have := put_loop a n (by omega) n 0 [] (k - n - 1) (by omega) rfl
      rw [show n + 1 + (k - n - 1) = k from by omega, List.nil_append, List.nil_append] at this
      simp only [Int.toNat_natCast]
      rw [show ((0 : Nat) : Int) = 0 from rfl] at this
      rw [this]
      simp
    · rw [if_neg (fun h' => hp ((andNot_mask h h0 h1).1 h')), if_neg hp]
theorem put (a s : Int) (h0 : 0 ≤ a) (h1 : a < 18446744073709551616) (w : World) :
    Calls Try.prog 28 #[.int .u64 a, .int .i64 s] w fun e w' => e = .returned (.tuple #[.string (if sz s then putv a s else (⟨#[]⟩, 4)).1, .int .i64 (if sz s then putv a s else (⟨#[]⟩, 4)).2]) ∧ Below w.heap.size w w' :=
  word_Put.calls 12 a s _ _ w (put_eq a s 12 (by decide) h0 h1)
end Go.Proofs.Ytmlfnlmdnhblmaa.WdT
namespace Go.Proofs.Ytmlfnlmdnhblmaa.WdT
open Wd Go.RowKit Base Go.Proofs.YtmlfnlmdnhblmaaW.PrintWords Go.Proofs.YtmlfnlmdnhblmaaW.PrintLast Go.Proofs.YtmlfnlmdnhblmaaW.PrintMore Go.Proofs.Ytmlfnlmdnhblmaa.PRecordBack
theorem take_loop (b : ByteArray) (at_ s : Int) (hs : s ≤ 8) (ha : 0 ≤ at_) (hb : at_ + s ≤ b.size) (hz : b.size ≤ 9223372036854775807) : ∀ (j i : Nat) (k : Nat), ((i + j : Nat) : Int) = s →
    word_Take.l0 (j + 1 + k) b at_ (lev (fun i => bt b (at_ + i)) i) s (i : Int) = some (lev (fun i => bt b (at_ + i)) s.toNat, 0)
  | 0, i, k, h => by
    rw [show 0 + 1 + k = k + 1 from by omega]
    simp only [word_Take.l0]
    rw [if_neg (by omega), show s.toNat = i from by omega]
  | j + 1, i, k, h => by
    rw [show j + 1 + 1 + k = (j + 1 + k) + 1 from by omega]
    simp only [word_Take.l0]
    have e0 : (0 : Int) ≤ IntKind.u64.wrap (wrap64 (8 * (i : Int))) := by
      rw [u64_mod]
      omega
    have ew : wrap64 ((i : Int) + 1) = ((i + 1 : Nat) : Int) := by unfold wrap64; omega
    have ea : wrap64 (at_ + (i : Int)) = at_ + i := by unfold wrap64; omega
    have hr := bt_range b (at_ + i)
    rw [ea, if_pos (by omega), if_pos (by omega), if_pos (by omega), if_pos e0, ew, or_add _ _ i (by omega) (lev_lo _ (fun i => bt_range b _) i) (lev_hi _ (fun i => bt_range b _) i) hr.1 hr.2,
      ← lev_snoc (fun i => bt b (at_ + i)) i]
    exact take_loop b at_ s hs ha hb hz j (i + 1) k (by omega)
theorem take_eq (b : ByteArray) (at_ s : Int) (k : Nat) (hk : 12 ≤ k) (hz : b.size ≤ 9223372036854775807) (h0 : -9223372036854775808 ≤ at_) (h1 : at_ < 9223372036854775808) : word_Take.f k b at_ s = some (if sz s then takev b at_ s else (0, 4)) := by
  unfold word_Take.f
  rw [sized_eq, Option.bind_some]
  cases h : sz s with
  | false => rfl
  | true =>
    have hs := sz_cases h
    obtain ⟨k, rfl⟩ : ∃ m, k = m + 1 := ⟨k - 1, by omega⟩
    rw [if_pos rfl, if_pos rfl]
    unfold takev
    by_cases hn : at_ < 0
    · rw [if_pos hn, if_pos (Or.inl hn)]
      simp [word_Take.j0]
    · rw [if_neg hn]
      by_cases hg : (b.size : Int) < at_
      · rw [show decide (at_ > (b.size : Int)) = true from decide_eq_true hg, if_pos (Or.inr hg)]
        simp [word_Take.j0]
      · rw [show decide (at_ > (b.size : Int)) = false from decide_eq_false hg, if_neg (by omega)]
        simp only [word_Take.j0]
        have ew : wrap64 ((b.size : Int) - at_) = (b.size : Int) - at_ := by unfold wrap64; omega
        rw [if_neg (by decide), ew]
        by_cases hq : (b.size : Int) - at_ < s
        · rw [if_pos hq, if_pos hq]
        · rw [if_neg hq, if_neg hq]
          obtain ⟨n, rfl⟩ : ∃ n : Nat, s = (n : Int) := ⟨s.toNat, by omega⟩
          have := take_loop b at_ n (by omega) (by omega) (by omega) hz n 0 (k - n - 1) (by omega)
          rw [show n + 1 + (k - n - 1) = k from by omega] at this
          exact this
theorem take (b : ByteArray) (at_ s : Int) (hz : b.size ≤ 9223372036854775807) (h0 : -9223372036854775808 ≤ at_) (h1 : at_ < 9223372036854775808) (w : World) :
    Calls Try.prog 51 #[.string b, .int .i64 at_, .int .i64 s] w fun e w' => e = .returned (.tuple #[.int .u64 (if sz s then takev b at_ s else (0, 4)).1, .int .i64 (if sz s then takev b at_ s else (0, 4)).2]) ∧ Below w.heap.size w w' :=
  (word_Take.calls 12 b at_ s _ _ w (take_eq b at_ s 12 (by decide) hz h0 h1)).mono fun _ _ h => ⟨h.1, drawn_below h.2⟩
end Go.Proofs.Ytmlfnlmdnhblmaa.WdT
namespace Go.Proofs.Ytmlfnlmdnhblmaa.Wd
open Go.RowKit Base Go.Proofs.YtmlfnlmdnhblmaaW.PrintWords Go.Proofs.YtmlfnlmdnhblmaaW.PrintLast Go.Proofs.YtmlfnlmdnhblmaaW.PrintMore
theorem take (b : ByteArray) (at_ s : Int) (hz : b.size ≤ 9223372036854775807) (h0 : -9223372036854775808 ≤ at_) (h1 : at_ < 9223372036854775808) (w : World) :
    Calls Try.prog 51 #[.string b, .int .i64 at_, .int .i64 s] w fun e w' => e = .returned (.tuple #[.int .u64 (if sz s then takev b at_ s else (0, 4)).1, .int .i64 (if sz s then takev b at_ s else (0, 4)).2]) ∧ Below w.heap.size w w' :=
  WdT.take b at_ s hz h0 h1 w
end Go.Proofs.Ytmlfnlmdnhblmaa.Wd
namespace Go.Proofs.Ytmlfnlmdnhblmaa.Cur
open Go.RowKit Base Go.Proofs.YtmlfnlmdnhblmaaW.PrintWords Go.Proofs.YtmlfnlmdnhblmaaW.PrintLast Go.Proofs.YtmlfnlmdnhblmaaW.PrintMore Wd Al
/-- What is wrong with bytes between others: how many, and where. -/
def pad (b : ByteArray) : Nat → Nat → Int
  | 0, _ => 0
  | g + 1, a => if h : a < b.size then (if b[a] = 0 then pad b g (a + 1) else 12) else 2
/-- What Take answers: the number, the place and the error behind. -/
def ctake (b : ByteArray) (a : Nat) (e s : Int) : Int × Int × Int :=
  if e ≠ 0 then (0, a, e) else if sz s = false then (0, a, 4) else if pad b (gapv a s).toNat a ≠ 0 then (0, a, pad b (gapv a s).toNat a)
  else if (takev b ((a : Int) + gapv a s) s).2 ≠ 0 then (0, a, 2) else ((takev b ((a : Int) + gapv a s) s).1, (a : Int) + gapv a s + s, 0)
theorem takev_err (b : ByteArray) (a s : Int) (hs : 0 < s) (h0 : 0 ≤ a) : (takev b a s).2 ≠ 0 ↔ (b.size : Int) < a + s := by
  unfold takev
  split
  · constructor
    · intro _; omega
    · intro _; show (7 : Int) ≠ 0; decide
  · split
    · constructor
      · intro _; omega
      · intro _; show (2 : Int) ≠ 0; decide
    · constructor
      · intro h; exact absurd rfl h
      · intro h; omega
theorem bt_get (b : ByteArray) (a : Nat) (h : a < b.size) : bt b (a : Int) = (b[a].toNat : Int) := by
  unfold bt
  rw [Int.toNat_natCast, dif_pos h]
/-- What Text answers. -/
def ctext (b : ByteArray) (a : Nat) (e n : Int) : ByteArray × Int × Int :=
  if e = 0 then (if n < 0 then (⟨#[]⟩, a, 7) else if (b.size : Int) - a < n then (⟨#[]⟩, a, 2) else (b.extract a (a + n.toNat), a + n, 0)) else (⟨#[]⟩, a, e)
/-- What Done answers. -/
def cdone (b : ByteArray) (a : Nat) (e : Int) : Int := if e = 0 ∧ a < b.size then 1 else e
end Go.Proofs.Ytmlfnlmdnhblmaa.Cur
namespace Go.Proofs.Ytmlfnlmdnhblmaa.Cur
open Go.RowKit Base Sp Flat Go.Proofs.YtmlfnlmdnhblmaaW.PrintWords Go.Proofs.YtmlfnlmdnhblmaaW.PrintLast Wd Al Buf
/-- A cursor in block c. -/
def CB (w : World) (c : Nat) (a : Nat) (b : ByteArray) (e : Int) : Prop := w.heap[c]? = some (.cells #[.int .i64 (a : Int), .string b, .int .i64 e] 88 (0, 0))
theorem three {w : World} {c a : Nat} {b : ByteArray} {e : Int} (h : CB w c a b e) :
    (w.cell? ⟨c, 0, none⟩ = some (.int .i64 (a : Int)) ∧ w.cell? ⟨c, 1, none⟩ = some (.string b) ∧ w.cell? ⟨c, 2, none⟩ = some (.int .i64 e)) ∧ w.frozen? ⟨c, 0, none⟩ = false ∧ w.frozen? ⟨c, 2, none⟩ = false :=
  ⟨⟨blk_cell h 0, blk_cell h 1, blk_cell h 2⟩, blk_frozen h 0, blk_frozen h 2⟩
theorem CB.lt {w : World} {c a : Nat} {b : ByteArray} {e : Int} (h : CB w c a b e) : c < w.heap.size := blk_lt h
theorem CB.below {w w' : World} {c a : Nat} {b : ByteArray} {e : Int} (h : CB w c a b e) (hb : Below w.heap.size w w') : CB w' c a b e := (hb.block c h.lt).trans h
theorem CB.far {w w' : World} {c a : Nat} {b : ByteArray} {e : Int} {F : Nat → Prop} (h : CB w c a b e) (hm : Mod F w w') (hF : ¬ F c) : CB w' c a b e := (hm.block c h.lt hF).trans h
theorem CB.err {w : World} {c a : Nat} {b : ByteArray} {e : Int} (h : CB w c a b e) (x : Int) : CB (w.setCell ⟨c, 2, none⟩ (.int .i64 x)) c a b x := by simpa [CB] using blk_set h 2 (.int .i64 x)
theorem CB.place {w : World} {c a : Nat} {b : ByteArray} {e : Int} (h : CB w c a b e) (x : Nat) : CB (w.setCell ⟨c, 0, none⟩ (.int .i64 (x : Int))) c x b e := by simpa [CB] using blk_set h 0 (.int .i64 (x : Int))
theorem fresh (b : ByteArray) (w : World) : CB (w.alloc (.cells #[.int .i64 0, .string b, .int .i64 0] 88)) w.heap.size 0 b 0 := heap_alloc_new _ _
theorem read (b : ByteArray) (w : World) : Calls Try.prog 36 #[.string b] w fun e w' => e = .returned (.pointer (some ⟨w.heap.size, 0, none⟩)) ∧ CB w' w.heap.size 0 b 0 ∧ Below w.heap.size w w' := by
  have H := Lib.hid (fresh b w)
  go_enter Try.func36, Try.ntmps36
  go_wp2
  go_ret
  exact ⟨rfl, H.out, (Below.refl _ _).alloc (Nat.le_refl _) _⟩
theorem fail_ (c a : Nat) (b : ByteArray) (e x : Int) (w : World) (h : CB w c a b e) : Calls Try.prog 50 #[.pointer (some ⟨c, 0, none⟩), .int .i64 x] w fun e w' => e = .returned (.tuple #[]) ∧ CB w' c a b x ∧ Mod (At c) w w' := by
  obtain ⟨⟨c0, c1, c2⟩, g0, g2⟩ := three h
  have H := Lib.hid h
  clear h
  go_enter Try.func50, Try.ntmps50
  go_wp2
  go_end0
  exact ⟨rfl, H.out.err x, at_set (Mod.refl _ _) _ _⟩
theorem at_ (c a : Nat) (b : ByteArray) (e : Int) (w : World) (h : CB w c a b e) : Calls Try.prog 40 #[.pointer (some ⟨c, 0, none⟩)] w fun e w' => e = .returned (.int .i64 (a : Int)) ∧ w = w' := by
  obtain ⟨⟨c0, c1, c2⟩, g0, g2⟩ := three h
  clear h
  go_enter Try.func40, Try.ntmps40
  go_wp2
  go_ret
  exact ⟨rfl, rfl⟩
theorem err (c a : Nat) (b : ByteArray) (e : Int) (w : World) (h : CB w c a b e) : Calls Try.prog 39 #[.pointer (some ⟨c, 0, none⟩)] w fun e' w' => e' = .returned (.int .i64 e) ∧ w = w' := by
  obtain ⟨⟨c0, c1, c2⟩, g0, g2⟩ := three h
  clear h
  go_enter Try.func39, Try.ntmps39
  go_wp2
  go_ret
  exact ⟨rfl, rfl⟩
theorem at_nil (w : World) : Calls Try.prog 40 #[.pointer none] w fun e w' => e = .returned (.int .i64 0) ∧ w = w' := by
  go_enter Try.func40, Try.ntmps40
  go_wp2
  go_ret
  exact ⟨rfl, rfl⟩
theorem err_nil (w : World) : Calls Try.prog 39 #[.pointer none] w fun e w' => e = .returned (.int .i64 0) ∧ w = w' := by
  go_enter Try.func39, Try.ntmps39
  go_wp2
  go_ret
  exact ⟨rfl, rfl⟩
theorem take_nil (s : Int) (w : World) : Calls Try.prog 37 #[.pointer none, .int .i64 s] w fun e w' => e = .returned (.int .u64 0) ∧ w = w' := by
  go_enter Try.func37, Try.ntmps37
  go_wp2
  go_ret
  exact ⟨rfl, rfl⟩
theorem text_nil (n : Int) (w : World) : Calls Try.prog 38 #[.pointer none, .int .i64 n] w fun e w' => e = .returned (.string ⟨#[]⟩) ∧ w = w' := by
  go_enter Try.func38, Try.ntmps38
  go_wp2
  go_ret
  exact ⟨rfl, rfl⟩
end Go.Proofs.Ytmlfnlmdnhblmaa.Cur
