import Derived.Test.YtmlfnlmdnhblmaaRecP
set_option linter.unusedVariables false
set_option linter.unusedSimpArgs false
namespace Go.Proofs.Ytmlfnlmdnhblmaa.Rec
open Go.RowKit Base Sp Flat Go.Proofs.YtmlfnlmdnhblmaaW.PrintWords Go.Proofs.YtmlfnlmdnhblmaaW.PrintLast Go.Proofs.YtmlfnlmdnhblmaaW.PrintMore Wd Al Buf Smp
/-- The numbers' bytes after k rounds. -/
def pre (x : Smp) : Nat → List UInt8
  | 0 => []
  | 1 => nbytes x.frame 8
  | 2 => nbytes x.frame 8 ++ nbytes x.run 8
  | _ => rhd x
/-- What is known while a record is put. -/
structure Pp (w0 w : World) (bb g : Nat) (x : Smp) (l : List UInt8) (F : Nat → Prop) : Prop where
  hb : BB w F bb l
  hx : w.heap[w0.heap.size]? = some (.cells (cells x).toArray 26 (0, 0))
  hg : w.heap[g]? = some (.cells #[.int .u64 x.frame, .int .u64 x.run, .int .u64 x.seq] 22 (0, 0))
  xF : ¬ F w0.heap.size
  gF : ¬ F g
  fF : ∀ k, F k → w0.heap.size ≤ k
  be : Below w0.heap.size w0 w
theorem Pp.wr {w0 w w' : World} {bb g : Nat} {x : Smp} {l l' : List UInt8} {F : Nat → Prop} (h : Pp w0 w bb g x l F) (hw : Wr w F bb l' w') : ∃ F', Pp w0 w' bb g x l' F' := by
  obtain ⟨F2, hb, hm, hg⟩ := hw
  have l1 := blk_lt h.hx
  have l2 := blk_lt h.hg
  exact ⟨F2, hb, (hm.block _ l1 h.xF).trans h.hx, (hm.block _ l2 h.gF).trans h.hg, fun hf => (hg _ hf).elim h.xF (fun h1 => by omega), fun hf => (hg _ hf).elim h.gF (fun h1 => by omega), grow_up hg h.fF h.be.size, hm.below h.be h.be.size h.fF⟩
theorem Pp.bel {w0 w w' : World} {bb g : Nat} {x : Smp} {l : List UInt8} {F : Nat → Prop} (h : Pp w0 w bb g x l F) (hb : Below w.heap.size w w') : Pp w0 w' bb g x l F :=
  ⟨h.hb.below hb, blk_below h.hx hb, blk_below h.hg hb, h.xF, h.gF, h.fF, bstep h.be hb⟩
theorem putp (L : List UInt8) (n s : Int) (m : Nat) (F : Nat → Prop) (bb : Nat) (w : World) (h : BB w F bb L) (hl : L.length = m) (hm : m ≤ 100) (hg : gapv m s = 0) (h0 : 0 ≤ n) (h1 : n < 18446744073709551616) (hc : pcode n s = 0) :
    Calls Try.prog 16 #[.pointer (some ⟨bb, 0, none⟩), .int .u64 n, .int .i64 s] w fun e w' => e = .returned (.int .i64 0) ∧ Wr w F bb (L ++ nbytes n s) w' := by
  have := put_good F bb L n s w h (by omega) h0 h1 hc
  rwa [pbytes_flat L n s m hl hg] at this
theorem wf_byte {n : Int} (h0 : 0 ≤ n) (h1 : n ≤ 65535) : IntKind.u64.wrap n = n := wrapu64 h0 (by omega)
set_option maxRecDepth 20000 in
set_option maxHeartbeats 4000000 in
theorem put_bad (x : Smp) (hb : bad x = true) (w : World) :
    Calls Try.prog 7 #[.agg (cells x).toArray] w fun e' w' => e' = .returned (.tuple #[.string (rput x).1, .int .i64 (rput x).2]) ∧ Below w.heap.size w w' := by
  have hr : rput x = (⟨#[]⟩, 7) := by unfold rput; rw [if_pos hb]
  rw [hr]
  have b0 : Below w.heap.size w (w.alloc (.cells (cells x).toArray 26)) := (Below.refl _ _).alloc (Nat.le_refl _) _
  have BX := BoxC.of (heap_alloc_new w (.cells (cells x).toArray 26))
  have c0 := BX.c0
  have c1 := BX.c1
  clear BX
  unfold bad at hb
  simp only [Bool.or_eq_true, decide_eq_true_eq] at hb
  by_cases h1 : x.op < 0
  · clear hb
    go_enter Try.func7, Try.ntmps7
    go_wp2
    go_ret2
    exact ⟨rfl, b0⟩
  by_cases h2 : 255 < x.op
  · clear hb
    go_enter Try.func7, Try.ntmps7
    go_wp2
    go_ret2
    exact ⟨rfl, b0⟩
  by_cases h3 : x.writer < 0
  · clear hb
    go_enter Try.func7, Try.ntmps7
    go_wp2
    go_ret2
    exact ⟨rfl, b0⟩
  · have h4 : 255 < x.writer := by omega
    clear hb
    go_enter Try.func7, Try.ntmps7
    go_wp2
    go_ret2
    exact ⟨rfl, b0⟩
set_option maxRecDepth 20000 in
set_option maxHeartbeats 4000000 in
theorem put_long (x : Smp) (hb : bad x = false) (hl : 512 < x.data.size) (w : World) :
    Calls Try.prog 7 #[.agg (cells x).toArray] w fun e' w' => e' = .returned (.tuple #[.string (rput x).1, .int .i64 (rput x).2]) ∧ Below w.heap.size w w' := by
  have hr : rput x = (⟨#[]⟩, 3) := by unfold rput; rw [if_neg (by rw [hb]; decide), if_pos hl]
  rw [hr]
  have b0 : Below w.heap.size w (w.alloc (.cells (cells x).toArray 26)) := (Below.refl _ _).alloc (Nat.le_refl _) _
  have BX := BoxC.of (heap_alloc_new w (.cells (cells x).toArray 26))
  have c0 := BX.c0
  have c1 := BX.c1
  have c22 := BX.c22
  clear BX
  obtain ⟨h1, h2, h3, h4⟩ := bad_f hb
  have hl2 : (512 : Int) < (x.data.size : Int) := by omega
  clear hb hl
  go_enter Try.func7, Try.ntmps7
  go_wp2
  go_ret2
  exact ⟨rfl, b0⟩
set_option maxRecDepth 20000 in
set_option maxHeartbeats 4000000 in
theorem put_fine (x : Smp) (hb : bad x = false) (hl : x.data.size ≤ 512) (w : World) :
    Calls Try.prog 7 #[.agg (cells x).toArray] w fun e' w' => e' = .returned (.tuple #[.string (rput x).1, .int .i64 (rput x).2]) ∧ Below w.heap.size w w' := by
  have hr : rput x = (tx (recb x), 0) := by unfold rput; rw [if_neg (by rw [hb]; decide), if_neg (by omega)]
  rw [hr]
  have b0 : Below w.heap.size w (w.alloc (.cells (cells x).toArray 26)) := (Below.refl _ _).alloc (Nat.le_refl _) _
  have h0 := heap_alloc_new w (.cells (cells x).toArray 26)
  have BX := BoxC.of h0
  have c0 := BX.c0
  have c1 := BX.c1
  have c22 := BX.c22
  clear BX
  have GD := Lib.hid x.good
  have HB := Lib.hid (bad_f hb)
  have HS := Lib.hid hl
  obtain ⟨h1, h2, h3, h4⟩ := bad_f hb
  have hl2 : (x.data.size : Int) ≤ 512 := by omega
  clear hb hl
  obtain ⟨W0, hW0⟩ : ∃ W0, W0 = w.alloc (.cells (cells x).toArray 26) := ⟨_, rfl⟩
  rw [← hW0] at b0 h0
  go_enter Try.func7, Try.ntmps7
  go_wp2_with fail
  rw [← hW0]
  clear hW0 c0 c1 c22 h1 h2 h3 h4 hl2
  refine (Buf.new W0).mono ?_
  rintro e' w1 ⟨rfl, k1, b1⟩
  have hx1 := (b1.block w.heap.size (blk_lt h0)).trans h0
  have BX := BoxC.of hx1
  have c2 := BX.c2
  have c3 := BX.c3
  have c4 := BX.c4
  clear BX
  have hne : w1.heap.size < (w1.alloc (.cells #[.int .u64 x.frame, .int .u64 x.run, .int .u64 x.seq] 22)).heap.size := by rw [World.size_alloc]; exact Nat.lt_succ_self _
  have L0 : Pp w (w1.alloc (.cells #[.int .u64 x.frame, .int .u64 x.run, .int .u64 x.seq] 22)) W0.heap.size w1.heap.size x (pre x 0) (fun k => k = W0.heap.size) :=
    ⟨k1.below ((Below.refl _ _).alloc (Nat.le_refl _) _), ((Below.refl _ _).alloc (Nat.le_refl _) _ : Below w1.heap.size w1 _).block _ (blk_lt hx1) |>.trans hx1, heap_alloc_new _ _, fun hh => by have := blk_lt h0; omega, fun hh => by have := k1.lt _ rfl; omega, fun k hk => by have := blk_lt h0; omega, bstep (bstep b0 b1) ((Below.refl _ _).alloc (Nat.le_refl _) _)⟩
  clear hne k1 b0 b1 h0 hx1
  generalize W0.heap.size = bb at *
  generalize hgs : w1.heap.size = g at L0
  go_wp2
  clear hgs c2 c3 c4
  generalize (w1.alloc (.cells #[.int .u64 x.frame, .int .u64 x.run, .int .u64 x.seq] 22)) = W2 at *
  go_loopw [40] (fun i wr => ∃ (k : Nat) (F : Nat → Prop), k ≤ 3 ∧ i = .int .i64 (k : Int) ∧ Pp w wr bb g x (pre x k) F) (fun i _ => (3 - (intOf i).toNat))
  case atStart => exact ⟨0, _, by decide, rfl, L0⟩
  case round =>
    clear L0
    obtain ⟨k, F, hk, rfl, HL⟩ := hrel
    have hkk : k = 0 ∨ k = 1 ∨ k = 2 ∨ k = 3 := by omega
    rcases hkk with rfl | rfl | rfl | rfl
    · have hcell : wr.cell? ⟨g, 0, none⟩ = some (.int .u64 x.frame) := blk_cell HL.hg 0
      have hP := putp (pre x 0) x.frame 8 0 F bb wr HL.hb rfl (by decide) (by kernel_rfl) (u64r GD.out.2.2.1).1 (u64r GD.out.2.2.1).2 (pcode8 _ (u64r GD.out.2.2.1).2)
      go_wp2_with fail
      refine hP.mono ?_
      rintro e' w2 ⟨rfl, hw2⟩
      obtain ⟨F2, HL2⟩ := HL.wr hw2
      clear hP hw2 HL hcell
      go_wp2
      go_roundw
      case rel => exact ⟨0 + 1, F2, by decide, rfl, HL2⟩
      case measure => decide
    · have hcell : wr.cell? ⟨g, 1, none⟩ = some (.int .u64 x.run) := blk_cell HL.hg 1
      have hP := putp (pre x 1) x.run 8 8 F bb wr HL.hb (nbytes_len _ _) (by decide) (by kernel_rfl) (u64r GD.out.2.2.2.1).1 (u64r GD.out.2.2.2.1).2 (pcode8 _ (u64r GD.out.2.2.2.1).2)
      go_wp2_with fail
      refine hP.mono ?_
      rintro e' w2 ⟨rfl, hw2⟩
      obtain ⟨F2, HL2⟩ := HL.wr hw2
      clear hP hw2 HL hcell
      go_wp2
      go_roundw
      case rel => exact ⟨1 + 1, F2, by decide, rfl, HL2⟩
      case measure => decide
    · have hcell : wr.cell? ⟨g, 2, none⟩ = some (.int .u64 x.seq) := blk_cell HL.hg 2
      have hP := putp (pre x 2) x.seq 8 16 F bb wr HL.hb (by show (nbytes _ 8 ++ nbytes _ 8).length = 16; rw [List.length_append, nbytes_len, nbytes_len]; rfl) (by decide) (by kernel_rfl) (u64r GD.out.2.2.2.2.1).1 (u64r GD.out.2.2.2.2.1).2 (pcode8 _ (u64r GD.out.2.2.2.2.1).2)
      go_wp2_with fail
      refine hP.mono ?_
      rintro e' w2 ⟨rfl, hw2⟩
      obtain ⟨F2, HL2⟩ := HL.wr hw2
      clear hP hw2 HL hcell
      go_wp2
      go_roundw
      case rel => exact ⟨2 + 1, F2, by decide, rfl, HL2⟩
      case measure => decide
    · have BX := BoxC.of HL.hx
      have c0 := BX.c0
      clear BX
      have hw0 := wf_byte HB.out.1 (by have := HB.out; omega)
      have hP := putp (rhd x) x.op 1 24 F bb wr HL.hb (rhd_len x) (by decide) (by kernel_rfl) HB.out.1 (by have := HB.out; omega) (pcode1 _ HB.out.2.1)
      go_wp2_with fail
      refine hP.mono ?_
      rintro e' w2 ⟨rfl, hw2⟩
      obtain ⟨F2, HL2⟩ := HL.wr hw2
      clear hP hw2 HL c0 hw0 hk
      have BX := BoxC.of HL2.hx
      have c0 := BX.c1
      clear BX
      have hw0 := wf_byte HB.out.2.2.1 (by have := HB.out; omega)
      have hP := putp (rhd x ++ nbytes x.op 1) x.writer 1 25 F2 bb w2 HL2.hb (by rw [List.length_append, rhd_len, nbytes_len]; rfl) (by decide) (by kernel_rfl) HB.out.2.2.1 (by have := HB.out; omega) (pcode1 _ HB.out.2.2.2)
      go_wp2_with fail
      refine hP.mono ?_
      rintro e' w3 ⟨rfl, hw3⟩
      obtain ⟨F3, HL3⟩ := HL2.wr hw3
      clear hP hw3 HL2 c0 hw0
      have BX := BoxC.of HL3.hx
      have c0 := BX.c22
      clear BX
      have hw0 : IntKind.u64.wrap (x.data.size : Int) = (x.data.size : Int) := wf_byte (by omega) (by have := HS.out; omega)
      have hP := putp (rhd x ++ nbytes x.op 1 ++ nbytes x.writer 1) (x.data.size : Int) 2 26 F3 bb w3 HL3.hb (by rw [List.length_append, List.length_append, rhd_len, nbytes_len, nbytes_len]; rfl) (by decide) (by kernel_rfl) (by omega) (by have := HS.out; omega) (pcode2 _ (by have := HS.out; omega))
      go_wp2_with fail
      refine hP.mono ?_
      rintro e' w4 ⟨rfl, hw4⟩
      obtain ⟨F4, HL4⟩ := HL3.wr hw4
      clear hP hw4 HL3 c0 hw0
      have BX := BoxC.of HL4.hx
      have ck := BX.ck
      clear BX
      have hcv := run_convert_bytes_arg (P := Try.prog) w4 46 5 Try.underlying46 Try.underlying5 w.heap.size 5 17 17 x.key (key_len x) ck 9 Try.underlying9
      rw [kby_tx] at hcv
      have hP := Buf.text F4 bb _ (tx (kby x.key)) w4 HL4.hb (by have := rmd_len x; unfold rmd at this; rw [tx_size, kby_len, key_len]; omega)
      go_wp2_with fail
      refine hP.mono ?_
      rintro e' w5 ⟨rfl, hw5⟩
      obtain ⟨F5, HL5⟩ := HL4.wr hw5
      clear hP hw5 HL4 hcv ck
      have BX := BoxC.of HL5.hx
      have c0 := BX.c22
      clear BX
      have hlen5 : (rmd x ++ kby x.key).length = 45 := by rw [List.length_append, rmd_len, kby_len, key_len]
      have hP := Buf.text F5 bb (rmd x ++ kby x.key) x.data w5 HL5.hb (by have := HS.out; omega)
      go_wp2_with fail
      refine hP.mono ?_
      rintro e' w6 ⟨rfl, hw6⟩
      obtain ⟨F6, HL6⟩ := HL5.wr hw6
      clear hP hw6 HL5 c0 hlen5
      have HL7 : Pp w w6 bb g x (rbd x) F6 := HL6
      clear HL6
      have hP := Buf.len_ F6 bb (rbd x) w6 HL7.hb
      have hl45 : (((rbd x).length : Nat) : Int) = 45 + (x.data.size : Int) := by rw [rbd_len]; omega
      rw [hl45] at hP
      go_wp2_with fail
      refine hP.mono ?_
      rintro e' w7 ⟨rfl, rfl⟩
      clear hP
      have hG := gapv_le (45 + (x.data.size : Int)) 8
      have hP := Al.gap (45 + (x.data.size : Int)) 8 (by omega) (by have := HS.out; omega) w6
      rw [show gapv (45 + (x.data.size : Int)) 8 = (rgp x : Int) from by unfold rgp; omega] at hP
      have hR := rgp_le x
      clear hG hl45
      go_wp2_with fail
      refine hP.mono ?_
      rintro e' w8 ⟨rfl, b8⟩
      have HL8 := HL7.bel b8
      clear hP HL7 b8
      have hP := Try.strings_Repeat ⟨#[0]⟩ (rgp x) w8 (by omega) (by have : (⟨#[0]⟩ : ByteArray).size = 1 := rfl; rw [this]; omega)
      rw [zeros_str] at hP
      go_wp2_with fail
      refine hP.mono ?_
      rintro e' w9 ⟨rfl, b9⟩
      have HL9 := HL8.bel b9
      clear hP HL8 b9
      have hP := Buf.text F6 bb (rbd x) ⟨(List.replicate (rgp x) 0).toArray⟩ w9 HL9.hb (by have := HS.out; rw [rbd_len]; show _ + (List.replicate (rgp x) (0 : UInt8)).toArray.size ≤ _; simp; omega)
      go_wp2_with fail
      refine hP.mono ?_
      rintro e' w10 ⟨rfl, hw10⟩
      obtain ⟨F10, HL10⟩ := HL9.wr hw10
      clear hP hw10 HL9
      have HL11 : Pp w w10 bb g x (recb x) F10 := HL10
      clear HL10
      have hP := Buf.bytes F10 bb (recb x) w10 HL11.hb
      go_wp2_with fail
      refine hP.mono ?_
      rintro e' w11 ⟨rfl, _, m11⟩
      go_wp2
      go_ret2
      exact ⟨rfl, m11.below HL11.be HL11.be.size HL11.fF⟩
theorem put (x : Smp) (w : World) :
    Calls Try.prog 7 #[.agg (cells x).toArray] w fun e' w' => e' = .returned (.tuple #[.string (rput x).1, .int .i64 (rput x).2]) ∧ Below w.heap.size w w' := by
  by_cases hb : bad x = true
  · exact put_bad x hb w
  · have hb2 : bad x = false := by simpa using hb
    by_cases hl : 512 < x.data.size
    · exact put_long x hb2 hl w
    · exact put_fine x hb2 (by omega) w
end Go.Proofs.Ytmlfnlmdnhblmaa.Rec
