import Derived.Laws.Tables
import Derived.Laws.Rows
import Derived.ScopeJumps
import Derived.Test.YtehojcocnndniaaPImageTakesx2
import Derived.Test.YtehojcocnndniaaPImageTakesx0
import Derived.Test.YtehojcocnndniaaPImagePutsx1
import Derived.Test.YtehojcocnndniaaPImagePutsx2
import Derived.Test.YtehojcocnndniaaSqImageBurst1
set_option linter.unusedVariables false
set_option linter.unusedSimpArgs false
namespace Go.Proofs.Ytehojcocnndniaa.Img
open Go.RowKit Base Sp Flat Go.Proofs.YtehojcocnndniaaW.PrintWords Go.Proofs.YtehojcocnndniaaW.PrintLast Go.Proofs.YtehojcocnndniaaW.PrintMore Wd Al Buf Cur
/-- The sum of the bytes ahead of a place. -/
def csum (b : ByteArray) (n : Nat) : Int := CrcP.num (CrcP.sum (Crc.bytes (b.extract 0 n)))
/-- What the end of an image answers. -/
def ien (b : ByteArray) (a : Nat) (e : Int) : Int :=
  if (ctake b a e 4).2.2 ≠ 0 then (ctake b a e 4).2.2 else if (ctake b a e 4).1 ≠ csum b ((ctake b a e 4).2.1 - 4).toNat then 13 else cdone b (ctake b a e 4).2.1.toNat 0
theorem ctake_four (b : ByteArray) (a : Nat) (e n : Int) (a2 : Nat) (h : ctake b a e 4 = (n, (a2 : Int), 0)) : 4 ≤ a2 := by
  unfold ctake at h
  have hg := gapv_le a 4
  by_cases h1 : e ≠ 0
  · rw [if_pos h1] at h
    simp only [Prod.mk.injEq] at h
    exact absurd h.2.2 h1
  · rw [if_neg h1, if_neg (by decide)] at h
    by_cases h3 : pad b (gapv a 4).toNat a ≠ 0
    · rw [if_pos h3] at h
      simp only [Prod.mk.injEq] at h
      exact absurd h.2.2 h3
    · rw [if_neg h3] at h
      by_cases h4 : (takev b ((a : Int) + gapv a 4) 4).2 ≠ 0
      · rw [if_pos h4] at h
        simp only [Prod.mk.injEq] at h
        exact absurd h.2.2 (by decide)
      · rw [if_neg h4] at h
        simp only [Prod.mk.injEq] at h
        omega
set_option maxRecDepth 20000 in
set_option maxHeartbeats 2000000 in
theorem end_ (c a : Nat) (b : ByteArray) (e : Int) (w : World) (h : CB w c a b e) (ha : a ≤ b.size) (hz : b.size ≤ 140737488355328) :
    Calls Try.prog 64 #[.pointer (some ⟨c, 0, none⟩), .string b] w fun e' w' => e' = .returned (.int .i64 (ien b a e)) ∧ Mod (At c) w w' := by
  obtain ⟨n2, a2, e2, r2, l2⟩ := ctake_ex b a e 4 ha
  have HI : Hid (ien b a e = if e2 ≠ 0 then e2 else if n2 ≠ csum b ((a2 : Int) - 4).toNat then 13 else cdone b a2 0) := Lib.hid (by unfold ien; rw [r2]; rfl)
  have HZ := Lib.hid hz
  have H4 : e2 = 0 → 4 ≤ a2 := fun h => by subst h; exact ctake_four b a e n2 a2 r2
  have T2 := take_at c a b e 4 w h ha hz r2
  clear hz r2
  have hE := fun W (h : CB W c a2 b e2) => err c a2 b e2 W h
  go_enter Try.func64, Try.ntmps64
  go_wp2_with fail
  refine T2.mono ?_
  rintro e' w2 ⟨rfl, c2, m2⟩
  clear T2
  go_wp2_with fail
  refine (hE _ c2).mono ?_
  rintro e' w4 ⟨rfl, rfl⟩
  by_cases p : e2 = 0
  · have h4 := H4 p
    subst p
    have hA := at_ c a2 b 0 w2 c2
    have hw4 : wrap64 ((a2 : Int) - 4) = (a2 : Int) - 4 := by have := HZ.out; unfold wrap64; omega
    go_wp2_with fail
    refine hA.mono ?_
    rintro e' w5 ⟨rfl, rfl⟩
    have s1 : ¬ ((a2 : Int) - 4 < 0) := by omega
    have s2 : ¬ ((b.size : Int) < (a2 : Int) - 4) := by omega
    have s3 : (0 : Int) ≤ (a2 : Int) - 4 := by omega
    have s4 : (a2 : Int) - 4 ≤ (b.size : Int) := by omega
    go_wp2_with fail
    have hs : (b.extract 0 (a2 - 4)).size ≤ b.size := by rw [ByteArray.size_extract]; omega
    have hC := Crc.sum (b.extract 0 (a2 - 4)) w2 (by have := HZ.out; unfold maxLen; omega)
    have hn1 := CrcP.num_lo (CrcP.sum (Crc.bytes (b.extract 0 (a2 - 4))))
    have hn2 := CrcP.num_hi (CrcP.sum (Crc.bytes (b.extract 0 (a2 - 4))))
    have hcs : Hid (csum b ((a2 : Int) - 4).toNat = CrcP.num (CrcP.sum (Crc.bytes (b.extract 0 (a2 - 4))))) := Lib.hid (by unfold csum; rw [show ((a2 : Int) - 4).toNat = a2 - 4 from by omega])
    have hD := done c a2 b 0 w2 c2
    have HI2 := Lib.hid (HI.out.trans (if_neg (fun h => h rfl)))
    rw [hcs.out] at HI2
    clear hcs HI
    generalize CrcP.num (CrcP.sum (Crc.bytes (b.extract 0 (a2 - 4)))) = C at *
    have hcv : IntKind.u64.wrap C = C := wrapu64 hn1 (by omega)
    refine hC.mono ?_
    rintro e' w6 ⟨rfl, rfl⟩
    by_cases q : n2 = C
    · have HJ := Lib.hid (HI2.out.trans (if_neg (fun h => h q)))
      have q3 : (n2 != C) = false := by simpa using q
      clear HI2 hn1 hn2
      go_wp2_with fail
      refine hD.mono ?_
      rintro e' w7 ⟨rfl, b7⟩
      go_wp2
      go_ret
      exact ⟨by rw [HJ.out]; rfl, m2.trans (Mod.of b7) (fun _ h => .inl h)⟩
    · have HJ := Lib.hid (HI2.out.trans (if_pos q))
      have q3 : (n2 != C) = true := by simpa using q
      clear HI2 hn1 hn2
      go_wp2
      go_ret
      exact ⟨by rw [HJ.out]; rfl, m2⟩
  · have HJ : Hid (ien b a e = e2) := Lib.hid (by rw [HI.out, if_pos p])
    have p3 : (e2 != 0) = true := by simpa using p
    clear HI
    go_wp2_with fail
    refine (hE _ c2).mono ?_
    rintro e' w4 ⟨rfl, rfl⟩
    go_wp2
    go_ret
    exact ⟨by rw [HJ.out]; rfl, m2⟩
end Go.Proofs.Ytehojcocnndniaa.Img
namespace Go.Proofs.Ytehojcocnndniaa.Img
open Go.RowKit Base Sp Flat Go.Proofs.YtehojcocnndniaaW.PrintWords Go.Proofs.YtehojcocnndniaaW.PrintLast Go.Proofs.YtehojcocnndniaaW.PrintMore Wd Al Buf Cur
/-- The first steps of a section. -/
def k1 (b : ByteArray) (a : Nat) (e : Int) : Int × Int × Int := ctake b a e 2
/-- A section's early ends: its error, or 0. -/
def sbad (b : ByteArray) (a : Nat) (e last : Int) : Int :=
  if (k1 b a e).2.2 ≠ 0 then (k1 b a e).2.2 else if (k1 b a e).1 < 1 ∨ 255 < (k1 b a e).1 then 4 else if (k1 b a e).1 ≤ last then 14 else 0
def two2 : Array Value := #[.int .i64 0, .string ⟨#[]⟩]
theorem modrow {F : Nat → Prop} {w w' : World} {p : Nat} (h : Mod F w w') (hp : w.heap.size ≤ p) (v : Array Value) : Mod F w (w'.setRow p v) :=
  ⟨h.os, h.tape, h.output, by simpa using h.size, fun k hk hF => (setRow_other _ _ _ _ (by omega)).trans (h.block k hk hF)⟩
set_option maxRecDepth 20000 in
set_option maxHeartbeats 2000000 in
theorem section_bad (c a : Nat) (b : ByteArray) (e last : Int) (w : World) (h : CB w c a b e) (ha : a ≤ b.size) (hz : b.size ≤ 140737488355328) (hb : sbad b a e last ≠ 0) :
    Calls Try.prog 63 #[.pointer (some ⟨c, 0, none⟩), .int .i64 last] w fun e' w' => e' = .returned (.tuple #[.agg two2, .int .i64 (sbad b a e last)]) ∧ Mod (At c) w w' := by
  obtain ⟨n1, a1, e1, r1, l1⟩ := ctake_ex b a e 2 ha
  have HI : Hid (sbad b a e last = if e1 ≠ 0 then e1 else if n1 < 1 ∨ 255 < n1 then 4 else if n1 ≤ last then 14 else 0) := Lib.hid (by unfold sbad k1; rw [r1])
  have b0 : Below w.heap.size w (w.alloc (.cells two2 102)) := (Below.refl _ _).alloc (Nat.le_refl _) _
  have h0 : (w.alloc (.cells two2 102)).heap[w.heap.size]? = some (.cells two2 102 (0, 0)) := heap_alloc_new _ _
  have hlt := h.lt
  have c0 := h.below b0
  obtain ⟨W0, hW0⟩ : ∃ W0, W0 = w.alloc (.cells #[.int .i64 0, .string ⟨#[]⟩] 102) := ⟨_, rfl⟩
  have T1 := take_at c a b e 2 W0 (by rw [hW0]; exact c0) ha hz r1
  go_enter Try.func63, Try.ntmps63
  go_wp2_with fail
  rw [← hW0]
  refine T1.mono ?_
  rintro e' w1 ⟨rfl, c1, m1⟩
  have h00 : W0.heap[w.heap.size]? = some (.cells two2 102 (0, 0)) := by rw [hW0]; exact h0
  have hr : w1.heap[w.heap.size]? = some (.cells two2 102 (0, 0)) := (m1.block w.heap.size (blk_lt h00) (fun hh => by have : w.heap.size = c := hh; omega)).trans h00
  have HG := Lib.hid hr
  have hq := setRow_heap w1 w.heap.size two2 two2 _ (0, 0) hr
  have HE0 : Hid ((w1.setRow w.heap.size two2).cell? ⟨w.heap.size, 0, none⟩ = some (.int .i64 0)) := Lib.hid (blk_cell hq 0)
  have HE1 : Hid ((w1.setRow w.heap.size two2).cell? ⟨w.heap.size, 1, none⟩ = some (.string ⟨#[]⟩)) := Lib.hid (blk_cell hq 1)
  have HM : Hid (Mod (At c) w (w1.setRow w.heap.size two2)) := Lib.hid (modrow ((Mod.of (by rw [hW0]; exact b0)).trans m1 (fun _ h => .inl h)) (Nat.le_refl _) _)
  have hE := err c a1 b e1 w1 c1
  clear hr hq T1 m1 c0 h0 h00 b0 hW0 h
  by_cases p : e1 = 0
  · subst p
    by_cases p1 : n1 < 1
    · have HJ : Hid (sbad b a e last = 4) := Lib.hid (by rw [HI.out, if_neg (fun h => h rfl), if_pos (.inl p1)])
      clear HI hb
      go_wp2_with fail
      refine hE.mono ?_
      rintro e' w2 ⟨rfl, rfl⟩
      go_wp2_with (refine wpList_store_row rfl 102 (.tmp 4) (.tmp 25) rfl w.heap.size two2 rfl rfl 102 two2 HG.out (by kernel_rfl) rfl (by kernel_rfl) ?_)
      have e0 := HE0.out
      have e1' := HE1.out
      exact bodyPost_ret (v := .tuple #[.agg #[.int .i64 0, .string ⟨#[]⟩], .int .i64 4]) (by simp [results, Try.results63, go_sem, e0, e1']) rfl ⟨by rw [HJ.out]; rfl, HM.out⟩
    · by_cases p2 : 255 < n1
      · have HJ : Hid (sbad b a e last = 4) := Lib.hid (by rw [HI.out, if_neg (fun h => h rfl), if_pos (.inr p2)])
        clear HI hb
        go_wp2_with fail
        refine hE.mono ?_
        rintro e' w2 ⟨rfl, rfl⟩
        go_wp2_with (refine wpList_store_row rfl 102 (.tmp 4) (.tmp 25) rfl w.heap.size two2 rfl rfl 102 two2 HG.out (by kernel_rfl) rfl (by kernel_rfl) ?_)
        have e0 := HE0.out
        have e1' := HE1.out
        exact bodyPost_ret (v := .tuple #[.agg #[.int .i64 0, .string ⟨#[]⟩], .int .i64 4]) (by simp [results, Try.results63, go_sem, e0, e1']) rfl ⟨by rw [HJ.out]; rfl, HM.out⟩
      · have hw : wrap64 n1 = n1 := by unfold wrap64; omega
        by_cases p3 : n1 ≤ last
        · have HJ : Hid (sbad b a e last = 14) := Lib.hid (by rw [HI.out, if_neg (fun h => h rfl), if_neg (by omega), if_pos p3])
          clear HI hb
          go_wp2_with fail
          refine hE.mono ?_
          rintro e' w2 ⟨rfl, rfl⟩
          go_wp2_with (refine wpList_store_row rfl 102 (.tmp 4) (.tmp 31) rfl w.heap.size two2 rfl rfl 102 two2 HG.out (by kernel_rfl) rfl (by kernel_rfl) ?_)
          have e0 := HE0.out
          have e1' := HE1.out
          exact bodyPost_ret (v := .tuple #[.agg #[.int .i64 0, .string ⟨#[]⟩], .int .i64 14]) (by simp [results, Try.results63, go_sem, e0, e1']) rfl ⟨by rw [HJ.out]; rfl, HM.out⟩
        · exact absurd (HI.out.trans (by rw [if_neg (fun h => h rfl), if_neg (by omega), if_neg p3])) hb
  · have HJ : Hid (sbad b a e last = e1) := Lib.hid (by rw [HI.out, if_pos p])
    clear HI hb
    have p4 : (e1 != 0) = true := by simpa using p
    go_wp2_with fail
    refine hE.mono ?_
    rintro e' w2 ⟨rfl, rfl⟩
    go_wp2_with fail
    refine hE.mono ?_
    rintro e' w2 ⟨rfl, rfl⟩
    go_wp2_with (refine wpList_store_row rfl 102 (.tmp 4) (.tmp 15) rfl w.heap.size two2 rfl rfl 102 two2 HG.out (by kernel_rfl) rfl (by kernel_rfl) ?_)
    have e0 := HE0.out
    have e1' := HE1.out
    exact bodyPost_ret (v := .tuple #[.agg #[.int .i64 0, .string ⟨#[]⟩], .int .i64 e1]) (by simp [results, Try.results63, go_sem, e0, e1']) rfl ⟨by rw [HJ.out]; rfl, HM.out⟩
end Go.Proofs.Ytehojcocnndniaa.Img
namespace Go.Proofs.Ytehojcocnndniaa.Cur
open Go.RowKit Base Sp Flat Go.Proofs.YtehojcocnndniaaW.PrintWords Go.Proofs.YtehojcocnndniaaW.PrintLast Wd Al Buf
theorem tx_get (l : List UInt8) (i : Nat) (h : i < (tx l).size) : (tx l)[i] = l[i]'h := rfl
theorem pad_zeros (b : ByteArray) : ∀ (g a : Nat), (∀ j, j < g → ∃ h : a + j < b.size, b[a + j] = 0) → pad b g a = 0
  | 0, _, _ => rfl
  | g + 1, a, h => by
    obtain ⟨h0, h1⟩ := h 0 (by omega)
    rw [pad_step (by simpa using h0) (by simpa using h1)]
    exact pad_zeros b g (a + 1) (fun j hj => by
      obtain ⟨h2, h3⟩ := h (j + 1) (by omega)
      exact ⟨by omega, by have e : a + 1 + j = a + (j + 1) := by omega
                          simp only [e]; exact h3⟩)
theorem pcode_sz {n s : Int} (h : pcode n s = 0) : sz s = true ∧ n < pw s := by
  unfold pcode at h
  split at h
  · split at h
    · exact ⟨by assumption, by assumption⟩
    · cases h
  · cases h
theorem pbytes_len {n s : Int} (P : List UInt8) (h : pcode n s = 0) : ((pbytes P n s).length : Int) = P.length + gapv P.length s + s := by
  have hc := sz_cases (pcode_sz h).1
  have hg := gapv_le P.length s
  unfold pbytes
  rw [List.length_append, List.length_append, List.length_replicate, nbytes_len]
  omega
theorem ctake_back (P : List UInt8) (n s : Int) (hc : pcode n s = 0) (h0 : 0 ≤ n) (R : List UInt8) : ctake (tx (pbytes P n s ++ R)) P.length 0 s = (n, ((pbytes P n s).length : Int), 0) := by
  obtain ⟨hs, hp⟩ := pcode_sz hc
  have hg := gapv_le P.length s
  have hpad : pad (tx (pbytes P n s ++ R)) (gapv P.length s).toNat P.length = 0 := by
    refine pad_zeros _ _ _ (fun j hj => ?_)
    have hsz : (tx (pbytes P n s ++ R)).size = P.length + (gapv P.length s).toNat + (nbytes n s).length + R.length := by
      rw [tx_size, List.length_append, pbytes, List.length_append, List.length_append, List.length_replicate]
    refine ⟨by omega, ?_⟩
    rw [tx_get]
    simp only [pbytes, List.append_assoc]
    rw [List.getElem_append_right (by omega), List.getElem_append_left (by simp; omega), List.getElem_replicate]
  have htk : takev (tx (pbytes P n s ++ R)) ((P.length : Int) + gapv P.length s) s = (n, 0) := by
    have e : tx (pbytes P n s ++ R) = tx (P ++ List.replicate (gapv P.length s).toNat 0) ++ strOfNums (le n s.toNat) ++ tx R := by
      unfold pbytes
      rw [tx_app, tx_app]
      rfl
    have e2 : ((P.length : Int) + gapv P.length s) = ((tx (P ++ List.replicate (gapv P.length s).toNat 0)).size : Int) := by
      rw [tx_size, List.length_append, List.length_replicate]
      omega
    rw [e, e2]
    exact take_back _ _ n s hs h0 hp
  unfold ctake
  rw [if_neg (fun h => h rfl), if_neg (by rw [hs]; decide), hpad, if_neg (by decide), htk, if_neg (fun h => h rfl), pbytes_len P hc]
theorem extract_mid (a t b : ByteArray) : (a ++ t ++ b).extract a.size (a.size + t.size) = t := by
  apply ByteArray.ext
  apply Array.ext'
  have h1 : a.size = a.data.toList.length := rfl
  have h2 : t.size = t.data.toList.length := rfl
  rw [h1, h2, ByteArray.data_extract, ByteArray.data_append, ByteArray.data_append, Array.toList_extract, Array.toList_append, Array.toList_append, List.extract_eq_take_drop, List.append_assoc, List.drop_left, Nat.add_sub_cancel_left, List.take_left]
theorem ctext_back (P : List UInt8) (T : ByteArray) (R : List UInt8) : ctext (tx (P ++ T.data.toList ++ R)) P.length 0 T.size = (T, ((P ++ T.data.toList).length : Int), 0) := by
  have hsz : (tx (P ++ T.data.toList ++ R)).size = P.length + T.size + R.length := by
    rw [tx_size, List.length_append, List.length_append]
    rfl
  unfold ctext
  rw [if_pos rfl, if_neg (by omega), if_neg (by rw [hsz]; omega), Int.toNat_natCast]
  have e : tx (P ++ T.data.toList ++ R) = tx P ++ T ++ tx R := by rw [tx_app, tx_app]; rfl
  rw [e, show P.length = (tx P).size from rfl, extract_mid, List.length_append]
  rfl
end Go.Proofs.Ytehojcocnndniaa.Cur
namespace Go.Proofs.Ytehojcocnndniaa.Call
open Go.RowKit Base Sp Flat Go.Proofs.YtehojcocnndniaaW.PrintWords Go.Proofs.YtehojcocnndniaaW.PrintLast Go.Proofs.YtehojcocnndniaaW.PrintMore Wd Al Buf Cur
/-- Has a field a number's bytes? -/
def okf (f s : Int) : Bool := decide (0 ≤ f ∧ f < pw s)
theorem okf_iff {f s : Int} : okf f s = true ↔ 0 ≤ f ∧ f < pw s := by simp [okf]
theorem okf_code {f s : Int} (hs : sz s = true) (h : okf f s = true) : pcode f s = 0 := by
  unfold pcode
  rw [if_pos hs, if_pos (okf_iff.1 h).2]
theorem pw_le {s : Int} (hs : sz s = true) : pw s ≤ 18446744073709551616 := by
  rcases sz_cases hs with rfl | rfl | rfl | rfl <;> decide
/-- Is a whole record fine, and its bytes. -/
def okr (a b c d e f : Int) : Bool := okf a 1 && (okf b 1 && (okf c 2 && (okf d 4 && (okf e 4 && okf f 4))))
def byt (a b c d e f : Int) : List UInt8 := nbytes a 1 ++ (nbytes b 1 ++ (nbytes c 2 ++ (nbytes d 4 ++ (nbytes e 4 ++ nbytes f 4))))
theorem byt_len (a b c d e f : Int) : (byt a b c d e f).length = 16 := by
  unfold byt
  simp only [List.length_append, nbytes_len]
  rfl
/-- A put without a gap. -/
theorem pbytes_flat (L : List UInt8) (n s : Int) (m : Nat) (hl : L.length = m) (hg : gapv m s = 0) : pbytes L n s = L ++ nbytes n s := by
  unfold pbytes
  rw [hl, hg]
  simp
/-- The field at a place of bytes. -/
def cv (b : ByteArray) (a s : Int) : Int := lev (fun i => bt b (a + i)) s.toNat
theorem takev_cv (b : ByteArray) (a s : Int) (h0 : 0 ≤ a) (h1 : a + s ≤ b.size) (hs : 0 ≤ s) : takev b a s = (cv b a s, 0) := by
  unfold takev cv
  rw [if_neg (by omega), if_neg (by omega)]
theorem ctake_flat (b : ByteArray) (a : Nat) (s : Int) (hs : sz s = true) (hg : gapv a s = 0) (h1 : (a : Int) + s ≤ b.size) : ctake b a 0 s = (cv b a s, ((a + s.toNat : Nat) : Int), 0) := by
  have hc := sz_cases hs
  unfold ctake
  rw [if_neg (fun h => h rfl), if_neg (by rw [hs]; decide), hg, if_neg (fun h => h rfl), Int.add_zero, takev_cv b a s (by omega) h1 (by omega), if_neg (fun h => h rfl)]
  congr 2
  omega
theorem cv_range (b : ByteArray) (a s : Int) : 0 ≤ cv b a s ∧ cv b a s < 256 ^ s.toNat := ⟨lev_lo _ (fun i => bt_range b _) _, lev_hi _ (fun i => bt_range b _) _⟩
/-- What a number's bytes were is what they tell. -/
theorem le_lev (f : Nat → Int) (hf : ∀ i, 0 ≤ f i ∧ f i ≤ 255) : ∀ k, le (lev f k) k = (List.range k).map f := by
  intro k
  induction k generalizing f with
  | zero => rfl
  | succ k ih =>
    have h0 := hf 0
    have h1 := lev_lo (fun i => f (i + 1)) (fun i => hf (i + 1)) k
    rw [lev, le, show (f 0 + 256 * lev (fun i => f (i + 1)) k) % 256 = f 0 from by omega, show (f 0 + 256 * lev (fun i => f (i + 1)) k) / 256 = lev (fun i => f (i + 1)) k from by omega, ih (fun i => f (i + 1)) (fun i => hf (i + 1)), List.range_succ_eq_map, List.map_cons, List.map_map]
    rfl
/-- What Put answers. -/
def cput (a b c d e f : Int) : ByteArray × Int := if okr a b c d e f then (tx (byt a b c d e f), 0) else (⟨#[]⟩, 7)
/-- What Take answers: is it taken? -/
def tok (b : ByteArray) : Bool := decide (b.size = 16) && decide (1 ≤ cv b 0 1 ∧ cv b 0 1 ≤ 13)
def tcode (b : ByteArray) : Int := if b.size = 16 then (if 1 ≤ cv b 0 1 ∧ cv b 0 1 ≤ 13 then 0 else 4) else 1
end Go.Proofs.Ytehojcocnndniaa.Call
namespace Go.Proofs.Ytehojcocnndniaa.Img
open Go.RowKit Base Sp Flat Go.Proofs.YtehojcocnndniaaW.PrintWords Go.Proofs.YtehojcocnndniaaW.PrintLast Go.Proofs.YtehojcocnndniaaW.PrintMore Wd Al Buf Cur
theorem takev_range (b : ByteArray) (a s : Int) (h0 : 0 ≤ a) (hs : 0 ≤ s) : 0 ≤ (takev b a s).1 ∧ (takev b a s).1 < 256 ^ s.toNat := by
  by_cases h : a + s ≤ b.size
  · rw [Call.takev_cv b a s h0 h hs]
    exact Call.cv_range b a s
  · have hp : (0 : Int) < 256 ^ s.toNat := Int.pow_pos (by decide)
    unfold takev
    split
    · exact ⟨Int.le_refl _, hp⟩
    · split
      · exact ⟨Int.le_refl _, hp⟩
      · omega
theorem ctake_range {b : ByteArray} {a : Nat} {e s n : Int} {a2 e2 : Int} (hs : 0 ≤ s) (h : ctake b a e s = (n, a2, e2)) : 0 ≤ n ∧ n < 256 ^ s.toNat := by
  have hp : (0 : Int) < 256 ^ s.toNat := Int.pow_pos (by decide)
  have hg := gapv_le a s
  unfold ctake at h
  split at h
  · simp only [Prod.mk.injEq] at h; rw [← h.1]; exact ⟨Int.le_refl _, hp⟩
  · split at h
    · simp only [Prod.mk.injEq] at h; rw [← h.1]; exact ⟨Int.le_refl _, hp⟩
    · split at h
      · simp only [Prod.mk.injEq] at h; rw [← h.1]; exact ⟨Int.le_refl _, hp⟩
      · split at h
        · simp only [Prod.mk.injEq] at h; rw [← h.1]; exact ⟨Int.le_refl _, hp⟩
        · simp only [Prod.mk.injEq] at h; rw [← h.1]; exact takev_range b _ s (by omega) hs
def sec2 (n : Int) (s : ByteArray) : Array Value := #[.int .i64 n, .string s]
set_option maxRecDepth 20000 in
set_option maxHeartbeats 2000000 in
theorem section_good (c a : Nat) (b : ByteArray) (last : Int) (w : World) (h : CB w c a b 0) (ha : a ≤ b.size) (hz : b.size ≤ 140737488355328)
    {n1 : Int} {a1 : Nat} (r1 : ctake b a 0 2 = (n1, (a1 : Int), 0)) (l1 : a1 ≤ b.size) (hk1 : 1 ≤ n1) (hk2 : n1 ≤ 255) (hk3 : last < n1)
    {n2 : Int} {a2 : Nat} {e2 : Int} (r2 : ctake b a1 0 4 = (n2, (a2 : Int), e2)) (l2 : a2 ≤ b.size) {s : ByteArray} {a3 : Nat} {e3 : Int} (r3 : ctext b a2 e2 n2 = (s, (a3 : Int), e3)) :
    Calls Try.prog 63 #[.pointer (some ⟨c, 0, none⟩), .int .i64 last] w fun e' w' => e' = .returned (.tuple #[.agg (sec2 n1 s), .int .i64 e3]) ∧ CB w' c a3 b e3 ∧ Mod (At c) w w' := by
  have b0 : Below w.heap.size w (w.alloc (.cells two2 102)) := (Below.refl _ _).alloc (Nat.le_refl _) _
  have h0 : (w.alloc (.cells two2 102)).heap[w.heap.size]? = some (.cells two2 102 (0, 0)) := heap_alloc_new _ _
  have hlt := h.lt
  have c0 := h.below b0
  have hn2 := ctake_range (by decide) r2
  have hn2b : n2 < 4294967296 := hn2.2
  have hw2 : wrap64 n2 = n2 := by have := hn2.1; unfold wrap64; omega
  have hw1 : wrap64 n1 = n1 := by unfold wrap64; omega
  obtain ⟨W0, hW0⟩ : ∃ W0, W0 = w.alloc (.cells #[.int .i64 0, .string ⟨#[]⟩] 102) := ⟨_, rfl⟩
  have T1 := take_at c a b 0 2 W0 (by rw [hW0]; exact c0) ha hz r1
  go_enter Try.func63, Try.ntmps63
  go_wp2_with fail
  rw [← hW0]
  refine T1.mono ?_
  rintro e' w1 ⟨rfl, c1, m1⟩
  have h00 : W0.heap[w.heap.size]? = some (.cells two2 102 (0, 0)) := by rw [hW0]; exact h0
  have hne : w.heap.size ≠ c := Nat.ne_of_gt hlt
  have hr1 : w1.heap[w.heap.size]? = some (.cells two2 102 (0, 0)) := (m1.block w.heap.size (blk_lt h00) hne).trans h00
  have M1 := (Mod.of (F := At c) (by rw [hW0]; exact b0)).trans m1 (fun _ h => .inl h)
  have hE := err c a1 b 0 w1 c1
  have T2 := take_at c a1 b 0 4 w1 c1 l1 hz r2
  clear T1 m1 c0 h0 h00 b0 hW0 h
  go_wp2_with fail
  refine hE.mono ?_
  rintro e' w2 ⟨rfl, rfl⟩
  go_wp2_with fail
  refine T2.mono ?_
  rintro e' w2 ⟨rfl, c2, m2⟩
  have hr2 : w2.heap[w.heap.size]? = some (.cells two2 102 (0, 0)) := (m2.block w.heap.size (blk_lt hr1) hne).trans hr1
  have M2 := M1.trans m2 (fun _ h => .inl h)
  have T3 := text_at c a2 b e2 n2 w2 c2 l2 hz (by omega) r3
  clear T2 m2 hE c1 hr1 M1
  go_wp2_with fail
  refine T3.mono ?_
  rintro e' w3 ⟨rfl, c3, m3⟩
  have hr3 : w3.heap[w.heap.size]? = some (.cells two2 102 (0, 0)) := (m3.block w.heap.size (blk_lt hr2) hne).trans hr2
  have M3 := M2.trans m3 (fun _ h => .inl h)
  have h4 : (w3.alloc (.cells (sec2 n1 s) 102)).heap[w3.heap.size]? = some (.cells (sec2 n1 s) 102 (0, 0)) := heap_alloc_new _ _
  have b4 : Below w3.heap.size w3 (w3.alloc (.cells (sec2 n1 s) 102)) := (Below.refl _ _).alloc (Nat.le_refl _) _
  have c4 := c3.below b4
  have hr4 := (b4.block _ (blk_lt hr3)).trans hr3
  have hlt4 : w.heap.size ≠ w3.heap.size := Nat.ne_of_lt (blk_lt hr3)
  have M4 := M3.trans (Mod.of (F := At c) b4) (fun _ h => .inl h)
  clear T3 m3 c2 hr2 M2 M3 c3 hr3 b4
  obtain ⟨W4, hW4⟩ : ∃ W4, W4 = w3.alloc (.cells #[.int .i64 n1, .string s] 102) := ⟨_, rfl⟩
  go_wp2
  rw [← hW4]
  have h4' : W4.heap[w3.heap.size]? = some (.cells (sec2 n1 s) 102 (0, 0)) := by rw [hW4]; exact h4
  have c4' : CB W4 c a3 b e3 := by rw [hW4]; exact c4
  have hr4' : W4.heap[w.heap.size]? = some (.cells two2 102 (0, 0)) := by rw [hW4]; exact hr4
  have M4' : Mod (At c) w W4 := by rw [hW4]; exact M4
  have hd4 : W4.drew.heap[w3.heap.size]? = some (.cells (sec2 n1 s) 102 (0, 0)) := h4'
  have HRW := Lib.hid (heap_setCell_same _ _ 1 _ _ (.string s) (heap_setCell_same _ _ 0 _ _ (.int .i64 n1) hr4'))
  have HM := Lib.hid (((M4'.set (p := ⟨w.heap.size, 0, none⟩) (.inr (Nat.le_refl _)) (.int .i64 n1)).set (p := ⟨w.heap.size, 1, none⟩) (.inr (Nat.le_refl _)) (.string s)).drew)
  have HC := Lib.hid (CB.far (CB.far c4' ((Mod.refl (At w.heap.size) _).set (p := ⟨w.heap.size, 0, none⟩) (.inl rfl) (.int .i64 n1)) (fun hh => hne (show c = w.heap.size from hh).symm)) ((Mod.refl (At w.heap.size) _).set (p := ⟨w.heap.size, 1, none⟩) (.inl rfl) (.string s)) (fun hh => hne (show c = w.heap.size from hh).symm))
  have HS2 : Hid (((W4.setCell ⟨w.heap.size, 0, none⟩ (.int .i64 n1)).setCell ⟨w.heap.size, 1, none⟩ (.string s)).drew.cell? ⟨w3.heap.size, 0, none⟩ = some (.int .i64 n1) ∧ ((W4.setCell ⟨w.heap.size, 0, none⟩ (.int .i64 n1)).setCell ⟨w.heap.size, 1, none⟩ (.string s)).drew.cell? ⟨w3.heap.size, 1, none⟩ = some (.string s) ∧ CB ((W4.setCell ⟨w.heap.size, 0, none⟩ (.int .i64 n1)).setCell ⟨w.heap.size, 1, none⟩ (.string s)).drew c a3 b e3) :=
    Lib.hid ⟨cfar (cfar (blk_cell h4' 0) hlt4) hlt4, cfar (cfar (blk_cell h4' 1) hlt4) hlt4, HC.out⟩
  clear hW4 h4 c4 hr4 M4
  refine Reg.wp_plan (S := fun w' => w'.cell? ⟨w3.heap.size, 0, none⟩ = some (.int .i64 n1) ∧ w'.cell? ⟨w3.heap.size, 1, none⟩ = some (.string s) ∧ CB w' c a3 b e3) 5 (.fl 0 (.fl 1 (.one 2 (.one 3 (.fl 4 .done))))) (by kernel_rfl) (by kernel_rfl) (by kernel_rfl) (by kernel_rfl) (fun _ _ _ d _ h => by cases d <;> exact h) ?_ (fun hHeld => ?_)
  · exact ⟨blk_cell hd4 0, blk_cell hd4 1, c4'⟩
  refine Reg.G_on (o := { dst := some 41, op := Op.load 102 (Operand.tmp 8), type := 102, pos := "image.go:110", after := #[], guard := Option.none }) (v := ?_) (by rfl) ?_ (fun wS hSw => ?_) ?_
  rotate_left
  · kernel_rfl
  · (try dsimp only at hSw); go_simp; (try with_reducible rfl)
  try simp only [Act.put, List.setIfInBounds_toArray, List.set_cons_zero, List.set_cons_succ]
  refine Reg.G_on (o := { dst := some 42, op := Op.move (Operand.tmp 0), type := 91, pos := "image.go:110", after := #[], guard := Option.none }) (v := ?_) (by rfl) ?_ (fun wS hSw => ?_) ?_
  rotate_left
  · kernel_rfl
  · (try dsimp only at hSw); go_simp; (try with_reducible rfl)
  try simp only [Act.put, List.setIfInBounds_toArray, List.set_cons_zero, List.set_cons_succ]
  refine Reg.G_step (o := { dst := some 43, op := Op.call { callee := Callee.value (Operand.func 80), args := #[Operand.tmp 42], argTypes := #[91] }, type := 30, pos := "image.go:110", after := #[{ on := 1, ground := Ground.data }], guard := Option.none }) (by rfl) ?_ (fun K hK => ?_)
  · kernel_rfl
  go_simp
  refine (err c a3 b e3 W4.drew c4').mono ?_
  rintro e w' ⟨rfl, rfl⟩
  refine hK.out _ _ ?_ (fun hHeld => ?_)
  · exact hHeld
  clear hK K
  try simp only [Act.put, List.setIfInBounds_toArray, List.set_cons_zero, List.set_cons_succ]
  have d0 : W4.cell? ⟨w.heap.size, 0, none⟩ = some (.int .i64 0) := blk_cell hr4' 0
  have d1 : W4.cell? ⟨w.heap.size, 1, none⟩ = some (.string ⟨#[]⟩) := blk_cell hr4' 1
  have z0 := blk_frozen hr4' 0
  have z1 := blk_frozen hr4' 1
  skip
  refine Reg.G_step (o := { dst := Option.none, op := Op.store 102 (Operand.tmp 4) (Operand.tmp 41), type := 0, pos := "image.go:110", after := #[{ on := 0, ground := Ground.data }, { on := 2, ground := Ground.chain }, { on := 0, ground := Ground.phase }, { on := 1, ground := Ground.textOnly Departure.lateStores }, { on := 2, ground := Ground.textOnly Departure.lateStoresUnsure }], guard := Option.none }) (by rfl) ?_ (fun K hK => ?_)
  · kernel_rfl
  go_simp
  refine hK.out _ _ ?_ (fun hHeld => ?_)
  · exact HS2.out
  clear hK K
  try simp only [Act.put, List.setIfInBounds_toArray, List.set_cons_zero, List.set_cons_succ]
  refine Reg.G_on (o := { dst := some 5, op := Op.assign (Operand.tmp 43), type := 30, pos := "image.go:110", after := #[{ on := 2, ground := Ground.data }, { on := 3, ground := Ground.chain }, { on := 0, ground := Ground.phase }, { on := 1, ground := Ground.phase }, { on := 2, ground := Ground.phase }, { on := 3, ground := Ground.phase }], guard := Option.none }) (v := ?_) (by rfl) ?_ (fun wS hSw => ?_) ?_
  rotate_left
  · kernel_rfl
  · (try dsimp only at hSw); go_simp; (try with_reducible rfl)
  try simp only [Act.put, List.setIfInBounds_toArray, List.set_cons_zero, List.set_cons_succ]
  refine Reg.G_done ?_
  go_wp2
  have e0 : ((W4.setCell ⟨w.heap.size, 0, none⟩ (.int .i64 n1)).setCell ⟨w.heap.size, 1, none⟩ (.string s)).cell? ⟨w.heap.size, 0, none⟩ = some (.int .i64 n1) := blk_cell HRW.out 0
  have e1 : ((W4.setCell ⟨w.heap.size, 0, none⟩ (.int .i64 n1)).setCell ⟨w.heap.size, 1, none⟩ (.string s)).cell? ⟨w.heap.size, 1, none⟩ = some (.string s) := blk_cell HRW.out 1
  exact bodyPost_ret (v := .tuple #[.agg #[.int .i64 n1, .string s], .int .i64 e3]) (by simp [results, Try.results63, go_sem, e0, e1]) rfl ⟨rfl, HC.out, HM.out⟩
end Go.Proofs.Ytehojcocnndniaa.Img
namespace Go.Proofs.Ytehojcocnndniaa.Img
open Go.RowKit Base Sp Flat Go.Proofs.YtehojcocnndniaaW.PrintWords Go.Proofs.YtehojcocnndniaaW.PrintLast Go.Proofs.YtehojcocnndniaaW.PrintMore Wd Al Buf Cur
section
variable {P : Program} {o : Oper} {a : Act} {Q : Exit → Act → World → Prop} {K : Act → World → Prop}
/-- An append whose run is known, as one operation. -/
theorem op_append {W w1 : World} {v1 v u : Value} (s x : Operand) (t : TypeId) (ho : o.op = .call { callee := .builtin .append, args := #[s, x], argTypes := #[t, t] })
    (hs : a.eval s = v) (hx : a.eval x = u) (hrun : (Builtin.append_ #[t, t] o.type #[v, u]).run P W = .ok v1 w1) (h : K (a.put o.dst v1) w1) : Oper.wp P o a W K Q := by
  unfold Oper.wp execOp
  simp only [ho, resolve, invoke, builtin, Sem.run_bind, Sem.run_pure, Result.andThen_ok, List.map_toArray, List.map_cons, List.map_nil, hs, hx, hrun]
  exact h
end
/-- What a section answers: its kind, its bytes, the place behind, the error. -/
def sec (b : ByteArray) (a : Nat) (last : Int) : Int × ByteArray × Nat × Int :=
  if sbad b a 0 last ≠ 0 then (0, ⟨#[]⟩, 0, sbad b a 0 last)
  else ((ctake b a 0 2).1, (ctext b (ctake b (ctake b a 0 2).2.1.toNat 0 4).2.1.toNat (ctake b (ctake b a 0 2).2.1.toNat 0 4).2.2 (ctake b (ctake b a 0 2).2.1.toNat 0 4).1).1,
    (ctext b (ctake b (ctake b a 0 2).2.1.toNat 0 4).2.1.toNat (ctake b (ctake b a 0 2).2.1.toNat 0 4).2.2 (ctake b (ctake b a 0 2).2.1.toNat 0 4).1).2.1.toNat,
    (ctext b (ctake b (ctake b a 0 2).2.1.toNat 0 4).2.1.toNat (ctake b (ctake b a 0 2).2.1.toNat 0 4).2.2 (ctake b (ctake b a 0 2).2.1.toNat 0 4).1).2.2)
theorem section_ (c a : Nat) (b : ByteArray) (last : Int) (w : World) (h : CB w c a b 0) (ha : a ≤ b.size) (hz : b.size ≤ 140737488355328) :
    Calls Try.prog 63 #[.pointer (some ⟨c, 0, none⟩), .int .i64 last] w fun e' w' => e' = .returned (.tuple #[.agg (sec2 (sec b a last).1 (sec b a last).2.1), .int .i64 (sec b a last).2.2.2]) ∧
      ((sec b a last).2.2.2 = 0 → CB w' c (sec b a last).2.2.1 b 0 ∧ (sec b a last).2.2.1 ≤ b.size ∧ 1 ≤ (sec b a last).1 ∧ (sec b a last).1 ≤ 255 ∧ last < (sec b a last).1 ∧ (sec b a last).2.1.size ≤ b.size) ∧ Mod (At c) w w' := by
  by_cases hb : sbad b a 0 last ≠ 0
  · have e : sec b a last = (0, ⟨#[]⟩, 0, sbad b a 0 last) := by unfold sec; rw [if_pos hb]
    rw [e]
    exact (section_bad c a b 0 last w h ha hz hb).mono fun _ _ hh => ⟨hh.1, fun h0 => absurd h0 hb, hh.2⟩
  · obtain ⟨n1, a1, e1, r1, l1⟩ := ctake_ex b a 0 2 ha
    obtain ⟨n2, a2, e2, r2, l2⟩ := ctake_ex b a1 0 4 l1
    obtain ⟨s, a3, e3, r3, l3⟩ := ctext_ex b a2 e2 n2 l2
    have hb0 : sbad b a 0 last = 0 := Classical.not_not.1 hb
    unfold sbad k1 at hb0
    rw [r1] at hb0
    have q1 : e1 = 0 := by
      by_cases q : e1 = 0
      · exact q
      · rw [if_pos q] at hb0; exact hb0
    subst q1
    rw [if_neg (fun h => h rfl)] at hb0
    have q2 : ¬ (n1 < 1 ∨ 255 < n1) := fun q => by rw [if_pos q] at hb0; cases hb0
    rw [if_neg q2] at hb0
    have q3 : ¬ n1 ≤ last := fun q => by rw [if_pos q] at hb0; cases hb0
    have e : sec b a last = (n1, s, a3, e3) := by
      unfold sec
      rw [if_neg hb, r1]
      dsimp only
      rw [Int.toNat_natCast, r2]
      dsimp only
      rw [Int.toNat_natCast, r3]
      simp
    rw [e]
    refine (section_good c a b last w h ha hz r1 l1 (by omega) (by omega) (by omega) r2 l2 r3).mono fun _ _ hh => ⟨hh.1, fun h0 => ⟨?_, l3, by dsimp only; omega, by dsimp only; omega, by dsimp only; omega, ?_⟩, hh.2.2⟩
    · have h0' : e3 = 0 := h0
      rw [← h0']
      exact hh.2.1
    · unfold ctext at r3
      dsimp only
      have hext : ∀ i j, (b.extract i j).size ≤ b.size := fun i j => by rw [ByteArray.size_extract]; omega
      split at r3
      · split at r3
        · simp only [Prod.mk.injEq] at r3; rw [← r3.1]; exact Nat.zero_le _
        · split at r3
          · simp only [Prod.mk.injEq] at r3; rw [← r3.1]; exact Nat.zero_le _
          · simp only [Prod.mk.injEq] at r3; rw [← r3.1]; exact hext _ _
      · simp only [Prod.mk.injEq] at r3; rw [← r3.1]; exact Nat.zero_le _
/-- The sections' loop: n are left. -/
def slp (b : ByteArray) : Nat → Nat → Int → List (Int × ByteArray) → List (Int × ByteArray) × Nat × Int
  | 0, a, _, out => (out, a, 0)
  | n + 1, a, last, out => if (sec b a last).2.2.2 ≠ 0 then ([], 0, (sec b a last).2.2.2) else slp b n (sec b a last).2.2.1 (sec b a last).1 (out ++ [((sec b a last).1, (sec b a last).2.1)])
/-- What Take answers. -/
def itk (b : ByteArray) : List (Int × ByteArray) × Int :=
  if 65536 < b.size then ([], 3) else if b.size < 4 then ([], 2) else if b.extract 0 4 ≠ ⟨#[66, 83, 72, 49]⟩ then ([], 1)
  else if (ihd b).2 ≠ 0 then ([], (ihd b).2)
  else if (slp b (ihd b).1.toNat (h3 b).2.1.toNat 0 []).2.2 ≠ 0 then ([], (slp b (ihd b).1.toNat (h3 b).2.1.toNat 0 []).2.2)
  else if ien b (slp b (ihd b).1.toNat (h3 b).2.1.toNat 0 []).2.1 0 ≠ 0 then ([], ien b (slp b (ihd b).1.toNat (h3 b).2.1.toNat 0 []).2.1 0)
  else ((slp b (ihd b).1.toNat (h3 b).2.1.toNat 0 []).1, 0)
end Go.Proofs.Ytehojcocnndniaa.Img
namespace Go.Proofs.Ytehojcocnndniaa.Img
open Go.RowKit Base Sp Flat Go.Proofs.YtehojcocnndniaaW.PrintWords Go.Proofs.YtehojcocnndniaaW.PrintLast Go.Proofs.YtehojcocnndniaaW.PrintMore Wd Al Buf Cur
def kp : Kd (Int × ByteArray) := Kd.pair (Kd.int .i64) Kd.string
theorem flat_kp : Flat kp := flat_pair (flat_int .i64) flat_string
def mg : ByteArray := ⟨#[66, 83, 72, 49]⟩
theorem prefix_ (b : ByteArray) (h : 4 ≤ b.size) (w : World) : Calls Try.prog 61 #[.string b, .string mg] w fun e w' => e = .returned (.bool (decide (b.extract 0 4 = mg))) ∧ Below w.heap.size w w' := by
  have hf : Go.Proofs.Ytehojcocnndniaa.PImageTakes.strings_HasPrefix.f b mg = some (decide (b.extract 0 4 = mg)) := by
    unfold Go.Proofs.Ytehojcocnndniaa.PImageTakes.strings_HasPrefix.f Go.Proofs.Ytehojcocnndniaa.PImageTakes.stringslite_HasPrefix.f
    have hm : (mg.size : Int) = 4 := rfl
    rw [hm, if_pos (by omega), if_pos (by decide), if_pos (by omega)]
    show some ((b.extract 0 4).toList == mg.toList) = _
    congr 1
    by_cases he : b.extract 0 4 = mg
    · rw [he, decide_eq_true rfl]
      exact beq_iff_eq.2 rfl
    · rw [decide_eq_false he]
      refine beq_eq_false_iff_ne.2 fun hh => he ?_
      rw [ByteArray.toList_eq, ByteArray.toList_eq] at hh
      exact ByteArray.ext (Array.toList_inj.1 hh)
  refine (Go.Proofs.Ytehojcocnndniaa.PImageTakes.strings_HasPrefix.calls b mg _ w hf).mono fun e w' hh => ⟨hh.1, drawn_below hh.2⟩
/-- What Take leaves: the sections, to be read. -/
def Tak (w0 : World) (r : List (Int × ByteArray) × Int) (e : Ending) (w' : World) : Prop :=
  ∃ v, e = .returned (.tuple #[v, .int .i64 r.2]) ∧ Own kp 102 w' (fun k => w0.heap.size ≤ k) v r.1 ∧ Below w0.heap.size w0 w'
theorem Tak.nil {w0 w' : World} (e2 : Int) (hb : Below w0.heap.size w0 w') : Tak w0 ([], e2) (.returned (.tuple #[.slice none 0 0, .int .i64 e2])) w' :=
  ⟨_, rfl, Own.nil _ _ _ _, hb⟩
/-- What holds at every jump to the label: the error, and nothing taken. -/
def Jm (w0 : World) (r : List (Int × ByteArray) × Int) (a : Act) (w' : World) : Prop :=
  ∃ (E : Int) (u0 u1 u2 u3 u4 u5 u6 u7 u9 u10 u11 u12 u13 u14 u15 u16 u17 u18 u19 u20 u21 u22 u23 u24 u25 u26 u27 u28 u29 u30 u31 u32 u33 u34 u35 u36 u37 u38 u39 u40 u41 u42 u43 u44 u45 u46 u47 u48 u49 u50 u51 u52 u53 u54 u55 u56 : Value), a = { tmps := #[u0, u1, u2, u3, u4, u5, u6, u7, .int .i64 E, u9, u10, u11, u12, u13, u14, u15, u16, u17, u18, u19, u20, u21, u22, u23, u24, u25, u26, u27, u28, u29, u30, u31, u32, u33, u34, u35, u36, u37, u38, u39, u40, u41, u42, u43, u44, u45, u46, u47, u48, u49, u50, u51, u52, u53, u54, u55, u56], defers := [] } ∧ r = ([], E) ∧ Below w0.heap.size w0 w'
section
variable {Q : Exit → Act → World → Prop} {J : Act → World → Prop} {a : Act} {w : World} {l : Nat}
theorem jump_normal : Exit.jump l J Q .normal a w = Q .normal a w := rfl
theorem jump_exit (id : Nat) : Exit.jump l J Q (.exit id) a w = Q (.exit id) a w := rfl
theorem jump_ret : Exit.jump l J Q .ret a w = Q .ret a w := rfl
theorem jump_panic (ch : List PanicEntry) : Exit.jump l J Q (.panic ch) a w = Q (.panic ch) a w := rfl
end
attribute [local go_sem] jump_normal jump_exit jump_ret jump_panic
set_option maxRecDepth 20000 in
set_option maxHeartbeats 2000000 in
theorem take_ (b : ByteArray) (w : World) (hz : b.size ≤ 140737488355328) : Calls Try.prog 32 #[.string b] w fun e w' => Tak w (itk b) e w' := by
  by_cases h1 : 65536 < b.size
  · have HJ : Hid (itk b = ([], 3)) := Lib.hid (by unfold itk; rw [if_pos h1])
    have q1 : (65536 : Int) < (b.size : Int) := by omega
    go_enter Try.func32, Try.ntmps32
    go_wp2
    go_step3
    go_wp2
    go_ret2
    rw [HJ.out]
    exact Tak.nil 3 (Below.refl _ _)
  · by_cases h2 : b.size < 4
    · have HJ : Hid (itk b = ([], 2)) := Lib.hid (by unfold itk; rw [if_neg h1, if_pos h2])
      have q1 : ¬ (65536 : Int) < (b.size : Int) := by omega
      have q2 : (b.size : Int) < 4 := by omega
      go_enter Try.func32, Try.ntmps32
      go_wp2
      go_step3
      go_wp2
      go_ret2
      rw [HJ.out]
      exact Tak.nil 2 (Below.refl _ _)
    · have q1 : ¬ (65536 : Int) < (b.size : Int) := by omega
      have q2 : ¬ (b.size : Int) < 4 := by omega
      have HP := prefix_ b (by omega) w
      by_cases h3 : b.extract 0 4 = mg
      · rw [decide_eq_true h3] at HP
        have HI : Hid (itk b = if (ihd b).2 ≠ 0 then ([], (ihd b).2)
            else if (slp b (ihd b).1.toNat (Img.h3 b).2.1.toNat 0 []).2.2 ≠ 0 then ([], (slp b (ihd b).1.toNat (Img.h3 b).2.1.toNat 0 []).2.2)
            else if ien b (slp b (ihd b).1.toNat (Img.h3 b).2.1.toNat 0 []).2.1 0 ≠ 0 then ([], ien b (slp b (ihd b).1.toNat (Img.h3 b).2.1.toNat 0 []).2.1 0)
            else ((slp b (ihd b).1.toNat (Img.h3 b).2.1.toNat 0 []).1, 0)) := Lib.hid (by unfold itk; rw [if_neg h1, if_neg h2, if_neg (show ¬ b.extract 0 4 ≠ ⟨#[66, 83, 72, 49]⟩ from fun h => h h3)])
        clear h1 h2 h3
        have HZ := Lib.hid hz
        by_cases he : (ihd b).2 = 0
        · have HI2 := Lib.hid (HI.out.trans (if_neg (fun h => h he)))
          clear HI
          have HI := HI2
          clear HI2
          have hih : ihd b = ((Img.h3 b).1, 0) ∧ (Img.h3 b).2.2 = 0 := by
            unfold ihd at he ⊢
            by_cases g1 : (Img.h3 b).2.2 ≠ 0
            · rw [if_pos g1] at he; exact absurd he g1
            · rw [if_neg g1] at he ⊢
              by_cases g2 : (h2 b).1 ≠ b.size
              · rw [if_pos g2] at he; cases he
              · rw [if_neg g2]; exact ⟨rfl, Classical.not_not.1 g1⟩
          have hrg := ctake_range (b := b) (a := (h2 b).2.1.toNat) (e := (h2 b).2.2) (s := 4) (by decide) (show ctake b (h2 b).2.1.toNat (h2 b).2.2 4 = ((Img.h3 b).1, (Img.h3 b).2.1, (Img.h3 b).2.2) from rfl)
          have hrg2 : (Img.h3 b).1 < 4294967296 := hrg.2
          obtain ⟨N, hN⟩ : ∃ N : Nat, (Img.h3 b).1 = (N : Int) := ⟨(Img.h3 b).1.toNat, by have := hrg.1; omega⟩
          have HN32 := Lib.hid (show N < 4294967296 by omega)
          rw [hih.1, hN] at HI
          have HH0 := fun w2 c2 => head w.heap.size b w2 c2 HZ.out
          have HHg := fun c w2 c2 => head c b w2 c2 HZ.out
          rw [hih.1, hN, hih.2] at HHg
          obtain ⟨R, hR⟩ : ∃ R, R = slp b N (Img.h3 b).2.1.toNat 0 [] := ⟨_, rfl⟩
          have HI3 : Hid (itk b = if R.2.2 ≠ 0 then ([], R.2.2) else if ien b R.2.1 0 ≠ 0 then ([], ien b R.2.1 0) else (R.1, 0)) := Lib.hid (by rw [HI.out, hR]; rfl)
          have HR := Lib.hid hR
          clear hR HI hih hrg hrg2 he hN HH0
          have HI := HI3
          go_enter Try.func32, Try.ntmps32
          go_wp2
          refine wp_scope_jumps 0 (Jm w (itk b)) (fun _ _ => 0) rfl ?_ ?_
          rotate_left
          · rintro a w' ⟨E, u0, u1, u2, u3, u4, u5, u6, u7, u9, u10, u11, u12, u13, u14, u15, u16, u17, u18, u19, u20, u21, u22, u23, u24, u25, u26, u27, u28, u29, u30, u31, u32, u33, u34, u35, u36, u37, u38, u39, u40, u41, u42, u43, u44, u45, u46, u47, u48, u49, u50, u51, u52, u53, u54, u55, u56, rfl, hE, hB⟩
            have HE := Lib.hid hE
            clear hE HI HP
            go_wp2
            go_ret2
            rw [HE.out]
            exact Tak.nil E hB
          go_wp2_with fail
          refine HP.mono ?_
          rintro e w1 ⟨rfl, b1⟩
          go_wp2_with fail
          refine (read b w1).mono ?_
          rintro e w2 ⟨rfl, c2, b2⟩
          go_wp2_with fail
          refine (HHg _ w2 c2).mono ?_
          rintro e w3 ⟨rfl, ⟨a3, ha3, hl3, c3⟩, m3⟩
          have bb3 := m3.below (bstep b1 b2) (bstep b1 b2).size (fun k hk => by have h : k = w1.heap.size := hk; rw [h]; exact b1.size)
          have hcw := b1.size
          generalize w1.heap.size = c at *
          have HR2 : Hid (R = slp b N a3 0 []) := Lib.hid (by rw [HR.out, ha3, Int.toNat_natCast])
          have hlc := c3.lt
          clear HR HHg HP b1 b2 m3 c2 ha3 HI3
          go_wp2
          go_loopw [4, 6, 7, 8] (fun v l n e wr => ∃ (j a : Nat) (last : Int) (out : List (Int × ByteArray)), l = .int .i64 last ∧ n = .int .u64 (j : Int) ∧ e = .int .i64 0 ∧ out.length + j = N ∧ a ≤ b.size ∧ CB wr c a b 0 ∧
            Own kp 102 wr (fun k => w3.heap.size ≤ k ∧ k < wr.heap.size) v out ∧ Hid (R = slp b j a last out) ∧ Below w.heap.size w wr ∧ w3.heap.size ≤ wr.heap.size) (fun _ _ n _ _ => (intOf n).toNat)
          case atStart => exact ⟨N, a3, 0, [], rfl, rfl, rfl, by simp, hl3, c3, Own.nil _ _ _ _, HR2, bb3, Nat.le_refl _⟩
          case round =>
            clear c3 HR2 bb3 hl3
            obtain ⟨j, a, last, out, rfl, rfl, rfl, hlen, ha, hc, ho, hRj, bb, hsz⟩ := hrel
            have HLEN := Lib.hid hlen
            clear hlen
            cases j with
            | zero =>
              have hR0 : R = (out, a, 0) := hRj.out
              have HK : Hid (itk b = if ien b a 0 ≠ 0 then ([], ien b a 0) else (out, 0)) := Lib.hid (by rw [HI.out, hR0, if_neg (fun h => h rfl)])
              have HE := end_ c a b 0 wr hc ha HZ.out
              have HO := Lib.hid ho
              have HBB := Lib.hid bb
              have hnpos : ¬ (0 : Int) < ((0 : Nat) : Int) := by decide
              clear hR0 hRj HI ho bb
              generalize ien b a 0 = E at *
              by_cases he : E = 0
              · subst he
                have HJ : Hid (itk b = (out, 0)) := Lib.hid (HK.out.trans (if_neg (fun h => h rfl)))
                go_wp2_with fail
                refine HE.mono ?_
                rintro e w4 ⟨rfl, m4⟩
                go_wp2
                go_ret2
                rw [HJ.out]
                exact ⟨_, rfl, (HO.out.same flat_kp (fun k hk => m4.block k hk.2 (fun h => by have h' : k = c := h; have := hk.1; omega))).mono (fun k hk => by have := hk.1; omega), m4.below HBB.out HBB.out.size (fun k hk => by have h' : k = c := hk; omega)⟩
              · have hq : (E != 0) = true := by simpa using he
                have HJ : Hid (itk b = ([], E)) := Lib.hid (HK.out.trans (if_pos he))
                go_wp2_with fail
                refine HE.mono ?_
                rintro e w4 ⟨rfl, m4⟩
                go_wp2
                go_step3
                exact ⟨rfl, _, _, _, _, _, _, _, _, _, _, _, _, _, _, _, _, _, _, _, _, _, _, _, _, _, _, _, _, _, _, _, _, _, _, _, _, _, _, _, _, _, _, _, _, _, _, _, _, _, _, _, _, _, _, _, _, _, rfl, HJ.out, (m4.below HBB.out HBB.out.size (fun k hk => by have h' : k = c := hk; omega))⟩
            | succ m =>
              have hpos : (0 : Int) < ((m + 1 : Nat) : Int) := by omega
              have b5 : Below wr.heap.size wr (wr.alloc (.cells two2 102)) := (Below.refl _ _).alloc (Nat.le_refl _) _
              have h5 : (wr.alloc (.cells two2 102)).heap[wr.heap.size]? = some (.cells two2 102 (0, 0)) := heap_alloc_new _ _
              have c5 := hc.below b5
              have bb5 := bstep bb b5
              have o5 := ho.same flat_kp (w' := wr.alloc (.cells two2 102)) (fun k hk => b5.block k hk.2)
              have hltc := hc.lt
              obtain ⟨W1, hW1⟩ : ∃ W1, W1 = wr.alloc (.cells #[.int .i64 0, .string ⟨#[]⟩] 102) := ⟨_, rfl⟩
              have SS := section_ c a b last W1 (by rw [hW1]; exact c5) ha HZ.out
              have hstep := hRj.out
              rw [slp] at hstep
              have HSTEP := Lib.hid hstep
              clear hstep hRj
              generalize sec b a last = X at *
              obtain ⟨X1, X2, X3, X4⟩ := X
              dsimp only at HSTEP SS
              go_wp2_with fail
              rw [← hW1]
              refine SS.mono ?_
              rintro e w4 ⟨rfl, hX, m4⟩
              have h6 : w4.heap[wr.heap.size]? = some (.cells two2 102 (0, 0)) := (m4.block _ (blk_lt (by rw [hW1]; exact h5)) (fun h => by have h' : wr.heap.size = c := h; omega)).trans (by rw [hW1]; exact h5)
              have d0 : w4.cell? ⟨wr.heap.size, 0, none⟩ = some (.int .i64 0) := blk_cell h6 0
              have d1 : w4.cell? ⟨wr.heap.size, 1, none⟩ = some (.string ⟨#[]⟩) := blk_cell h6 1
              have z0 := blk_frozen h6 0
              have z1 := blk_frozen h6 1
              by_cases hx : X4 = 0
              · subst hx
                obtain ⟨c6, hl6, hk6, hk7, hk8, hk9⟩ := hX rfl
                have HSTEP2 : Hid (R = slp b m X3 X1 (out ++ [(X1, X2)])) := Lib.hid (by rw [HSTEP.out, if_neg (fun h => h rfl)])
                have bb6 := m4.below (by rw [hW1]; exact bb5 : Below w.heap.size w W1) (by rw [hW1]; exact bb5.size) (fun k hk => by have h : k = c := hk; omega)
                have bb7 := (bb6.setCell (p := ⟨wr.heap.size, 0, none⟩) bb.size (.int .i64 X1)).setCell (p := ⟨wr.heap.size, 1, none⟩) bb.size (.string X2)
                have o6 := (show Own kp 102 W1 (fun k => w3.heap.size ≤ k ∧ k < wr.heap.size) u4 out by rw [hW1]; exact o5).same flat_kp (w' := w4) (fun k hk => m4.block k (by have := blk_lt (show W1.heap[wr.heap.size]? = _ by rw [hW1]; exact h5); omega) (fun h => by have h' : k = c := h; omega))
                have o7 := (o6.set (a := ⟨wr.heap.size, 0, none⟩) (u := .int .i64 X1) flat_kp (fun h => Nat.lt_irrefl _ h.2)).set (a := ⟨wr.heap.size, 1, none⟩) (u := .string X2) flat_kp (fun h => Nat.lt_irrefl _ h.2)
                have hrow := heap_setCell_same _ _ 1 _ _ (.string X2) (heap_setCell_same _ _ 0 _ _ (.int .i64 X1) h6)
                have c7 := CB.far (CB.far c6 ((Mod.refl (At wr.heap.size) _).set (p := ⟨wr.heap.size, 0, none⟩) (.inl rfl) (.int .i64 X1)) (fun hh => by have h' : c = wr.heap.size := hh; omega)) ((Mod.refl (At wr.heap.size) _).set (p := ⟨wr.heap.size, 1, none⟩) (.inl rfl) (.string X2)) (fun hh => by have h' : c = wr.heap.size := hh; omega)
                unfold sec2
                clear SS hX m4 HSTEP c6 o6 bb6 o5 c5 hc ho h5 b5 bb5 bb
                go_wp2
                obtain ⟨W5, hW5⟩ : ∃ W5, W5 = (w4.setCell ⟨wr.heap.size, 0, none⟩ (.int .i64 X1)).setCell ⟨wr.heap.size, 1, none⟩ (.string X2) := ⟨_, rfl⟩
                rw [← hW5] at bb7 o7 hrow c7 ⊢
                have e0 : W5.cell? ⟨wr.heap.size, 0, none⟩ = some (.int .i64 X1) := blk_cell hrow 0
                have e1 : W5.cell? ⟨wr.heap.size, 1, none⟩ = some (.string X2) := blk_cell hrow 1
                clear hW5
                have hpl := blk_lt hrow
                have o8 := o7.same flat_kp (w' := W5.drew) (fun k _ => rfl)
                obtain ⟨v1, w7, hrun, ho9, hg9, hs9⟩ := o8.append (P := Try.prog) flat_kp 55 55 (.agg #[.int .i64 0, .string ⟨#[]⟩]) 24 Try.underlying55 (by kernel_rfl) rfl (by decide) (by decide) (X1, X2) [.int .i64 X1, .string X2] ⟨[.int .i64 X1], [.string X2], rfl, rfl, rfl⟩ (fun k hk => Nat.lt_trans hk.2 hpl) (by have := HLEN.out; have := HN32.out; omega)
                have hown := o8.base
                have hS9 : w7.cell? ⟨wr.heap.size, 0, none⟩ = some (.int .i64 X1) ∧ w7.cell? ⟨wr.heap.size, 1, none⟩ = some (.string X2) := by
                  have h9 := (hg9.block wr.heap.size hpl (fun h => by have := hown _ h.symm; exact Nat.lt_irrefl _ this.2)).trans hrow
                  exact ⟨blk_cell h9 0, blk_cell h9 1⟩
                have HC9 : Hid (CB w7 c X3 b 0) := Lib.hid ((hg9.block c (Nat.lt_of_lt_of_le (by omega) (Nat.le_of_lt hpl)) (fun h => by have := (hown _ h.symm).1; omega)).trans c7)
                have HB9 : Hid (Below w.heap.size w w7) := Lib.hid ((((Mod.refl (fun k => w3.heap.size ≤ k) W5).drew).grown hg9 (fun k hk => .inl (hown k hk).1)).below bb7 bb7.size (fun k hk => by have := hk; omega))
                have HO9 : Hid (Own kp 102 w7 (fun k => w3.heap.size ≤ k ∧ k < w7.heap.size) v1 (out ++ [(X1, X2)])) := Lib.hid (ho9.mono (fun k hk => by
                  rcases hk with hk | hk
                  · have h1 : W5.drew.heap.size = W5.heap.size := rfl; have := hk.2; have := hk.1; omega
                  · have h1 : W5.drew.heap.size = W5.heap.size := rfl; have := hk.2; have := hk.1; omega))
                have HSZ9 : Hid (w3.heap.size ≤ w7.heap.size) := Lib.hid (by have h1 : W5.drew.heap.size = W5.heap.size := rfl; omega)
                have HL9 : Hid ((out ++ [(X1, X2)]).length + m = N) := Lib.hid (by rw [List.length_append, List.length_singleton]; have := HLEN.out; omega)
                clear ho9 hg9 hs9 hown o8 o7 c7 bb7 hrow
                refine Reg.wp_plan (S := fun w' => w'.cell? ⟨wr.heap.size, 0, none⟩ = some (.int .i64 X1) ∧ w'.cell? ⟨wr.heap.size, 1, none⟩ = some (.string X2)) 8 (.fl 0 (.fl 1 (.fl 4 (.fl 5 (.one 2 (.one 3 (.fl 6 (.fl 7 .done)))))))) (by kernel_rfl) (by kernel_rfl) (by kernel_rfl) (by kernel_rfl) (fun _ _ _ d _ h => by cases d <;> exact h) ?_ (fun hHeld => ?_)
                · exact ⟨e0, e1⟩
                refine Reg.G_on (o := { dst := some 44, op := Op.move (Operand.tmp 4), type := 55, pos := "image.go:136", after := #[], guard := Option.none }) (v := ?_) (by rfl) ?_ (fun wS hSw => ?_) ?_
                rotate_left
                · kernel_rfl
                · (try dsimp only at hSw); go_simp; (try with_reducible rfl)
                try simp only [Act.put, List.setIfInBounds_toArray, List.set_cons_zero, List.set_cons_succ]
                refine Reg.G_on (o := { dst := some 45, op := Op.load 102 (Operand.tmp 9), type := 102, pos := "image.go:136", after := #[], guard := Option.none }) (v := ?_) (by rfl) ?_ (fun wS hSw => ?_) ?_
                rotate_left
                · kernel_rfl
                · (try dsimp only at hSw); go_simp; (try with_reducible rfl)
                try simp only [Act.put, List.setIfInBounds_toArray, List.set_cons_zero, List.set_cons_succ]
                refine Reg.G_on (o := { dst := some 48, op := Op.fieldAddr 102 (Operand.tmp 9) 0, type := 0, pos := "image.go:136", after := #[{ on := 6, ground := Ground.gcOnly Departure.lateStores }], guard := Option.none }) (v := ?_) (by rfl) ?_ (fun wS hSw => ?_) ?_
                rotate_left
                · kernel_rfl
                · (try dsimp only at hSw); go_simp; (try with_reducible rfl)
                try simp only [Act.put, List.setIfInBounds_toArray, List.set_cons_zero, List.set_cons_succ]
                refine Reg.G_on (o := { dst := some 49, op := Op.load 3 (Operand.tmp 48), type := 3, pos := "image.go:136", after := #[{ on := 4, ground := Ground.data }, { on := 6, ground := Ground.gcOnly Departure.lateStores }], guard := Option.none }) (v := ?_) (by rfl) ?_ (fun wS hSw => ?_) ?_
                rotate_left
                · kernel_rfl
                · (try dsimp only at hSw); go_simp; (try with_reducible rfl)
                try simp only [Act.put, List.setIfInBounds_toArray, List.set_cons_zero, List.set_cons_succ]
                refine Reg.G_step (o := { dst := some 46, op := Op.buildSlice 55 1 #[(0, Operand.tmp 45)], type := 55, pos := "image.go:136", after := #[{ on := 1, ground := Ground.data }], guard := Option.none }) (by rfl) ?_ (fun K hK => ?_)
                · kernel_rfl
                go_simp
                refine hK.out _ _ ?_ (fun hHeld => ?_)
                · exact ⟨cnew e0, cnew e1⟩
                clear hK K
                try simp only [Act.put, List.setIfInBounds_toArray, List.set_cons_zero, List.set_cons_succ]
                skip
                refine Reg.G_step (o := { dst := some 47, op := Op.call { callee := Callee.builtin Builtin.append, args := #[Operand.tmp 44, Operand.tmp 46], argTypes := #[55, 55] }, type := 55, pos := "image.go:136", after := #[{ on := 0, ground := Ground.data }, { on := 2, ground := Ground.data }], guard := Option.none }) (by rfl) ?_ (fun K hK => ?_)
                · kernel_rfl
                refine op_append (.tmp 44) (.tmp 46) 55 rfl rfl rfl hrun ?_
                refine hK.out _ _ ?_ (fun hHeld => ?_)
                · exact hS9
                clear hK K
                try simp only [Act.put, List.setIfInBounds_toArray, List.set_cons_zero, List.set_cons_succ]
                refine Reg.G_on (o := { dst := some 4, op := Op.assign (Operand.tmp 47), type := 55, pos := "image.go:136", after := #[{ on := 3, ground := Ground.data }, { on := 3, ground := Ground.chain }, { on := 0, ground := Ground.phase }, { on := 1, ground := Ground.phase }, { on := 2, ground := Ground.phase }, { on := 3, ground := Ground.phase }, { on := 4, ground := Ground.textOnly Departure.lateStores }, { on := 5, ground := Ground.textOnly Departure.lateStores }], guard := Option.none }) (v := ?_) (by rfl) ?_ (fun wS hSw => ?_) ?_
                rotate_left
                · kernel_rfl
                · (try dsimp only at hSw); go_simp; (try with_reducible rfl)
                try simp only [Act.put, List.setIfInBounds_toArray, List.set_cons_zero, List.set_cons_succ]
                refine Reg.G_on (o := { dst := some 6, op := Op.assign (Operand.tmp 49), type := 3, pos := "image.go:136", after := #[{ on := 5, ground := Ground.data }, { on := 6, ground := Ground.chain }, { on := 0, ground := Ground.phase }, { on := 1, ground := Ground.phase }, { on := 2, ground := Ground.phase }, { on := 3, ground := Ground.phase }, { on := 4, ground := Ground.phase }, { on := 5, ground := Ground.phase }, { on := 6, ground := Ground.phase }], guard := Option.none }) (v := ?_) (by rfl) ?_ (fun wS hSw => ?_) ?_
                rotate_left
                · kernel_rfl
                · (try dsimp only at hSw); go_simp; (try with_reducible rfl)
                try simp only [Act.put, List.setIfInBounds_toArray, List.set_cons_zero, List.set_cons_succ]
                refine Reg.G_done ?_
                have hwm : IntKind.u64.wrap (m : Int) = (m : Int) := wrapu64 (Int.natCast_nonneg m) (by have := HLEN.out; have := HN32.out; omega)
                go_wp2
                refine ⟨⟨m, X3, X1, out ++ [(X1, X2)], rfl, rfl, rfl, HL9.out, hl6, HC9.out, HO9.out, HSTEP2, HB9.out, HSZ9.out⟩, ?_⟩
                show ((m : Int)).toNat < (((m + 1 : Nat) : Int)).toNat
                rw [Int.toNat_natCast, Int.toNat_natCast]
                exact Nat.lt_succ_self m
              · have hq : (X4 != 0) = true := by simpa using hx
                have HJ : Hid (itk b = ([], X4)) := Lib.hid (by
                  have h7 := HSTEP.out
                  rw [if_pos hx] at h7
                  rw [HI.out, h7, if_pos hx])
                have bb6 := m4.below (by rw [hW1]; exact bb5 : Below w.heap.size w W1) (by rw [hW1]; exact bb5.size) (fun k hk => by have h : k = c := hk; omega)
                have bb7 := Lib.hid ((bb6.setCell (p := ⟨wr.heap.size, 0, none⟩) bb.size (.int .i64 X1)).setCell (p := ⟨wr.heap.size, 1, none⟩) bb.size (.string X2))
                unfold sec2
                clear SS hX m4 HSTEP
                go_wp2
                go_step3
                exact ⟨rfl, _, _, _, _, _, _, _, _, _, _, _, _, _, _, _, _, _, _, _, _, _, _, _, _, _, _, _, _, _, _, _, _, _, _, _, _, _, _, _, _, _, _, _, _, _, _, _, _, _, _, _, _, _, _, _, _, _, rfl, HJ.out, bb7.out⟩
        · have HJ := Lib.hid (HI.out.trans (if_pos he))
          have hq : ((ihd b).2 != 0) = true := by simpa using he
          go_enter Try.func32, Try.ntmps32
          go_wp2
          refine wp_scope_jumps 0 (Jm w (itk b)) (fun _ _ => 0) rfl ?_ ?_
          rotate_left
          · rintro a w' ⟨E, u0, u1, u2, u3, u4, u5, u6, u7, u9, u10, u11, u12, u13, u14, u15, u16, u17, u18, u19, u20, u21, u22, u23, u24, u25, u26, u27, u28, u29, u30, u31, u32, u33, u34, u35, u36, u37, u38, u39, u40, u41, u42, u43, u44, u45, u46, u47, u48, u49, u50, u51, u52, u53, u54, u55, u56, rfl, hE, hB⟩
            have HE := Lib.hid hE
            clear hE HI HP
            go_wp2
            go_ret2
            rw [HE.out]
            exact Tak.nil E hB
          go_wp2_with fail
          refine HP.mono ?_
          rintro e w1 ⟨rfl, b1⟩
          go_wp2_with fail
          refine (read b w1).mono ?_
          rintro e w2 ⟨rfl, c2, b2⟩
          have HH := head w1.heap.size b w2 c2 HZ.out
          generalize ihd b = H at *
          obtain ⟨H1, H2⟩ := H
          dsimp only at he hq HH HJ
          go_wp2_with fail
          refine HH.mono ?_
          rintro e w3 ⟨rfl, ⟨a3, ha3, hl3, c3⟩, m3⟩
          go_wp2
          go_step3
          exact ⟨rfl, _, _, _, _, _, _, _, _, _, _, _, _, _, _, _, _, _, _, _, _, _, _, _, _, _, _, _, _, _, _, _, _, _, _, _, _, _, _, _, _, _, _, _, _, _, _, _, _, _, _, _, _, _, _, _, _, _, rfl, HJ.out, (m3.below (bstep b1 b2) (bstep b1 b2).size (fun k hk => by have h : k = w1.heap.size := hk; rw [h]; exact b1.size))⟩
      · have HJ : Hid (itk b = ([], 1)) := Lib.hid (by unfold itk; rw [if_neg h1, if_neg h2, if_pos (show b.extract 0 4 ≠ ⟨#[66, 83, 72, 49]⟩ from h3)])
        rw [decide_eq_false h3] at HP
        clear h1 h2 h3
        go_enter Try.func32, Try.ntmps32
        go_wp2
        go_step3
        go_wp2_with fail
        refine HP.mono ?_
        rintro e w1 ⟨rfl, b1⟩
        go_wp2
        go_ret2
        rw [HJ.out]
        exact Tak.nil 1 b1
end Go.Proofs.Ytehojcocnndniaa.Img
namespace Go.Proofs.Ytehojcocnndniaa.Img
open Go.RowKit Base Sp Flat Go.Proofs.YtehojcocnndniaaW.PrintWords Go.Proofs.YtehojcocnndniaaW.PrintLast Go.Proofs.YtehojcocnndniaaW.PrintMore Wd Al Buf Cur
def s12 : ByteArray := ⟨#[66, 83, 72, 49, 16, 0, 0, 0, 0, 0, 0, 0]⟩
theorem aw1 : (ipt []).2 = 0 ∧ (ipt []).1.size = 16 ∧ (ipt []).1.extract 0 12 = s12 := by decide +kernel
theorem aw2 : (itk (ipt []).1).2 = 0 := by decide +kernel
theorem aw3 : 0 < CrcP.num (CrcP.sum (Crc.bytes s12)) := by decide +kernel
set_option maxRecDepth 20000 in
theorem awake (w : World) : Calls Try.prog 28 #[] w fun e w' => e = .returned (.bool true) ∧ Below w.heap.size w w' := by
  have HP := put none 0 [] w (fun k hk => absurd hk (Nat.not_lt_zero _)) (by decide)
  have h1 := aw1.1
  have h2 := aw1.2.1
  have h3 := aw1.2.2
  have h4 := aw2
  have h5 := aw3
  have HT := fun W => take_ (ipt []).1 W (by rw [h2]; decide)
  have HC := fun W => Crc.sum s12 W (by decide)
  rw [h1] at HP
  unfold Tak at HT
  rw [h4] at HT
  generalize (itk (ipt []).1).1 = L at *
  generalize (ipt []).1 = S at *
  generalize CrcP.num (CrcP.sum (Crc.bytes s12)) = C at *
  have hs1 : (S.size : Int) = 16 := by rw [h2]; rfl
  have hs2 : ((S.size : Int) == 16) = true := by rw [hs1]; rfl
  go_enter Try.func28, Try.ntmps28
  go_wp2_with fail
  refine HP.mono ?_
  rintro e w1 ⟨rfl, b1⟩
  go_wp2_with fail
  refine (HT _).mono ?_
  rintro e w2 ⟨v, rfl, _, b2⟩
  have h3' : S.extract 0 12 = ⟨#[66, 83, 72, 49, 16, 0, 0, 0, 0, 0, 0, 0]⟩ := h3
  have HC2 : ∀ W, Calls Try.prog 54 #[.string ⟨#[66, 83, 72, 49, 16, 0, 0, 0, 0, 0, 0, 0]⟩] W _ := HC
  clear h1 h2 h3 h4 HP HT
  go_wp2_with fail
  refine (HC2 _).mono ?_
  rintro e w3 ⟨rfl, rfl⟩
  go_wp2
  go_ret
  exact ⟨rfl, bstep b1 b2⟩
end Go.Proofs.Ytehojcocnndniaa.Img
namespace Go.Proofs.Ytehojcocnndniaa.Img
open Go.RowKit Base Sp Flat Go.Proofs.YtehojcocnndniaaW.PrintWords Go.Proofs.YtehojcocnndniaaW.PrintLast Go.Proofs.YtehojcocnndniaaW.PrintMore Wd Al Buf Cur Go.Proofs.Ytehojcocnndniaa.PImageTakes
/-- The reference's sections. -/
def mkS (x : Int × ByteArray) : S98 := ⟨x.1, x.2⟩
theorem sec_bad {b : ByteArray} {a : Nat} {last : Int} (hb : sbad b a 0 last ≠ 0) : sec b a last = (0, ⟨#[]⟩, 0, sbad b a 0 last) := by unfold sec; rw [if_pos hb]
theorem sec_eq {b : ByteArray} {a : Nat} {last n1 n2 e2 e3 : Int} {a1 a2 a3 : Nat} {s : ByteArray} (r1 : ctake b a 0 2 = (n1, (a1 : Int), 0)) (h1 : 1 ≤ n1) (h2 : n1 ≤ 255) (h3 : last < n1)
    (r2 : ctake b a1 0 4 = (n2, (a2 : Int), e2)) (r3 : ctext b a2 e2 n2 = (s, (a3 : Int), e3)) : sec b a last = (n1, s, a3, e3) := by
  have hb : ¬ sbad b a 0 last ≠ 0 := by
    intro h
    apply h
    unfold sbad k1
    rw [r1]
    dsimp only
    rw [if_neg (fun h => h rfl), if_neg (by omega), if_neg (by omega)]
  unfold sec
  rw [if_neg hb, r1]
  dsimp only
  rw [Int.toNat_natCast, r2]
  dsimp only
  rw [Int.toNat_natCast, r3]
  simp
end Go.Proofs.Ytehojcocnndniaa.Img
namespace Go.Proofs.Ytehojcocnndniaa.Img
open Go.RowKit Base Sp Flat Go.Proofs.YtehojcocnndniaaW.PrintWords Go.Proofs.YtehojcocnndniaaW.PrintMore Wd Al Buf Cur Go.Proofs.Ytehojcocnndniaa.PImagePuts
/-- The given sections as pairs. -/
def prs (l : List S98) : List (Int × ByteArray) := l.map fun x => (x.f0, x.f1)
def tot : List (Int × ByteArray) → Nat
  | [] => 0
  | x :: l => x.2.size + tot l
theorem tot_mem : ∀ (l : List (Int × ByteArray)), ∀ x ∈ l, x.2.size ≤ tot l
  | [], x, h => by cases h
  | y :: l, x, h => by
    rw [tot]
    rcases List.mem_cons.1 h with rfl | h
    · omega
    · have := tot_mem l x h
      omega
/-- The sum, capped. -/
def cap : List (Int × ByteArray) → Int → Int
  | [], n => n
  | x :: l, n => cap l (if n + x.2.size < 1048576 then n + x.2.size else 1048576)
theorem cap_tot : ∀ (l : List (Int × ByteArray)) (n : Int), 0 ≤ n → n ≤ 1048576 → cap l n = if n + tot l < 1048576 then n + tot l else 1048576
  | [], n, h0, h1 => by
    show n = if n + ((0 : Nat) : Int) < 1048576 then n + ((0 : Nat) : Int) else 1048576
    rw [show n + ((0 : Nat) : Int) = n from by omega]
    by_cases h : n < 1048576
    · rw [if_pos h]
    · rw [if_neg h]; omega
  | x :: l, n, h0, h1 => by
    rw [cap, tot]
    by_cases h : n + x.2.size < 1048576
    · rw [if_pos h, cap_tot l _ (by omega) (by omega)]
      by_cases h2 : n + x.2.size + (tot l : Int) < 1048576
      · rw [if_pos h2, if_pos (by omega)]; omega
      · rw [if_neg h2, if_neg (by omega)]
    · rw [if_neg h, cap_tot l _ (by omega) (by omega), if_neg (by omega), if_neg (by omega)]
theorem smz_tot : ∀ (l : List (Int × ByteArray)), (65536 < smz l ↔ 65536 < tot l) ∧ (tot l ≤ 65536 → smz l = tot l)
  | [] => by simp [smz, tot]
  | x :: l => by
    obtain ⟨h1, h2⟩ := smz_tot l
    have h3 := smz_nn l
    rw [smz, tot]
    unfold mn
    constructor
    · by_cases hs : (x.2.size : Int) < 65537
      · rw [if_pos hs]
        by_cases ht : tot l ≤ 65536
        · rw [h2 ht]; omega
        · have := h1.2 (by omega); omega
      · rw [if_neg hs]; omega
    · intro h
      rw [if_pos (by omega), h2 (by omega)]
      omega
/-- Are sections too great? -/
def grt (l : List (Int × ByteArray)) : Bool := decide (300 < l.length) || (decide (4000 < cap l 0) && decide (cap l 0 < 65000)) || decide (70000 < cap l 0)
theorem grt_not {l : List (Int × ByteArray)} (h : grt l = false) : l.length ≤ 300 ∧ tot l ≤ 70000 := by
  unfold grt at h
  simp only [Bool.or_eq_false_iff, decide_eq_false_iff_not] at h
  have hc := cap_tot l 0 (by decide) (by decide)
  refine ⟨by omega, ?_⟩
  by_cases h2 : (0 : Int) + tot l < 1048576
  · rw [if_pos h2] at hc; omega
  · rw [if_neg h2] at hc; omega
theorem rdS1_at (l : List S98) (k : Nat) (hk : k < l.length) : rd_T98 l (k : Int) = l[k] := by
  unfold rd_T98
  rw [Int.toNat_natCast, List.getD_eq_getElem?_getD, List.getElem?_eq_getElem hk]
  rfl
theorem prs_drop (l : List S98) (k : Nat) (hk : k < l.length) : prs (l.drop k) = (l[k].f0, l[k].f1) :: prs (l.drop (k + 1)) := by
  rw [List.drop_eq_getElem_cons hk]
  rfl
theorem w64p {k : Nat} (h : k ≤ 4611686018427387904) : wrap64 ((k : Int) + 1) = ((k + 1 : Nat) : Int) := by unfold wrap64; omega
theorem mn_eq (a : Int) : Go.Proofs.YtehojcocnndniaaW.PrintWords.mn a 1048576 = if a < 1048576 then a else 1048576 := by
  unfold Go.Proofs.YtehojcocnndniaaW.PrintWords.mn
  split <;> split <;> omega
def Small (l : List S98) : Prop := l.length ≤ 5900000000000 ∧ ∀ x ∈ l, x.f1.size ≤ 140737488351232
theorem great_from (l : List S98) (hl : Small l) : ∀ (d i : Nat) (n : Int), i + d = l.length → 0 ≤ n → n ≤ 1048576 → Ev (fun k => broadsheetlaw25_Great.l0 k l n (i : Int)) (decide (300 < l.length) || (decide (4000 < cap (prs (l.drop i)) n) && decide (cap (prs (l.drop i)) n < 65000)) || decide (70000 < cap (prs (l.drop i)) n))
  | 0, i, n, h, h0, h1 => by
    rw [List.drop_of_length_le (by omega)]
    show Ev _ (decide (300 < l.length) || (decide (4000 < n) && decide (n < 65000)) || decide (70000 < n))
    refine Ev.step (f := fun _ => some _) (fun k => ?_) (Ev.now _)
    simp only [broadsheetlaw25_Great.l0]
    rw [if_neg (by omega)]
    by_cases c1 : 300 < l.length
    · rw [if_pos (by omega), decide_eq_true c1]; rfl
    · rw [if_neg (by omega), decide_eq_false c1]
      by_cases c2 : 4000 < n
      · rw [if_pos c2, decide_eq_true c2]
        by_cases c3 : n < 65000
        · rw [if_pos c3, decide_eq_true c3]; rfl
        · rw [if_neg c3, decide_eq_false c3]; rfl
      · rw [if_neg c2, decide_eq_false c2]; rfl
  | d + 1, i, n, h, h0, h1 => by
    have hi : i < l.length := by omega
    have hs := hl.2 _ (List.getElem_mem hi)
    have hl1 := hl.1
    rw [prs_drop l i hi, cap]
    have ih := great_from l hl d (i + 1) (if n + l[i].f1.size < 1048576 then n + l[i].f1.size else 1048576) (by omega) (by split <;> omega) (by split <;> omega)
    refine Ev.step (fun k => ?_) ih
    simp only [broadsheetlaw25_Great.l0]
    have hw : wrap64 (n + (l[i].f1.size : Int)) = n + l[i].f1.size := by unfold wrap64; omega
    rw [if_pos (by omega), if_pos (by omega), rdS1_at l i hi, hw, mn_eq, w64p (by omega)]
theorem great_ev (l : List S98) (hl : Small l) : Ev (fun k => broadsheetlaw25_Great.f k l) (grt (prs l)) := by
  have := great_from l hl l.length 0 0 (by omega) (by decide) (by decide)
  rw [List.drop_zero] at this
  unfold grt
  rw [show (prs l).length = l.length from List.length_map _]
  exact this
def toI (x : S98) : S102 := ⟨x.f0, x.f1⟩
theorem ours_from (l : List S98) (hl : l.length ≤ 300) : ∀ (d i : Nat), i + d = l.length → Ev (fun k => broadsheetlaw25_ours.l0 k l ((l.take i).map toI) (i : Int)) (l.map toI)
  | 0, i, h => by
    refine Ev.step (f := fun _ => some _) (fun k => ?_) (Ev.now _)
    simp only [broadsheetlaw25_ours.l0]
    rw [if_neg (by omega), List.take_of_length_le (by omega)]
  | d + 1, i, h => by
    have hi : i < l.length := by omega
    have ih := ours_from l hl d (i + 1) (by omega)
    rw [List.take_succ_eq_append_getElem hi, List.map_append] at ih
    refine Ev.step (fun k => ?_) ih
    simp only [broadsheetlaw25_ours.l0]
    rw [if_pos (by omega), if_pos (by omega), if_pos (by rw [List.length_map, List.length_take]; omega), rdS1_at l i hi, w64p (by omega)]
    rfl
theorem ours_ev (l : List S98) (hl : l.length ≤ 300) : Ev (fun k => broadsheetlaw25_ours.f k l) (l.map toI) := ours_from l hl l.length 0 (by omega)
end Go.Proofs.Ytehojcocnndniaa.Img
namespace Go.Proofs.Ytehojcocnndniaa.Img
open Go.RowKit Base Sp Flat Go.Proofs.YtehojcocnndniaaW.PrintWords Go.Proofs.YtehojcocnndniaaW.PrintMore Wd Al Buf Cur Go.Proofs.Ytehojcocnndniaa.PImagePuts
theorem pcode0 (n s : Int) (hs : sz s = true) (h1 : n < pw s) : pcode n s = 0 := by unfold pcode; rw [if_pos hs, if_pos h1]
theorem pto_len {n s : Int} (L : List UInt8) (hc : pcode n s = 0) : ((pto L n s).length : Int) = L.length + gapv L.length s + s := by
  unfold pto
  rw [if_pos hc]
  exact pbytes_len L hc
theorem pto_congr {n n' s : Int} (L L' : List UInt8) (h : L.length = L'.length) (hc : pcode n s = 0) (hc' : pcode n' s = 0) : (pto L n s).length = (pto L' n' s).length := by
  have h1 := pto_len L hc
  have h2 := pto_len L' hc'
  rw [h] at h1
  omega
theorem pto_same {n s : Int} (L L' : List UInt8) (h : L.length = L'.length) : (pto L n s).length = (pto L' n s).length := by
  by_cases hc : pcode n s = 0
  · exact pto_congr L L' h hc hc
  · unfold pto; rw [if_neg hc, if_neg hc]; exact h
theorem fold_congr : ∀ (l : List (Int × ByteArray)) (L L' : List UInt8), L.length = L'.length → (l.foldl stp L).length = (l.foldl stp L').length
  | [], L, L', h => h
  | x :: l, L, L', h => by
    rw [List.foldl_cons, List.foldl_cons]
    refine fold_congr l _ _ ?_
    unfold stp
    rw [List.length_append, List.length_append, pto_same _ _ (pto_same L L' h)]
theorem bod_congr (l : List (Int × ByteArray)) (n n' : Int) (h : n < 4294967296) (h' : n' < 4294967296) : (bod l n).length = (bod l n').length := by
  unfold bod
  refine fold_congr l _ _ ?_
  unfold hdr
  exact pto_same _ _ (pto_congr _ _ rfl (pcode0 _ _ rfl h) (pcode0 _ _ rfl h'))
theorem ilen_eq (l : List (Int × ByteArray)) : ilen l = ((pto (bod l 0) 0 4).length : Int) := by
  rw [pto_len _ (pcode0 0 4 rfl (by decide))]
  unfold ilen
  omega
end Go.Proofs.Ytehojcocnndniaa.Img
namespace Go.Proofs.Ytehojcocnndniaa.CrcP
open Go.RowKit

theorem sh_bit (x : BitVec 32) (j : Nat) (hj : j < 32) : (sh x).getLsbD j = (x.getLsbD (j + 1) != (x.getLsbD 0 && P.getLsbD j)) := by
  unfold sh
  rw [BitVec.getLsbD_xor, BitVec.getLsbD_ushiftRight, Nat.add_comm 1 j]
  cases x.getLsbD 0 <;> simp
theorem bit_get (b : Bool) (j : Nat) : (bit b).getLsbD j = (b && decide (j = 0)) := by
  cases b
  · simp [bit]
  · cases j with
    | zero => rfl
    | succ j => simp [bit, BitVec.getLsbD_one]
theorem feed_bit (r : BitVec 32) (b : Bool) (j : Nat) (hj : j < 32) : (feed r b).getLsbD j = (r.getLsbD (j + 1) != ((r.getLsbD 0 != b) && P.getLsbD j)) := by
  unfold feed
  rw [sh_bit _ _ hj, BitVec.getLsbD_xor, BitVec.getLsbD_xor, bit_get, bit_get]
  cases b <;> simp

/-! bytes as bits, the lowest first -/
def bitsN (c : Nat) : Nat → Nat → List Bool
  | 0, _ => []
  | m + 1, j => c.testBit j :: bitsN c m (j + 1)
def bitsB (c : UInt8) : List Bool := bitsN c.toNat 8 0
def bitsL (l : List UInt8) : List Bool := l.flatMap bitsB
theorem bitsN_len (c m j : Nat) : (bitsN c m j).length = m := by
  induction m generalizing j with
  | zero => rfl
  | succ m ih => simp [bitsN, ih]
theorem bitsL_len (l : List UInt8) : (bitsL l).length = 8 * l.length := by
  induction l with
  | nil => rfl
  | cons c l ih =>
    have := bitsN_len c.toNat 8 0
    simp only [bitsL, List.flatMap_cons, List.length_append, List.length_cons] at *
    rw [ih]
    simp only [bitsB, this]
    omega

theorem sh_double (y : BitVec 32) (h : y.getLsbD 31 = false) : sh (y <<< 1) = y := by
  apply BitVec.eq_of_getLsbD_eq
  intro i hi
  rw [sh_bit _ _ hi]
  simp
  by_cases h31 : i = 31
  · subst h31
    rw [BitVec.getLsbD_eq_getElem (by omega)] at h
    simp [h]
  · intro hc; omega
theorem split_bit (c j : Nat) (hc : c < 256) : (BitVec.ofNat 32 (c >>> j)) = bit (c.testBit j) ^^^ ((BitVec.ofNat 32 (c >>> (j + 1))) <<< 1) := by
  apply BitVec.eq_of_getLsbD_eq
  intro i hi
  rw [BitVec.getLsbD_xor, bit_get, BitVec.getLsbD_shiftLeft]
  simp only [BitVec.getLsbD_ofNat, Nat.testBit_shiftRight, hi, decide_true, Bool.true_and]
  cases i with
  | zero => simp
  | succ i =>
    have e : j + 1 + (i + 1 - 1) = j + (i + 1) := by omega
    have e2 : j + 1 + i = j + (i + 1) := by omega
    have e3 : i < 32 := by omega
    simp [e2, e3]
theorem feeds (c : Nat) (hc : c < 256) (m : Nat) : ∀ (r : BitVec 32) (j : Nat), (bitsN c m j).foldl feed r = shN m (r ^^^ BitVec.ofNat 32 (c >>> j)) ^^^ (BitVec.ofNat 32 (c >>> (j + m))) := by
  induction m with
  | zero => intro r j; simp [bitsN, shN, BitVec.xor_assoc]
  | succ m ih =>
    intro r j
    rw [bitsN, List.foldl_cons, ih, shN, split_bit c j hc, ← BitVec.xor_assoc, sh_xor, sh_double]
    · unfold feed
      rw [show j + 1 + m = j + (m + 1) from by omega]
    · have : c >>> (j + 1) < 2 ^ 31 := by
        rw [Nat.shiftRight_eq_div_pow]
        exact Nat.lt_of_le_of_lt (Nat.div_le_self _ _) (by omega)
      rw [BitVec.getLsbD_ofNat, Nat.testBit_lt_two_pow this]
      rfl
theorem stepB_feeds (r : BitVec 32) (c : UInt8) : (bitsB c).foldl feed r = stepB r c := by
  have hc : c.toNat < 256 := c.toNat_lt
  unfold bitsB stepB
  rw [feeds _ hc]
  have h8 : c.toNat >>> (0 + 8) = 0 := by rw [Nat.shiftRight_eq_div_pow]; omega
  rw [h8]
  have h0 : BitVec.ofNat 32 (c.toNat >>> 0) = c.toBitVec.setWidth 32 := by
    apply BitVec.eq_of_toNat_eq
    simp
  rw [h0]
  simp
theorem stepL_feeds (l : List UInt8) : ∀ r : BitVec 32, (bitsL l).foldl feed r = stepL r l := by
  induction l with
  | nil => intro r; rfl
  | cons c l ih =>
    intro r
    show ((bitsB c) ++ bitsL l).foldl feed r = _
    rw [List.foldl_append, stepB_feeds, ih]
    rfl

/-! the long division -/
def G (l : List Bool) (m : Nat) : Bool := l.getD m false
theorem G_set (l : List Bool) (a m : Nat) (v : Bool) (ha : a < l.length) : G (l.set a v) m = if m = a then v else G l m := by
  unfold G
  rw [List.getD_eq_getElem?_getD, List.getD_eq_getElem?_getD, List.getElem?_set]
  by_cases h : a = m
  · subst h; simp [ha]
  · have h' : m ≠ a := fun e => h e.symm
    simp [h, h']
def xorN (l p : List Bool) (i : Nat) : Nat → List Bool
  | 0 => l
  | j + 1 => (xorN l p i j).set (i + j) (G (xorN l p i j) (i + j) != G p j)
theorem xorN_len (l p : List Bool) (i j : Nat) : (xorN l p i j).length = l.length := by
  induction j with
  | zero => rfl
  | succ j ih => rw [xorN, List.length_set, ih]
theorem xorN_get (l p : List Bool) (i j : Nat) (h : i + j ≤ l.length) (m : Nat) : G (xorN l p i j) m = if i ≤ m ∧ m < i + j then (G l m != G p (m - i)) else G l m := by
  induction j with
  | zero => rw [xorN, if_neg (by omega)]
  | succ j ih =>
    rw [xorN, G_set _ _ _ _ (by rw [xorN_len]; omega)]
    have ih := ih (by omega)
    by_cases hm : m = i + j
    · subst hm
      rw [if_pos rfl, if_pos (by omega), ih, if_neg (by omega)]
      rw [show i + j - i = j from by omega]
    · rw [if_neg hm, ih]
      by_cases hc : i ≤ m ∧ m < i + j
      · rw [if_pos hc, if_pos (by omega)]
      · rw [if_neg hc, if_neg (by omega)]
def polyL : List Bool := [true, false, false, false, false, false, true, false, false, true, true, false, false, false, false, false, true, false, false, false, true, true, true, false, true, true, false, true, true, false, true, true, true]
theorem poly_P : ∀ j : Fin 32, P.getLsbD j.val = G polyL (j.val + 1) := by decide
theorem poly_0 : G polyL 0 = true := by decide
/-- The window: what stands from place i on is the text's bits with the register laid over the first 32. -/
def Win (d l : List Bool) (i : Nat) (r : BitVec 32) : Prop := l.length = d.length ∧ ∀ j, i + j < d.length → G l (i + j) = (G d (i + j) != r.getLsbD j)
theorem win_step {d l : List Bool} {i : Nat} {r : BitVec 32} (h : Win d l i r) (hi : i + 33 ≤ d.length) :
    Win d (if G l i = true then xorN l polyL i 33 else l) (i + 1) (feed r (G d i)) := by
  obtain ⟨hl, hw⟩ := h
  have h0 := hw 0 (by omega)
  rw [Nat.add_zero] at h0
  refine ⟨by split <;> simp [xorN_len, hl], fun j hj => ?_⟩
  have h1 := hw (j + 1) (by omega)
  rw [show i + (j + 1) = i + 1 + j from by omega] at h1
  rcases Nat.lt_or_ge j 32 with h32 | h32
  · rw [feed_bit _ _ _ h32, poly_P ⟨j, h32⟩]
    by_cases ht : G l i = true
    · rw [if_pos ht, xorN_get _ _ _ _ (by omega), if_pos (by omega), h1, show i + 1 + j - i = j + 1 from by omega]
      rw [ht] at h0
      have h2 : (r.getLsbD 0 != G d i) = true := by rw [h0]; cases G d i <;> cases r.getLsbD 0 <;> rfl
      rw [h2]
      cases G d (i + 1 + j) <;> cases r.getLsbD (j + 1) <;> cases G polyL (j + 1) <;> rfl
    · rw [if_neg ht, h1]
      have ht' : G l i = false := by simpa using ht
      rw [ht'] at h0
      have h2 : (r.getLsbD 0 != G d i) = false := by rw [h0]; cases G d i <;> cases r.getLsbD 0 <;> rfl
      rw [h2]
      cases G d (i + 1 + j) <;> cases r.getLsbD (j + 1) <;> rfl
  · have hz : ∀ y : BitVec 32, y.getLsbD j = false := fun y => BitVec.getLsbD_of_ge y j (by omega)
    have hz1 : r.getLsbD (j + 1) = false := BitVec.getLsbD_of_ge r (j + 1) (by omega)
    rw [hz]
    rw [hz1] at h1
    by_cases ht : G l i = true
    · rw [if_pos ht, xorN_get _ _ _ _ (by omega), if_neg (by omega), h1]
    · rw [if_neg ht, h1]

/-! the first 32 turned; what is read at last -/
def flipN (l : List Bool) : Nat → List Bool
  | 0 => l
  | k + 1 => (flipN l k).set k (!(G (flipN l k) k))
theorem flipN_len (l : List Bool) (k : Nat) : (flipN l k).length = l.length := by
  induction k with
  | zero => rfl
  | succ k ih => rw [flipN, List.length_set, ih]
theorem flipN_get (l : List Bool) (k : Nat) (h : k ≤ l.length) (m : Nat) : G (flipN l k) m = if m < k then !(G l m) else G l m := by
  induction k with
  | zero => rw [flipN, if_neg (by omega)]
  | succ k ih =>
    have ih := ih (by omega)
    rw [flipN, G_set _ _ _ _ (by rw [flipN_len]; omega)]
    by_cases hm : m = k
    · subst hm
      rw [if_pos rfl, if_pos (by omega), ih, if_neg (by omega)]
    · rw [if_neg hm, ih]
      by_cases hc : m < k
      · rw [if_pos hc, if_pos (by omega)]
      · rw [if_neg hc, if_neg (by omega)]
/-- The text's bits, with 32 bits 0 behind. -/
def data (l : List UInt8) : List Bool := bitsL l ++ List.replicate 32 false
theorem data_len (l : List UInt8) : (data l).length = 8 * l.length + 32 := by simp [data, bitsL_len]
theorem win_start (l : List UInt8) : Win (data l) (flipN (data l) 32) 0 (BitVec.allOnes 32) := by
  have hl := data_len l
  refine ⟨flipN_len _ _, fun j hj => ?_⟩
  rw [Nat.zero_add] at *
  rw [flipN_get _ _ (by omega)]
  by_cases h : j < 32
  · rw [if_pos h, BitVec.getLsbD_allOnes]
    simp [h]
  · rw [if_neg h, BitVec.getLsbD_of_ge _ _ (by omega)]
    simp
/-- The register behind some bits. -/
def reg (l : List UInt8) (i : Nat) : BitVec 32 := ((bitsL l).take i).foldl feed (BitVec.allOnes 32)
theorem reg_succ (l : List UInt8) (i : Nat) (h : i < (bitsL l).length) : reg l (i + 1) = feed (reg l i) (G (data l) i) := by
  unfold reg
  rw [List.take_succ_eq_append_getElem h, List.foldl_append]
  have : G (data l) i = (bitsL l)[i] := by
    unfold G data
    rw [List.getD_eq_getElem?_getD, List.getElem?_append_left h, List.getElem?_eq_getElem h]
    rfl
  rw [this]
  rfl
theorem reg_end (l : List UInt8) (i : Nat) (h : (bitsL l).length ≤ i) : reg l i = stepL (BitVec.allOnes 32) l := by
  unfold reg
  rw [List.take_of_length_le h, stepL_feeds]
theorem data_tail (l : List UInt8) (j : Nat) : G (data l) (8 * l.length + j) = false := by
  unfold G data
  rw [List.getD_eq_getElem?_getD, List.getElem?_append_right (by rw [bitsL_len]; omega)]
  by_cases h : 8 * l.length + j - (bitsL l).length < 32
  · rw [List.getElem?_replicate, if_pos h]
    rfl
  · rw [List.getElem?_eq_none (by rw [List.length_replicate]; omega)]
    rfl
theorem win_end {l : List UInt8} {x : List Bool} {r : BitVec 32} (h : Win (data l) x (8 * l.length) r) (j : Nat) (hj : j < 32) : G x (8 * l.length + j) = r.getLsbD j := by
  rw [h.2 j (by rw [data_len]; omega), data_tail]
  cases r.getLsbD j <;> rfl
/-- The number read so far: t bits from the top. -/
def read (y : BitVec 32) (t : Nat) : Int := ((y.toNat >>> (32 - t) : Nat) : Int)
theorem read_0 (y : BitVec 32) : read y 0 = 0 := by
  unfold read
  have := y.isLt
  rw [Nat.sub_zero, Nat.shiftRight_eq_div_pow, Nat.div_eq_of_lt this]
  rfl
theorem read_32 (y : BitVec 32) : read y 32 = num y := by
  unfold read num
  rfl
theorem read_hi (y : BitVec 32) (t : Nat) : 0 ≤ read y t ∧ read y t < 4294967296 := by
  unfold read
  have := y.isLt
  have h2 : y.toNat >>> (32 - t) ≤ y.toNat := by rw [Nat.shiftRight_eq_div_pow]; exact Nat.div_le_self _ _
  generalize y.toNat >>> (32 - t) = a at *
  omega
theorem read_succ (y : BitVec 32) (t : Nat) (ht : t < 32) : read y (t + 1) = read y t * 2 + (if y.getLsbD (31 - t) then 1 else 0) ∧ read y t * 2 < 4294967296 - 1 := by
  have hlt := y.isLt
  unfold read
  have e : 32 - t = (31 - t) + 1 := by omega
  have e2 : 32 - (t + 1) = 31 - t := by omega
  rw [e2, e, Nat.shiftRight_succ]
  have hm : y.toNat >>> (31 - t) % 2 = if y.getLsbD (31 - t) then 1 else 0 := by
    rw [BitVec.getLsbD, Nat.testBit_eq_decide_div_mod_eq, ← Nat.shiftRight_eq_div_pow]
    rcases Nat.mod_two_eq_zero_or_one (y.toNat >>> (31 - t)) with h | h <;> simp [h]
  have h2 : y.toNat >>> (31 - t) ≤ y.toNat := by rw [Nat.shiftRight_eq_div_pow]; exact Nat.div_le_self _ _
  generalize y.toNat >>> (31 - t) = a at *
  generalize y.getLsbD (31 - t) = b at *
  cases b <;> simp at hm ⊢ <;> omega
end Go.Proofs.Ytehojcocnndniaa.CrcP
namespace Go.Proofs.Ytehojcocnndniaa.CrcP
open Go.RowKit

def emb (c : UInt8) : BitVec 32 := c.toBitVec.setWidth 32
theorem emb_get (c : UInt8) (i : Nat) (hi : i < 32) : (emb c).getLsbD i = c.toBitVec.getLsbD i := by
  unfold emb
  rw [BitVec.getLsbD_setWidth]
  simp [hi]
theorem byte_ge (c : UInt8) (i : Nat) (hi : 8 ≤ i) : c.toBitVec.getLsbD i = false := BitVec.getLsbD_of_ge _ _ hi
theorem shN_shl (n : Nat) : ∀ (y : BitVec 32), y.toNat * 2 ^ n < 2 ^ 32 → shN n (y <<< n) = y := by
  induction n with
  | zero => intro y _; simp [shN]
  | succ n ih =>
    intro y hy
    have h1 : y <<< (n + 1) = (y <<< n) <<< 1 := by
      rw [BitVec.shiftLeft_add]
    have h2 : y.toNat * 2 ^ n < 2 ^ 31 := by
      rw [Nat.pow_succ, ← Nat.mul_assoc] at hy
      omega
    have h3 : (y <<< n).getLsbD 31 = false := by
      rw [BitVec.getLsbD, BitVec.toNat_shiftLeft, Nat.shiftLeft_eq, Nat.mod_eq_of_lt (by omega)]
      exact Nat.testBit_lt_two_pow h2
    rw [h1, shN, sh_double _ h3]
    exact ih y (by omega)
theorem shN_shN (m n : Nat) : ∀ x, shN m (shN n x) = shN (n + m) x := by
  induction n with
  | zero => intro x; rw [Nat.zero_add]; rfl
  | succ n ih => intro x; rw [shN, ih, show n + 1 + m = (n + m) + 1 from by omega, shN]
theorem shN_in (n : Nat) (z y : BitVec 32) (h : y.toNat * 2 ^ n < 2 ^ 32) : shN n z ^^^ y = shN n (z ^^^ (y <<< n)) := by
  rw [shN_xor, shN_shl n y h]
theorem emb_lt (c : UInt8) : (emb c).toNat < 256 := by
  unfold emb
  rw [BitVec.toNat_setWidth]
  have := c.toNat_lt
  exact Nat.lt_of_le_of_lt (Nat.mod_le _ _) this
/-- Four bytes as one. -/
def quad (c0 c1 c2 c3 : UInt8) : BitVec 32 := emb c0 ^^^ (emb c1 <<< 8) ^^^ (emb c2 <<< 16) ^^^ (emb c3 <<< 24)
theorem quad_get (c0 c1 c2 c3 : UInt8) (i : Nat) (hi : i < 8) : (quad c0 c1 c2 c3).getLsbD i = c0.toBitVec.getLsbD i ∧ (quad c0 c1 c2 c3).getLsbD (8 + i) = c1.toBitVec.getLsbD i ∧
    (quad c0 c1 c2 c3).getLsbD (16 + i) = c2.toBitVec.getLsbD i ∧ (quad c0 c1 c2 c3).getLsbD (24 + i) = c3.toBitVec.getLsbD i := by
  unfold quad
  simp only [BitVec.getLsbD_xor, BitVec.getLsbD_shiftLeft]
  have e : ∀ (c : UInt8) (k : Nat), k < 32 → 8 ≤ k → (emb c).getLsbD k = false := fun c k h1 h2 => by rw [emb_get c k h1, byte_ge c k h2]
  refine ⟨?_, ?_, ?_, ?_⟩
  · rw [emb_get c0 i (by omega)]
    have h1 : i < 16 := by omega
    have h2 : i < 24 := by omega
    simp [hi, h1, h2]
  · rw [e c0 (8 + i) (by omega) (by omega), show 8 + i - 8 = i from by omega, emb_get c1 i (by omega)]
    have h0 : ¬ 8 + i < 8 := by omega
    have h1 : 8 + i < 16 := by omega
    have h2 : 8 + i < 24 := by omega
    have h3 : 8 + i < 32 := by omega
    simp [h1, h2, h3]
  · rw [e c0 (16 + i) (by omega) (by omega), e c1 (16 + i - 8) (by omega) (by omega), show 16 + i - 16 = i from by omega, emb_get c2 i (by omega)]
    have h1 : ¬ 16 + i < 16 := by omega
    have h2 : 16 + i < 24 := by omega
    have h3 : 16 + i < 32 := by omega
    simp [h2, h3]
  · rw [e c0 (24 + i) (by omega) (by omega), e c1 (24 + i - 8) (by omega) (by omega), e c2 (24 + i - 16) (by omega) (by omega), show 24 + i - 24 = i from by omega, emb_get c3 i (by omega)]
    have h3 : 24 + i < 32 := by omega
    simp [h3]
theorem byte_eq {c d : UInt8} (h : ∀ i, i < 8 → c.toBitVec.getLsbD i = d.toBitVec.getLsbD i) : c = d :=
  UInt8.eq_of_toBitVec_eq (BitVec.eq_of_getLsbD_eq h)
theorem quad_inj {c0 c1 c2 c3 d0 d1 d2 d3 : UInt8} (h : quad c0 c1 c2 c3 = quad d0 d1 d2 d3) : c0 = d0 ∧ c1 = d1 ∧ c2 = d2 ∧ c3 = d3 := by
  refine ⟨byte_eq fun i hi => ?_, byte_eq fun i hi => ?_, byte_eq fun i hi => ?_, byte_eq fun i hi => ?_⟩
  · rw [← (quad_get c0 c1 c2 c3 i hi).1, ← (quad_get d0 d1 d2 d3 i hi).1, h]
  · rw [← (quad_get c0 c1 c2 c3 i hi).2.1, ← (quad_get d0 d1 d2 d3 i hi).2.1, h]
  · rw [← (quad_get c0 c1 c2 c3 i hi).2.2.1, ← (quad_get d0 d1 d2 d3 i hi).2.2.1, h]
  · rw [← (quad_get c0 c1 c2 c3 i hi).2.2.2, ← (quad_get d0 d1 d2 d3 i hi).2.2.2, h]
theorem stepL_quad (r : BitVec 32) (c0 c1 c2 c3 : UInt8) : stepL r [c0, c1, c2, c3] = shN 32 (r ^^^ quad c0 c1 c2 c3) := by
  have e0 := emb_lt c0
  have e1 := emb_lt c1
  have e2 := emb_lt c2
  have e3 := emb_lt c3
  show shN 8 (shN 8 (shN 8 (shN 8 (r ^^^ emb c0) ^^^ emb c1) ^^^ emb c2) ^^^ emb c3) = _
  rw [shN_in 8 (r ^^^ emb c0) (emb c1) (by omega), shN_shN, shN_in 16 _ (emb c2) (by omega), shN_shN, shN_in 24 _ (emb c3) (by omega), shN_shN]
  unfold quad
  simp only [BitVec.xor_assoc]
theorem xor_eq_zero {x y : BitVec 32} (h : x ^^^ y = 0#32) : x = y := by
  have := congrArg (fun z => z ^^^ y) h
  simpa [BitVec.xor_assoc] using this
theorem shN_inj (n : Nat) {x y : BitVec 32} (h : shN n x = shN n y) : x = y := by
  apply xor_eq_zero
  apply shN_eq_zero n
  rw [shN_xor, h, BitVec.xor_self]
theorem xor_cancel {r x y : BitVec 32} (h : r ^^^ x = r ^^^ y) : x = y := by
  have := congrArg (fun z => r ^^^ z) h
  simpa [← BitVec.xor_assoc] using this
theorem xor_cancel_right {r x y : BitVec 32} (h : x ^^^ r = y ^^^ r) : x = y := by
  rw [BitVec.xor_comm x, BitVec.xor_comm y] at h
  exact xor_cancel h
theorem stepL_inj (l : List UInt8) : ∀ {r q : BitVec 32}, stepL r l = stepL q l → r = q := by
  induction l with
  | nil => intro r q h; exact h
  | cons c l ih =>
    intro r q h
    have h1 : stepB r c = stepB q c := ih h
    exact xor_cancel_right (shN_inj 8 h1)
theorem stepL_append (r : BitVec 32) (a b : List UInt8) : stepL r (a ++ b) = stepL (stepL r a) b := List.foldl_append
theorem quad_text {r : BitVec 32} {x y : List UInt8} (hx : x.length = 4) (hy : y.length = 4) (h : stepL r x = stepL r y) : x = y := by
  match x, y, hx, hy with
  | [c0, c1, c2, c3], [d0, d1, d2, d3], _, _ =>
    rw [stepL_quad, stepL_quad] at h
    obtain ⟨rfl, rfl, rfl, rfl⟩ := quad_inj (xor_cancel (shN_inj 32 h))
    rfl
/-- At most four bytes: unlike ones lead to unlike registers. -/
theorem short_text {r : BitVec 32} {x y : List UInt8} (hl : x.length = y.length) (h4 : x.length ≤ 4) (h : stepL r x = stepL r y) : x = y := by
  have h1 : stepL r (x ++ List.replicate (4 - x.length) 0) = stepL r (y ++ List.replicate (4 - x.length) 0) := by
    rw [stepL_append, stepL_append, h]
  have h2 := quad_text (by simp; omega) (by simp; omega) h1
  exact (List.append_inj h2 hl).1
/-- Two texts of one length that are unlike in four bytes side by side at most have like sums only if they are alike. -/
theorem burst {a b : List UInt8} (k : Nat) (hl : a.length = b.length) (hd : ∀ m, m < k ∨ k + 4 ≤ m → a[m]? = b[m]?) : CrcP.sum a = CrcP.sum b ↔ a = b := by
  refine ⟨fun h => ?_, fun h => by rw [h]⟩
  have h1 : stepL (~~~ 0#32) a = stepL (~~~ 0#32) b := by
    have := congrArg (fun z => ~~~ z) h
    simpa [CrcP.sum, more] using this
  have ha : a = a.take k ++ ((a.drop k).take 4 ++ a.drop (k + 4)) := by
    rw [← List.drop_drop, List.take_append_drop, List.take_append_drop]
  have hb : b = b.take k ++ ((b.drop k).take 4 ++ b.drop (k + 4)) := by
    rw [← List.drop_drop, List.take_append_drop, List.take_append_drop]
  have e1 : a.take k = b.take k := by
    apply List.ext_getElem?
    intro i
    rw [List.getElem?_take, List.getElem?_take]
    split
    · exact hd i (by omega)
    · rfl
  have e2 : a.drop (k + 4) = b.drop (k + 4) := by
    apply List.ext_getElem?
    intro i
    rw [List.getElem?_drop, List.getElem?_drop]
    exact hd _ (by omega)
  rw [ha, hb, e1, e2, stepL_append, stepL_append, stepL_append, stepL_append] at h1
  have h2 := stepL_inj _ h1
  have h3 := short_text (by simp [hl]) (by simp; omega) h2
  rw [ha, hb, e1, e2, h3]
end Go.Proofs.Ytehojcocnndniaa.CrcP
