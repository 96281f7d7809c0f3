import Derived.Test.YtehojcocnndniaaCurBack
import Derived.Test.YtehojcocnndniaaWdRPutAlignPuts
import Derived.Test.YtehojcocnndniaaPCallPutsx3
import Derived.Laws.Tables
import Derived.Test.YtehojcocnndniaaWdRPutCallPuts
import Derived.Test.YtehojcocnndniaaWdRTakeAlignTakes
import Derived.Test.YtehojcocnndniaaPCallPutsx1
import Derived.Test.YtehojcocnndniaaStep
import Derived.Test.YtehojcocnndniaaRegion
set_option linter.unusedVariables false
set_option linter.unusedSimpArgs false
namespace Go.Proofs.Ytehojcocnndniaa.Call
open Go.RowKit Base Sp Flat Go.Proofs.YtehojcocnndniaaW.PrintWords Go.Proofs.YtehojcocnndniaaW.PrintLast Go.Proofs.YtehojcocnndniaaW.PrintMore Wd Al Buf Cur
/-- Has a field a number's bytes? -/
def okf (f s : Int) : Bool := decide (0 ≤ f ∧ f < pw s)
theorem okf_iff {f s : Int} : okf f s = true ↔ 0 ≤ f ∧ f < pw s := by simp [okf]
theorem okf_code {f s : Int} (hs : sz s = true) (h : okf f s = true) : pcode f s = 0 := by
  unfold pcode
  rw [if_pos hs, if_pos (okf_iff.1 h).2]
theorem pw_le {s : Int} (hs : sz s = true) : pw s ≤ 18446744073709551616 := by
  rcases sz_cases hs with rfl | rfl | rfl | rfl <;> decide
/-- Is a whole record fine, and its bytes. -/
def okr (a b c d e f : Int) : Bool := okf a 1 && (okf b 1 && (okf c 2 && (okf d 4 && (okf e 4 && okf f 4))))
def byt (a b c d e f : Int) : List UInt8 := nbytes a 1 ++ (nbytes b 1 ++ (nbytes c 2 ++ (nbytes d 4 ++ (nbytes e 4 ++ nbytes f 4))))
theorem byt_len (a b c d e f : Int) : (byt a b c d e f).length = 16 := by
  unfold byt
  simp only [List.length_append, nbytes_len]
  rfl
/-- A put without a gap. -/
theorem pbytes_flat (L : List UInt8) (n s : Int) (m : Nat) (hl : L.length = m) (hg : gapv m s = 0) : pbytes L n s = L ++ nbytes n s := by
  unfold pbytes
  rw [hl, hg]
  simp
/-- The field at a place of bytes. -/
def cv (b : ByteArray) (a s : Int) : Int := lev (fun i => bt b (a + i)) s.toNat
theorem takev_cv (b : ByteArray) (a s : Int) (h0 : 0 ≤ a) (h1 : a + s ≤ b.size) (hs : 0 ≤ s) : takev b a s = (cv b a s, 0) := by
  unfold takev cv
  rw [if_neg (by omega), if_neg (by omega)]
theorem ctake_flat (b : ByteArray) (a : Nat) (s : Int) (hs : sz s = true) (hg : gapv a s = 0) (h1 : (a : Int) + s ≤ b.size) : ctake b a 0 s = (cv b a s, ((a + s.toNat : Nat) : Int), 0) := by
  have hc := sz_cases hs
  unfold ctake
  rw [if_neg (fun h => h rfl), if_neg (by rw [hs]; decide), hg, if_neg (fun h => h rfl), Int.add_zero, takev_cv b a s (by omega) h1 (by omega), if_neg (fun h => h rfl)]
  congr 2
  omega
theorem cv_range (b : ByteArray) (a s : Int) : 0 ≤ cv b a s ∧ cv b a s < 256 ^ s.toNat := ⟨lev_lo _ (fun i => bt_range b _) _, lev_hi _ (fun i => bt_range b _) _⟩
/-- What a number's bytes were is what they tell. -/
theorem le_lev (f : Nat → Int) (hf : ∀ i, 0 ≤ f i ∧ f i ≤ 255) : ∀ k, le (lev f k) k = (List.range k).map f := by
  intro k
  induction k generalizing f with
  | zero => rfl
  | succ k ih =>
    have h0 := hf 0
    have h1 := lev_lo (fun i => f (i + 1)) (fun i => hf (i + 1)) k
    rw [lev, le, show (f 0 + 256 * lev (fun i => f (i + 1)) k) % 256 = f 0 from by omega, show (f 0 + 256 * lev (fun i => f (i + 1)) k) / 256 = lev (fun i => f (i + 1)) k from by omega, ih (fun i => f (i + 1)) (fun i => hf (i + 1)), List.range_succ_eq_map, List.map_cons, List.map_map]
    rfl
/-- What Put answers. -/
def cput (a b c d e f : Int) : ByteArray × Int := if okr a b c d e f then (tx (byt a b c d e f), 0) else (⟨#[]⟩, 7)
/-- What Take answers: is it taken? -/
def tok (b : ByteArray) : Bool := decide (b.size = 16) && decide (1 ≤ cv b 0 1 ∧ cv b 0 1 ≤ 13)
def tcode (b : ByteArray) : Int := if b.size = 16 then (if 1 ≤ cv b 0 1 ∧ cv b 0 1 ≤ 13 then 0 else 4) else 1
end Go.Proofs.Ytehojcocnndniaa.Call
namespace Go.Proofs.Ytehojcocnndniaa.Call
open Go.RowKit Base Sp Flat Go.Proofs.YtehojcocnndniaaW.PrintWords Go.Proofs.YtehojcocnndniaaW.PrintLast Go.Proofs.YtehojcocnndniaaW.PrintMore Wd Al Buf Cur
theorem sizes (w : World) : Calls Try.prog 48 #[] w fun e w' => e = .returned (.agg #[.int .i64 1, .int .i64 1, .int .i64 2, .int .i64 4, .int .i64 4, .int .i64 4]) ∧ Below w.heap.size w w' := by
  go_enter Try.func48, Try.ntmps48
  go_wp2
  exact bodyPost_ret (v := .agg #[.int .i64 1, .int .i64 1, .int .i64 2, .int .i64 4, .int .i64 4, .int .i64 4]) (by simp [results, Try.results48, go_sem]) rfl ⟨rfl, (Below.refl _ _).alloc (Nat.le_refl _) _⟩
/-- The bytes of the first fields, and are they fine? -/
def pre (a b c d e f : Int) : Nat → List UInt8
  | 0 => []
  | 1 => nbytes a 1
  | 2 => nbytes a 1 ++ nbytes b 1
  | 3 => nbytes a 1 ++ nbytes b 1 ++ nbytes c 2
  | 4 => nbytes a 1 ++ nbytes b 1 ++ nbytes c 2 ++ nbytes d 4
  | 5 => nbytes a 1 ++ nbytes b 1 ++ nbytes c 2 ++ nbytes d 4 ++ nbytes e 4
  | _ => nbytes a 1 ++ nbytes b 1 ++ nbytes c 2 ++ nbytes d 4 ++ nbytes e 4 ++ nbytes f 4
theorem pre_all (a b c d e f : Int) : pre a b c d e f 6 = byt a b c d e f := by simp [pre, byt]
theorem pre_len (a b c d e f : Int) (k : Nat) (hk : k ≤ 6) : (pre a b c d e f k).length = [0, 1, 2, 4, 8, 12, 16].getD k 0 := by
  have : k = 0 ∨ k = 1 ∨ k = 2 ∨ k = 3 ∨ k = 4 ∨ k = 5 ∨ k = 6 := by omega
  rcases this with rfl | rfl | rfl | rfl | rfl | rfl | rfl <;> simp [pre, nbytes_len]
/-- What is known in the loop of Put. -/
structure Lp (w0 w : World) (bb g k : Nat) (a b c d e f : Int) (F : Nat → Prop) : Prop where
  hb : BB w F bb (pre a b c d e f k)
  ha : w.heap[g]? = some (.cells #[.int .i64 a, .int .i64 b, .int .i64 c, .int .i64 d, .int .i64 e, .int .i64 f] 87 (0, 0))
  gF : ¬ F g
  fF : ∀ k, F k → w0.heap.size ≤ k
  be : Below w0.heap.size w0 w
theorem Lp.next {w0 w w' : World} {bb g k : Nat} {a b c d e f : Int} {F F2 : Nat → Prop} {j : Nat} (h : Lp w0 w bb g k a b c d e f F) (hb : BB w' F2 bb (pre a b c d e f j)) (hm : Mod F w w') (hg : Grow F F2 w) : Lp w0 w' bb g j a b c d e f F2 :=
  ⟨hb, (hm.block g (blk_lt h.ha) h.gF).trans h.ha, fun hf => (hg g hf).elim h.gF (fun h1 => by have := blk_lt h.ha; omega), grow_up hg h.fF h.be.size, hm.below h.be h.be.size h.fF⟩
theorem aput7 (F : Nat → Prop) (bb : Nat) (l : List UInt8) (n s : Int) (w : World) (h : BB w F bb l) (h0 : 0 ≤ n) (h1 : n < 18446744073709551616) (hc : pcode n s ≠ 0) :
    Calls Try.prog 37 #[.pointer (some ⟨bb, 0, none⟩), .int .u64 n, .int .i64 s] w fun e w' => e = .returned (.int .i64 (pcode n s)) ∧ Below w.heap.size w w' := put_bad bb n s w h0 h1 hc
def oks (a b c d e f : Int) (k : Nat) : Prop :=
  (1 ≤ k → okf a 1 = true) ∧ (2 ≤ k → okf b 1 = true) ∧ (3 ≤ k → okf c 2 = true) ∧ (4 ≤ k → okf d 4 = true) ∧ (5 ≤ k → okf e 4 = true) ∧ (6 ≤ k → okf f 4 = true)
theorem oks_all {a b c d e f : Int} (h : oks a b c d e f 6) : okr a b c d e f = true := by
  unfold okr
  rw [h.1 (by decide), h.2.1 (by decide), h.2.2.1 (by decide), h.2.2.2.1 (by decide), h.2.2.2.2.1 (by decide), h.2.2.2.2.2 (by decide)]
  rfl
theorem pcode_ok {n s : Int} (h : pcode n s = 0) : n < pw s := by
  unfold pcode at h
  split at h
  · split at h
    · assumption
    · cases h
  · cases h
set_option maxRecDepth 20000 in
set_option maxHeartbeats 4000000 in
theorem put (a b c d e f : Int) (hra : a < 9223372036854775808) (hrb : b < 9223372036854775808) (hrc : c < 9223372036854775808) (hrd : d < 9223372036854775808) (hre : e < 9223372036854775808) (hrf : f < 9223372036854775808) (w : World) :
    Calls Try.prog 19 #[.agg #[.int .i64 a, .int .i64 b, .int .i64 c, .int .i64 d, .int .i64 e, .int .i64 f]] w fun e' w' => e' = .returned (.tuple #[.string (cput a b c d e f).1, .int .i64 (cput a b c d e f).2]) ∧ Below w.heap.size w w' := by
  have HB0 := Lib.hid hra
  have HB1 := Lib.hid hrb
  have HB2 := Lib.hid hrc
  have HB3 := Lib.hid hrd
  have HB4 := Lib.hid hre
  have HB5 := Lib.hid hrf
  clear hra hrb hrc hrd hre hrf
  have HC : Hid (okr a b c d e f = false → cput a b c d e f = (⟨#[]⟩, 7)) := Lib.hid (fun h => by unfold cput; rw [h]; rfl)
  have HD : Hid (okr a b c d e f = true → cput a b c d e f = (tx (byt a b c d e f), 0)) := Lib.hid (fun h => by unfold cput; rw [h]; rfl)
  have b0 : Below w.heap.size w (w.alloc (.cells #[.int .i64 a, .int .i64 b, .int .i64 c, .int .i64 d, .int .i64 e, .int .i64 f] 40)) := (Below.refl _ _).alloc (Nat.le_refl _) _
  have h0 : (w.alloc (.cells #[.int .i64 a, .int .i64 b, .int .i64 c, .int .i64 d, .int .i64 e, .int .i64 f] 40)).heap[w.heap.size]? = some (.cells #[.int .i64 a, .int .i64 b, .int .i64 c, .int .i64 d, .int .i64 e, .int .i64 f] 40 (0, 0)) := heap_alloc_new _ _
  obtain ⟨W0, hW0⟩ : ∃ W0, W0 = w.alloc (.cells #[.int .i64 a, .int .i64 b, .int .i64 c, .int .i64 d, .int .i64 e, .int .i64 f] 40) := ⟨_, rfl⟩
  rw [← hW0] at b0 h0
  go_enter Try.func19, Try.ntmps19
  go_wp2_with fail
  rw [← hW0]
  clear hW0
  refine (Buf.new W0).mono ?_
  rintro e' w1 ⟨rfl, h1, b1⟩
  have hr := (b1.block w.heap.size (blk_lt h0)).trans h0
  have c0 : w1.cell? ⟨w.heap.size, 0, none⟩ = some (.int .i64 a) := blk_cell hr 0
  have c1 : w1.cell? ⟨w.heap.size, 1, none⟩ = some (.int .i64 b) := blk_cell hr 1
  have c2 : w1.cell? ⟨w.heap.size, 2, none⟩ = some (.int .i64 c) := blk_cell hr 2
  have c3 : w1.cell? ⟨w.heap.size, 3, none⟩ = some (.int .i64 d) := blk_cell hr 3
  have c4 : w1.cell? ⟨w.heap.size, 4, none⟩ = some (.int .i64 e) := blk_cell hr 4
  have c5 : w1.cell? ⟨w.heap.size, 5, none⟩ = some (.int .i64 f) := blk_cell hr 5
  have bb1 := bstep b0 b1
  have hlt0 := blk_lt h0
  clear hr h0 b0
  go_wp2_with fail
  refine (sizes _).mono ?_
  rintro e' w2 ⟨rfl, b2⟩
  have hcn : w1.heap.size < (w1.alloc (.cells #[.int .i64 a, .int .i64 b, .int .i64 c, .int .i64 d, .int .i64 e, .int .i64 f] 87)).heap.size := by rw [World.size_alloc]; exact Nat.lt_succ_self _
  have L0 : Lp w w2 W0.heap.size w1.heap.size 0 a b c d e f (fun k => k = W0.heap.size) :=
    ⟨(h1.below ((Below.refl _ _).alloc (Nat.le_refl _) _)).below b2, (b2.block _ hcn).trans (heap_alloc_new _ _), (fun hh => by have := h1.lt _ rfl; omega), (fun k hk => by omega), bstep (bstep bb1 ((Below.refl _ _).alloc (Nat.le_refl _) _)) b2⟩
  have hne : w1.heap.size ≠ W0.heap.size := by have := h1.lt _ rfl; omega
  clear hcn b2 h1 b1 bb1 c0 c1 c2 c3 c4 c5
  generalize W0.heap.size = bb at *
  generalize w1.heap.size = g at *
  go_wp2
  go_loopw [23] (fun i wr => ∃ (k : Nat) (F : Nat → Prop), k ≤ 6 ∧ i = .int .i64 (k : Int) ∧ Lp w wr bb g k a b c d e f F ∧ oks a b c d e f k) (fun i _ => (6 - (intOf i).toNat))
  case atStart => exact ⟨0, _, by decide, rfl, L0, ⟨by intro h; omega, by intro h; omega, by intro h; omega, by intro h; omega, by intro h; omega, by intro h; omega⟩⟩
  case round =>
    clear L0
    obtain ⟨k, F, hk, rfl, HL, hoks⟩ := hrel
    have hkk : k = 0 ∨ k = 1 ∨ k = 2 ∨ k = 3 ∨ k = 4 ∨ k = 5 ∨ k = 6 := by omega
    rcases hkk with rfl | rfl | rfl | rfl | rfl | rfl | rfl
    · have hix : ∀ W, Sem.run Try.prog (Instr.index 87 (.agg #[.int .i64 1, .int .i64 1, .int .i64 2, .int .i64 4, .int .i64 4, .int .i64 4]) (.int .i64 0)) W = .ok (.int .i64 1) W := by intro W; kernel_rfl
      have hcell : wr.cell? ⟨g, 0, none⟩ = some (.int .i64 a) := blk_cell HL.ha 0
      by_cases hneg : a < 0
      · go_wp2
        go_ret2
        exact ⟨by rw [HC.out (by unfold okr; rw [show okf a 1 = false from decide_eq_false (fun h => by omega)]; simp)]; rfl, HL.be⟩
      · have hwr : IntKind.u64.wrap a = a := wrapu64 (by omega) (by have := HB0.out; omega)
        have hnn : 0 ≤ a := by omega
        have hlt : a < 18446744073709551616 := by have := HB0.out; omega
        by_cases hok : okf a 1 = true
        · have hP := put_good F bb (pre a b c d e f 0) a 1 wr HL.hb (by rw [pre_len _ _ _ _ _ _ _ (by decide)]; decide) hnn hlt (okf_code rfl hok)
          rw [pbytes_flat (pre a b c d e f 0) a 1 0 (pre_len _ _ _ _ _ _ 0 (by decide)) (by kernel_rfl)] at hP
          clear hlt
          go_wp2_with fail
          refine hP.mono ?_
          rintro e' w2 ⟨rfl, F2, hb2, m2, g2⟩
          have HL2 : Lp w w2 bb g (0 + 1) a b c d e f F2 := HL.next hb2 m2 g2
          have hoks2 : oks a b c d e f (0 + 1) := by
            obtain ⟨o1, o2, o3, o4, o5, o6⟩ := hoks
            refine ⟨?_, ?_, ?_, ?_, ?_, ?_⟩ <;> first | exact fun _ => hok | (intro _; first | exact o1 (by decide) | exact o2 (by decide) | exact o3 (by decide) | exact o4 (by decide) | exact o5 (by decide)) | (intro hh; exact absurd hh (by decide))
          clear hP hb2 m2 g2 HL hcell
          go_wp2
          go_roundw
          case rel => exact ⟨0 + 1, F2, by decide, rfl, HL2, hoks2⟩
          case measure => decide
        · have hok2 : okf a 1 = false := by simpa using hok
          have hcd : pcode a 1 ≠ 0 := by
            intro hc
            have := (pcode_ok hc)
            exact hok (okf_iff.2 ⟨hnn, this⟩)
          have hP := aput7 F bb (pre a b c d e f 0) a 1 wr HL.hb hnn hlt hcd
          have hcd2 : (pcode a 1 != 0) = true := by simpa using hcd
          generalize pcode a 1 = q at *
          clear hlt hcd
          go_wp2_with fail
          refine hP.mono ?_
          rintro e' w2 ⟨rfl, b2⟩
          go_wp2
          go_ret2
          exact ⟨by rw [HC.out (by unfold okr; rw [hok2]; simp)]; rfl, bstep HL.be b2⟩
    · have hix : ∀ W, Sem.run Try.prog (Instr.index 87 (.agg #[.int .i64 1, .int .i64 1, .int .i64 2, .int .i64 4, .int .i64 4, .int .i64 4]) (.int .i64 1)) W = .ok (.int .i64 1) W := by intro W; kernel_rfl
      have hcell : wr.cell? ⟨g, 1, none⟩ = some (.int .i64 b) := blk_cell HL.ha 1
      by_cases hneg : b < 0
      · go_wp2
        go_ret2
        exact ⟨by rw [HC.out (by unfold okr; rw [show okf b 1 = false from decide_eq_false (fun h => by omega)]; simp)]; rfl, HL.be⟩
      · have hwr : IntKind.u64.wrap b = b := wrapu64 (by omega) (by have := HB1.out; omega)
        have hnn : 0 ≤ b := by omega
        have hlt : b < 18446744073709551616 := by have := HB1.out; omega
        by_cases hok : okf b 1 = true
        · have hP := put_good F bb (pre a b c d e f 1) b 1 wr HL.hb (by rw [pre_len _ _ _ _ _ _ _ (by decide)]; decide) hnn hlt (okf_code rfl hok)
          rw [pbytes_flat (pre a b c d e f 1) b 1 1 (pre_len _ _ _ _ _ _ 1 (by decide)) (by kernel_rfl)] at hP
          clear hlt
          go_wp2_with fail
          refine hP.mono ?_
          rintro e' w2 ⟨rfl, F2, hb2, m2, g2⟩
          have HL2 : Lp w w2 bb g (1 + 1) a b c d e f F2 := HL.next hb2 m2 g2
          have hoks2 : oks a b c d e f (1 + 1) := by
            obtain ⟨o1, o2, o3, o4, o5, o6⟩ := hoks
            refine ⟨?_, ?_, ?_, ?_, ?_, ?_⟩ <;> first | exact fun _ => hok | (intro _; first | exact o1 (by decide) | exact o2 (by decide) | exact o3 (by decide) | exact o4 (by decide) | exact o5 (by decide)) | (intro hh; exact absurd hh (by decide))
          clear hP hb2 m2 g2 HL hcell
          go_wp2
          go_roundw
          case rel => exact ⟨1 + 1, F2, by decide, rfl, HL2, hoks2⟩
          case measure => decide
        · have hok2 : okf b 1 = false := by simpa using hok
          have hcd : pcode b 1 ≠ 0 := by
            intro hc
            have := (pcode_ok hc)
            exact hok (okf_iff.2 ⟨hnn, this⟩)
          have hP := aput7 F bb (pre a b c d e f 1) b 1 wr HL.hb hnn hlt hcd
          have hcd2 : (pcode b 1 != 0) = true := by simpa using hcd
          generalize pcode b 1 = q at *
          clear hlt hcd
          go_wp2_with fail
          refine hP.mono ?_
          rintro e' w2 ⟨rfl, b2⟩
          go_wp2
          go_ret2
          exact ⟨by rw [HC.out (by unfold okr; rw [hok2]; simp)]; rfl, bstep HL.be b2⟩
    · have hix : ∀ W, Sem.run Try.prog (Instr.index 87 (.agg #[.int .i64 1, .int .i64 1, .int .i64 2, .int .i64 4, .int .i64 4, .int .i64 4]) (.int .i64 2)) W = .ok (.int .i64 2) W := by intro W; kernel_rfl
      have hcell : wr.cell? ⟨g, 2, none⟩ = some (.int .i64 c) := blk_cell HL.ha 2
      by_cases hneg : c < 0
      · go_wp2
        go_ret2
        exact ⟨by rw [HC.out (by unfold okr; rw [show okf c 2 = false from decide_eq_false (fun h => by omega)]; simp)]; rfl, HL.be⟩
      · have hwr : IntKind.u64.wrap c = c := wrapu64 (by omega) (by have := HB2.out; omega)
        have hnn : 0 ≤ c := by omega
        have hlt : c < 18446744073709551616 := by have := HB2.out; omega
        by_cases hok : okf c 2 = true
        · have hP := put_good F bb (pre a b c d e f 2) c 2 wr HL.hb (by rw [pre_len _ _ _ _ _ _ _ (by decide)]; decide) hnn hlt (okf_code rfl hok)
          rw [pbytes_flat (pre a b c d e f 2) c 2 2 (pre_len _ _ _ _ _ _ 2 (by decide)) (by kernel_rfl)] at hP
          clear hlt
          go_wp2_with fail
          refine hP.mono ?_
          rintro e' w2 ⟨rfl, F2, hb2, m2, g2⟩
          have HL2 : Lp w w2 bb g (2 + 1) a b c d e f F2 := HL.next hb2 m2 g2
          have hoks2 : oks a b c d e f (2 + 1) := by
            obtain ⟨o1, o2, o3, o4, o5, o6⟩ := hoks
            refine ⟨?_, ?_, ?_, ?_, ?_, ?_⟩ <;> first | exact fun _ => hok | (intro _; first | exact o1 (by decide) | exact o2 (by decide) | exact o3 (by decide) | exact o4 (by decide) | exact o5 (by decide)) | (intro hh; exact absurd hh (by decide))
          clear hP hb2 m2 g2 HL hcell
          go_wp2
          go_roundw
          case rel => exact ⟨2 + 1, F2, by decide, rfl, HL2, hoks2⟩
          case measure => decide
        · have hok2 : okf c 2 = false := by simpa using hok
          have hcd : pcode c 2 ≠ 0 := by
            intro hc
            have := (pcode_ok hc)
            exact hok (okf_iff.2 ⟨hnn, this⟩)
          have hP := aput7 F bb (pre a b c d e f 2) c 2 wr HL.hb hnn hlt hcd
          have hcd2 : (pcode c 2 != 0) = true := by simpa using hcd
          generalize pcode c 2 = q at *
          clear hlt hcd
          go_wp2_with fail
          refine hP.mono ?_
          rintro e' w2 ⟨rfl, b2⟩
          go_wp2
          go_ret2
          exact ⟨by rw [HC.out (by unfold okr; rw [hok2]; simp)]; rfl, bstep HL.be b2⟩
    · have hix : ∀ W, Sem.run Try.prog (Instr.index 87 (.agg #[.int .i64 1, .int .i64 1, .int .i64 2, .int .i64 4, .int .i64 4, .int .i64 4]) (.int .i64 3)) W = .ok (.int .i64 4) W := by intro W; kernel_rfl
      have hcell : wr.cell? ⟨g, 3, none⟩ = some (.int .i64 d) := blk_cell HL.ha 3
      by_cases hneg : d < 0
      · go_wp2
        go_ret2
        exact ⟨by rw [HC.out (by unfold okr; rw [show okf d 4 = false from decide_eq_false (fun h => by omega)]; simp)]; rfl, HL.be⟩
      · have hwr : IntKind.u64.wrap d = d := wrapu64 (by omega) (by have := HB3.out; omega)
        have hnn : 0 ≤ d := by omega
        have hlt : d < 18446744073709551616 := by have := HB3.out; omega
        by_cases hok : okf d 4 = true
        · have hP := put_good F bb (pre a b c d e f 3) d 4 wr HL.hb (by rw [pre_len _ _ _ _ _ _ _ (by decide)]; decide) hnn hlt (okf_code rfl hok)
          rw [pbytes_flat (pre a b c d e f 3) d 4 4 (pre_len _ _ _ _ _ _ 3 (by decide)) (by kernel_rfl)] at hP
          clear hlt
          go_wp2_with fail
          refine hP.mono ?_
          rintro e' w2 ⟨rfl, F2, hb2, m2, g2⟩
          have HL2 : Lp w w2 bb g (3 + 1) a b c d e f F2 := HL.next hb2 m2 g2
          have hoks2 : oks a b c d e f (3 + 1) := by
            obtain ⟨o1, o2, o3, o4, o5, o6⟩ := hoks
            refine ⟨?_, ?_, ?_, ?_, ?_, ?_⟩ <;> first | exact fun _ => hok | (intro _; first | exact o1 (by decide) | exact o2 (by decide) | exact o3 (by decide) | exact o4 (by decide) | exact o5 (by decide)) | (intro hh; exact absurd hh (by decide))
          clear hP hb2 m2 g2 HL hcell
          go_wp2
          go_roundw
          case rel => exact ⟨3 + 1, F2, by decide, rfl, HL2, hoks2⟩
          case measure => decide
        · have hok2 : okf d 4 = false := by simpa using hok
          have hcd : pcode d 4 ≠ 0 := by
            intro hc
            have := (pcode_ok hc)
            exact hok (okf_iff.2 ⟨hnn, this⟩)
          have hP := aput7 F bb (pre a b c d e f 3) d 4 wr HL.hb hnn hlt hcd
          have hcd2 : (pcode d 4 != 0) = true := by simpa using hcd
          generalize pcode d 4 = q at *
          clear hlt hcd
          go_wp2_with fail
          refine hP.mono ?_
          rintro e' w2 ⟨rfl, b2⟩
          go_wp2
          go_ret2
          exact ⟨by rw [HC.out (by unfold okr; rw [hok2]; simp)]; rfl, bstep HL.be b2⟩
    · have hix : ∀ W, Sem.run Try.prog (Instr.index 87 (.agg #[.int .i64 1, .int .i64 1, .int .i64 2, .int .i64 4, .int .i64 4, .int .i64 4]) (.int .i64 4)) W = .ok (.int .i64 4) W := by intro W; kernel_rfl
      have hcell : wr.cell? ⟨g, 4, none⟩ = some (.int .i64 e) := blk_cell HL.ha 4
      by_cases hneg : e < 0
      · go_wp2
        go_ret2
        exact ⟨by rw [HC.out (by unfold okr; rw [show okf e 4 = false from decide_eq_false (fun h => by omega)]; simp)]; rfl, HL.be⟩
      · have hwr : IntKind.u64.wrap e = e := wrapu64 (by omega) (by have := HB4.out; omega)
        have hnn : 0 ≤ e := by omega
        have hlt : e < 18446744073709551616 := by have := HB4.out; omega
        by_cases hok : okf e 4 = true
        · have hP := put_good F bb (pre a b c d e f 4) e 4 wr HL.hb (by rw [pre_len _ _ _ _ _ _ _ (by decide)]; decide) hnn hlt (okf_code rfl hok)
          rw [pbytes_flat (pre a b c d e f 4) e 4 8 (pre_len _ _ _ _ _ _ 4 (by decide)) (by kernel_rfl)] at hP
          clear hlt
          go_wp2_with fail
          refine hP.mono ?_
          rintro e' w2 ⟨rfl, F2, hb2, m2, g2⟩
          have HL2 : Lp w w2 bb g (4 + 1) a b c d e f F2 := HL.next hb2 m2 g2
          have hoks2 : oks a b c d e f (4 + 1) := by
            obtain ⟨o1, o2, o3, o4, o5, o6⟩ := hoks
            refine ⟨?_, ?_, ?_, ?_, ?_, ?_⟩ <;> first | exact fun _ => hok | (intro _; first | exact o1 (by decide) | exact o2 (by decide) | exact o3 (by decide) | exact o4 (by decide) | exact o5 (by decide)) | (intro hh; exact absurd hh (by decide))
          clear hP hb2 m2 g2 HL hcell
          go_wp2
          go_roundw
          case rel => exact ⟨4 + 1, F2, by decide, rfl, HL2, hoks2⟩
          case measure => decide
        · have hok2 : okf e 4 = false := by simpa using hok
          have hcd : pcode e 4 ≠ 0 := by
            intro hc
            have := (pcode_ok hc)
            exact hok (okf_iff.2 ⟨hnn, this⟩)
          have hP := aput7 F bb (pre a b c d e f 4) e 4 wr HL.hb hnn hlt hcd
          have hcd2 : (pcode e 4 != 0) = true := by simpa using hcd
          generalize pcode e 4 = q at *
          clear hlt hcd
          go_wp2_with fail
          refine hP.mono ?_
          rintro e' w2 ⟨rfl, b2⟩
          go_wp2
          go_ret2
          exact ⟨by rw [HC.out (by unfold okr; rw [hok2]; simp)]; rfl, bstep HL.be b2⟩
    · have hix : ∀ W, Sem.run Try.prog (Instr.index 87 (.agg #[.int .i64 1, .int .i64 1, .int .i64 2, .int .i64 4, .int .i64 4, .int .i64 4]) (.int .i64 5)) W = .ok (.int .i64 4) W := by intro W; kernel_rfl
      have hcell : wr.cell? ⟨g, 5, none⟩ = some (.int .i64 f) := blk_cell HL.ha 5
      by_cases hneg : f < 0
      · go_wp2
        go_ret2
        exact ⟨by rw [HC.out (by unfold okr; rw [show okf f 4 = false from decide_eq_false (fun h => by omega)]; simp)]; rfl, HL.be⟩
      · have hwr : IntKind.u64.wrap f = f := wrapu64 (by omega) (by have := HB5.out; omega)
        have hnn : 0 ≤ f := by omega
        have hlt : f < 18446744073709551616 := by have := HB5.out; omega
        by_cases hok : okf f 4 = true
        · have hP := put_good F bb (pre a b c d e f 5) f 4 wr HL.hb (by rw [pre_len _ _ _ _ _ _ _ (by decide)]; decide) hnn hlt (okf_code rfl hok)
          rw [pbytes_flat (pre a b c d e f 5) f 4 12 (pre_len _ _ _ _ _ _ 5 (by decide)) (by kernel_rfl)] at hP
          clear hlt
          go_wp2_with fail
          refine hP.mono ?_
          rintro e' w2 ⟨rfl, F2, hb2, m2, g2⟩
          have HL2 : Lp w w2 bb g (5 + 1) a b c d e f F2 := HL.next hb2 m2 g2
          have hoks2 : oks a b c d e f (5 + 1) := by
            obtain ⟨o1, o2, o3, o4, o5, o6⟩ := hoks
            refine ⟨?_, ?_, ?_, ?_, ?_, ?_⟩ <;> first | exact fun _ => hok | (intro _; first | exact o1 (by decide) | exact o2 (by decide) | exact o3 (by decide) | exact o4 (by decide) | exact o5 (by decide)) | (intro hh; exact absurd hh (by decide))
          clear hP hb2 m2 g2 HL hcell
          go_wp2
          go_roundw
          case rel => exact ⟨5 + 1, F2, by decide, rfl, HL2, hoks2⟩
          case measure => decide
        · have hok2 : okf f 4 = false := by simpa using hok
          have hcd : pcode f 4 ≠ 0 := by
            intro hc
            have := (pcode_ok hc)
            exact hok (okf_iff.2 ⟨hnn, this⟩)
          have hP := aput7 F bb (pre a b c d e f 5) f 4 wr HL.hb hnn hlt hcd
          have hcd2 : (pcode f 4 != 0) = true := by simpa using hcd
          generalize pcode f 4 = q at *
          clear hlt hcd
          go_wp2_with fail
          refine hP.mono ?_
          rintro e' w2 ⟨rfl, b2⟩
          go_wp2
          go_ret2
          exact ⟨by rw [HC.out (by unfold okr; rw [hok2]; simp)]; rfl, bstep HL.be b2⟩
    · have HH := Lib.hid (HD.out (oks_all hoks))
      have hP := Buf.bytes F bb (pre a b c d e f 6) wr HL.hb
      rw [pre_all] at hP
      have hbe := HL.be
      have hfF := HL.fF
      clear hoks HC HD HL
      go_wp2_with fail
      refine hP.mono ?_
      rintro e' w3 ⟨rfl, _, m3⟩
      go_wp2
      go_ret2
      exact ⟨by rw [HH.out]; rfl, m3.below hbe hbe.size hfF⟩
end Go.Proofs.Ytehojcocnndniaa.Call
namespace Go.Proofs.Ytehojcocnndniaa.Call
open Go.RowKit Base Sp Flat Go.Proofs.YtehojcocnndniaaW.PrintWords Go.Proofs.YtehojcocnndniaaW.PrintLast Go.Proofs.YtehojcocnndniaaW.PrintMore Wd Al Buf Cur
def six (a b c d e f : Int) : Array Value := #[.int .i64 a, .int .i64 b, .int .i64 c, .int .i64 d, .int .i64 e, .int .i64 f]
theorem rset {w : World} {p : Nat} {old : Array Value} {t : TypeId} (h : w.heap[p]? = some (.cells old t (0, 0))) (a b c d e f : Int) :
    (w.setRow p (six a b c d e f)).cell? ⟨p, 0, none⟩ = some (.int .i64 a) ∧
    (w.setRow p (six a b c d e f)).cell? ⟨p, 1, none⟩ = some (.int .i64 b) ∧
    (w.setRow p (six a b c d e f)).cell? ⟨p, 2, none⟩ = some (.int .i64 c) ∧
    (w.setRow p (six a b c d e f)).cell? ⟨p, 3, none⟩ = some (.int .i64 d) ∧
    (w.setRow p (six a b c d e f)).cell? ⟨p, 4, none⟩ = some (.int .i64 e) ∧
    (w.setRow p (six a b c d e f)).cell? ⟨p, 5, none⟩ = some (.int .i64 f) := by
  have hq := setRow_heap w p old (six a b c d e f) t (0, 0) h
  exact ⟨blk_cell hq 0, blk_cell hq 1, blk_cell hq 2, blk_cell hq 3, blk_cell hq 4, blk_cell hq 5⟩
theorem rbel {w0 w : World} {B p : Nat} (hb : Below B w0 w) (hp : B ≤ p) (v : Array Value) : Below B w0 (w.setRow p v) :=
  ⟨hb.os, hb.tape, hb.output, by simpa using hb.size, fun k hk => (setRow_other _ _ _ _ (by omega)).trans (hb.block k hk)⟩
/-- A field of what Take answers. -/
def tf (b : ByteArray) (a s : Int) : Int := if tcode b = 0 then cv b a s else 0
def offk : Nat → Nat
  | 0 => 0
  | 1 => 1
  | 2 => 2
  | 3 => 4
  | 4 => 8
  | 5 => 12
  | _ => 16
def tcl (b : ByteArray) : Nat → Array Value
  | 0 => #[.int .i64 0, .int .i64 0, .int .i64 0, .int .i64 0, .int .i64 0, .int .i64 0]
  | 1 => #[.int .i64 (cv b 0 1), .int .i64 0, .int .i64 0, .int .i64 0, .int .i64 0, .int .i64 0]
  | 2 => #[.int .i64 (cv b 0 1), .int .i64 (cv b 1 1), .int .i64 0, .int .i64 0, .int .i64 0, .int .i64 0]
  | 3 => #[.int .i64 (cv b 0 1), .int .i64 (cv b 1 1), .int .i64 (cv b 2 2), .int .i64 0, .int .i64 0, .int .i64 0]
  | 4 => #[.int .i64 (cv b 0 1), .int .i64 (cv b 1 1), .int .i64 (cv b 2 2), .int .i64 (cv b 4 4), .int .i64 0, .int .i64 0]
  | 5 => #[.int .i64 (cv b 0 1), .int .i64 (cv b 1 1), .int .i64 (cv b 2 2), .int .i64 (cv b 4 4), .int .i64 (cv b 8 4), .int .i64 0]
  | _ => #[.int .i64 (cv b 0 1), .int .i64 (cv b 1 1), .int .i64 (cv b 2 2), .int .i64 (cv b 4 4), .int .i64 (cv b 8 4), .int .i64 (cv b 12 4)]
/-- What is known in the loop of Take. -/
structure Tp (w0 w : World) (cb g k : Nat) (b : ByteArray) : Prop where
  hc : CB w cb (offk k) b 0
  hg : w.heap[g]? = some (.cells (tcl b k) 87 (0, 0))
  hr : w.heap[w0.heap.size]? = some (.cells #[.int .i64 0, .int .i64 0, .int .i64 0, .int .i64 0, .int .i64 0, .int .i64 0] 40 (0, 0))
  be : Below w0.heap.size w0 w
structure Ne (w0 : World) (cb g : Nat) : Prop where
  h1 : w0.heap.size < cb
  h2 : cb < g
theorem cv_small (b : ByteArray) (a s : Int) (hs : s.toNat ≤ 4) : 0 ≤ cv b a s ∧ cv b a s < 4294967296 := by
  have := cv_range b a s
  have h4 : (256 : Int) ^ s.toNat ≤ 4294967296 := by
    have : s.toNat = 0 ∨ s.toNat = 1 ∨ s.toNat = 2 ∨ s.toNat = 3 ∨ s.toNat = 4 := by omega
    rcases this with h | h | h | h | h <;> rw [h] <;> decide
  omega
set_option maxRecDepth 20000 in
set_option maxHeartbeats 4000000 in
theorem take (b : ByteArray) (w : World) :
    Calls Try.prog 22 #[.string b] w fun e' w' => e' = .returned (.tuple #[.agg #[.int .i64 (tf b 0 1), .int .i64 (tf b 1 1), .int .i64 (tf b 2 2), .int .i64 (tf b 4 4), .int .i64 (tf b 8 4), .int .i64 (tf b 12 4)], .int .i64 (tcode b)]) ∧ Below w.heap.size w w' := by
  have h0 : (w.alloc (.cells #[.int .i64 0, .int .i64 0, .int .i64 0, .int .i64 0, .int .i64 0, .int .i64 0] 40)).heap[w.heap.size]? = some (.cells #[.int .i64 0, .int .i64 0, .int .i64 0, .int .i64 0, .int .i64 0, .int .i64 0] 40 (0, 0)) := heap_alloc_new _ _
  have b0 : Below w.heap.size w (w.alloc (.cells #[.int .i64 0, .int .i64 0, .int .i64 0, .int .i64 0, .int .i64 0, .int .i64 0] 40)) := (Below.refl _ _).alloc (Nat.le_refl _) _
  have HG := Lib.hid h0
  by_cases h16 : b.size = 16
  · have HZ := Lib.hid h16
    have hz : ((b.size : Int) == 16) = true := by rw [h16]; rfl
    have hzn : (b.size : Int) = 16 := by rw [h16]; rfl
    clear h16
    go_enter Try.func22, Try.ntmps22
    go_wp2_with fail
    obtain ⟨W0, hW0⟩ : ∃ W0, W0 = w.alloc (.cells #[.int .i64 0, .int .i64 0, .int .i64 0, .int .i64 0, .int .i64 0, .int .i64 0] 40) := ⟨_, rfl⟩
    rw [← hW0] at h0 b0 ⊢
    clear hW0 HG
    refine (read b W0).mono ?_
    rintro e' w1 ⟨rfl, c1, b1⟩
    have h1 := (b1.block w.heap.size (blk_lt h0)).trans h0
    have bb1 := bstep b0 b1
    have HN : Ne w W0.heap.size w1.heap.size := ⟨blk_lt h0, c1.lt⟩
    clear h0 b0 b1
    go_wp2_with fail
    refine (sizes _).mono ?_
    rintro e' w2 ⟨rfl, b2⟩
    have hcn : w1.heap.size < (w1.alloc (.cells #[.int .i64 0, .int .i64 0, .int .i64 0, .int .i64 0, .int .i64 0, .int .i64 0] 87)).heap.size := by rw [World.size_alloc]; exact Nat.lt_succ_self _
    have b3 : Below w1.heap.size w1 w2 := ((Below.refl _ _).alloc (Nat.le_refl _) _).trans (b2.mono (Nat.le_of_lt hcn))
    have T0 : Tp w w2 W0.heap.size w1.heap.size 0 b :=
      ⟨c1.below b3, (b2.block _ hcn).trans (heap_alloc_new _ _), (b3.block _ (blk_lt h1)).trans h1, bstep bb1 b3⟩
    clear c1 h1 bb1 b2 b3 hcn hz hzn
    generalize W0.heap.size = cb at *
    generalize w1.heap.size = g at *
    go_wp2
    go_loopw [15] (fun i wr => ∃ (k : Nat), k ≤ 6 ∧ i = .int .i64 (k : Int) ∧ Tp w wr cb g k b) (fun i _ => (6 - (intOf i).toNat))
    case atStart => exact ⟨0, by decide, rfl, T0⟩
    case round =>
      clear T0
      obtain ⟨k, hk, rfl, HT⟩ := hrel
      have hkk : k = 0 ∨ k = 1 ∨ k = 2 ∨ k = 3 ∨ k = 4 ∨ k = 5 ∨ k = 6 := by omega
      rcases hkk with rfl | rfl | rfl | rfl | rfl | rfl | rfl
      · have hix : ∀ W, Sem.run Try.prog (Instr.index 87 (.agg #[.int .i64 1, .int .i64 1, .int .i64 2, .int .i64 4, .int .i64 4, .int .i64 4]) (.int .i64 0)) W = .ok (.int .i64 1) W := by intro W; kernel_rfl
        have hr := ctake_flat b 0 1 rfl (by kernel_rfl) (by rw [HZ.out]; decide)
        have hwv : wrap64 (cv b 0 1) = cv b 0 1 := by have := cv_small b 0 1 (by decide); unfold wrap64; omega
        have hP := take_at cb 0 b 0 1 wr HT.hc (by have := HZ.out; omega) (by have := HZ.out; omega) hr
        clear hr
        have HT1 := HT.hg
        have HT2 := HT.hr
        have HT3 := HT.be
        clear HT
        go_wp2_with fail
        refine hP.mono ?_
        rintro e' w2 ⟨rfl, hc2, m2⟩
        have hg2 := (m2.block g (blk_lt HT1) (fun h => by have := HN.h2; have h' : g = cb := h; omega)).trans HT1
        have hr2 := (m2.block w.heap.size (blk_lt HT2) (fun h => by have := HN.h1; have h' : w.heap.size = cb := h; omega)).trans HT2
        have hb2 := m2.below HT3 HT3.size (fun k hk => by have := HN.h1; have h' : k = cb := hk; omega)
        have hcell : w2.cell? ⟨g, 0, none⟩ = some (.int .i64 0) := blk_cell hg2 0
        have hfz : w2.frozen? ⟨g, 0, none⟩ = false := blk_frozen hg2 0
        clear HT1 HT2 HT3 hP m2
        go_wp2
        try rw [hwv]
        go_roundw
        case rel =>
          refine ⟨0 + 1, by decide, rfl, ?_, blk_set hg2 0 (.int .i64 (cv b 0 1)), ?_, ?_⟩
          · exact hc2.far ((Mod.refl (fun k => k = g) w2).set (.inl rfl) _) (fun h => by have := HN.h2; have h' : cb = g := h; omega)
          · have := hr2; exact (((Mod.refl (fun k => k = g) w2).set (p := ⟨g, 0, none⟩) (.inl rfl) _).block _ (blk_lt hr2) (fun h => by have := HN.h1; have := HN.h2; have h' : w.heap.size = g := h; omega)).trans hr2
          · exact hb2.setCell (by have := HN.h1; have := HN.h2; show w.heap.size ≤ g; omega) _
        case measure => decide
      · have hix : ∀ W, Sem.run Try.prog (Instr.index 87 (.agg #[.int .i64 1, .int .i64 1, .int .i64 2, .int .i64 4, .int .i64 4, .int .i64 4]) (.int .i64 1)) W = .ok (.int .i64 1) W := by intro W; kernel_rfl
        have hr := ctake_flat b 1 1 rfl (by kernel_rfl) (by rw [HZ.out]; decide)
        have hwv : wrap64 (cv b 1 1) = cv b 1 1 := by have := cv_small b 1 1 (by decide); unfold wrap64; omega
        have hP := take_at cb 1 b 0 1 wr HT.hc (by have := HZ.out; omega) (by have := HZ.out; omega) hr
        clear hr
        have HT1 := HT.hg
        have HT2 := HT.hr
        have HT3 := HT.be
        clear HT
        go_wp2_with fail
        refine hP.mono ?_
        rintro e' w2 ⟨rfl, hc2, m2⟩
        have hg2 := (m2.block g (blk_lt HT1) (fun h => by have := HN.h2; have h' : g = cb := h; omega)).trans HT1
        have hr2 := (m2.block w.heap.size (blk_lt HT2) (fun h => by have := HN.h1; have h' : w.heap.size = cb := h; omega)).trans HT2
        have hb2 := m2.below HT3 HT3.size (fun k hk => by have := HN.h1; have h' : k = cb := hk; omega)
        have hcell : w2.cell? ⟨g, 1, none⟩ = some (.int .i64 0) := blk_cell hg2 1
        have hfz : w2.frozen? ⟨g, 1, none⟩ = false := blk_frozen hg2 1
        clear HT1 HT2 HT3 hP m2
        go_wp2
        try rw [hwv]
        go_roundw
        case rel =>
          refine ⟨1 + 1, by decide, rfl, ?_, blk_set hg2 1 (.int .i64 (cv b 1 1)), ?_, ?_⟩
          · exact hc2.far ((Mod.refl (fun k => k = g) w2).set (.inl rfl) _) (fun h => by have := HN.h2; have h' : cb = g := h; omega)
          · have := hr2; exact (((Mod.refl (fun k => k = g) w2).set (p := ⟨g, 1, none⟩) (.inl rfl) _).block _ (blk_lt hr2) (fun h => by have := HN.h1; have := HN.h2; have h' : w.heap.size = g := h; omega)).trans hr2
          · exact hb2.setCell (by have := HN.h1; have := HN.h2; show w.heap.size ≤ g; omega) _
        case measure => decide
      · have hix : ∀ W, Sem.run Try.prog (Instr.index 87 (.agg #[.int .i64 1, .int .i64 1, .int .i64 2, .int .i64 4, .int .i64 4, .int .i64 4]) (.int .i64 2)) W = .ok (.int .i64 2) W := by intro W; kernel_rfl
        have hr := ctake_flat b 2 2 rfl (by kernel_rfl) (by rw [HZ.out]; decide)
        have hwv : wrap64 (cv b 2 2) = cv b 2 2 := by have := cv_small b 2 2 (by decide); unfold wrap64; omega
        have hP := take_at cb 2 b 0 2 wr HT.hc (by have := HZ.out; omega) (by have := HZ.out; omega) hr
        clear hr
        have HT1 := HT.hg
        have HT2 := HT.hr
        have HT3 := HT.be
        clear HT
        go_wp2_with fail
        refine hP.mono ?_
        rintro e' w2 ⟨rfl, hc2, m2⟩
        have hg2 := (m2.block g (blk_lt HT1) (fun h => by have := HN.h2; have h' : g = cb := h; omega)).trans HT1
        have hr2 := (m2.block w.heap.size (blk_lt HT2) (fun h => by have := HN.h1; have h' : w.heap.size = cb := h; omega)).trans HT2
        have hb2 := m2.below HT3 HT3.size (fun k hk => by have := HN.h1; have h' : k = cb := hk; omega)
        have hcell : w2.cell? ⟨g, 2, none⟩ = some (.int .i64 0) := blk_cell hg2 2
        have hfz : w2.frozen? ⟨g, 2, none⟩ = false := blk_frozen hg2 2
        clear HT1 HT2 HT3 hP m2
        go_wp2
        try rw [hwv]
        go_roundw
        case rel =>
          refine ⟨2 + 1, by decide, rfl, ?_, blk_set hg2 2 (.int .i64 (cv b 2 2)), ?_, ?_⟩
          · exact hc2.far ((Mod.refl (fun k => k = g) w2).set (.inl rfl) _) (fun h => by have := HN.h2; have h' : cb = g := h; omega)
          · have := hr2; exact (((Mod.refl (fun k => k = g) w2).set (p := ⟨g, 2, none⟩) (.inl rfl) _).block _ (blk_lt hr2) (fun h => by have := HN.h1; have := HN.h2; have h' : w.heap.size = g := h; omega)).trans hr2
          · exact hb2.setCell (by have := HN.h1; have := HN.h2; show w.heap.size ≤ g; omega) _
        case measure => decide
      · have hix : ∀ W, Sem.run Try.prog (Instr.index 87 (.agg #[.int .i64 1, .int .i64 1, .int .i64 2, .int .i64 4, .int .i64 4, .int .i64 4]) (.int .i64 3)) W = .ok (.int .i64 4) W := by intro W; kernel_rfl
        have hr := ctake_flat b 4 4 rfl (by kernel_rfl) (by rw [HZ.out]; decide)
        have hwv : wrap64 (cv b 4 4) = cv b 4 4 := by have := cv_small b 4 4 (by decide); unfold wrap64; omega
        have hP := take_at cb 4 b 0 4 wr HT.hc (by have := HZ.out; omega) (by have := HZ.out; omega) hr
        clear hr
        have HT1 := HT.hg
        have HT2 := HT.hr
        have HT3 := HT.be
        clear HT
        go_wp2_with fail
        refine hP.mono ?_
        rintro e' w2 ⟨rfl, hc2, m2⟩
        have hg2 := (m2.block g (blk_lt HT1) (fun h => by have := HN.h2; have h' : g = cb := h; omega)).trans HT1
        have hr2 := (m2.block w.heap.size (blk_lt HT2) (fun h => by have := HN.h1; have h' : w.heap.size = cb := h; omega)).trans HT2
        have hb2 := m2.below HT3 HT3.size (fun k hk => by have := HN.h1; have h' : k = cb := hk; omega)
        have hcell : w2.cell? ⟨g, 3, none⟩ = some (.int .i64 0) := blk_cell hg2 3
        have hfz : w2.frozen? ⟨g, 3, none⟩ = false := blk_frozen hg2 3
        clear HT1 HT2 HT3 hP m2
        go_wp2
        try rw [hwv]
        go_roundw
        case rel =>
          refine ⟨3 + 1, by decide, rfl, ?_, blk_set hg2 3 (.int .i64 (cv b 4 4)), ?_, ?_⟩
          · exact hc2.far ((Mod.refl (fun k => k = g) w2).set (.inl rfl) _) (fun h => by have := HN.h2; have h' : cb = g := h; omega)
          · have := hr2; exact (((Mod.refl (fun k => k = g) w2).set (p := ⟨g, 3, none⟩) (.inl rfl) _).block _ (blk_lt hr2) (fun h => by have := HN.h1; have := HN.h2; have h' : w.heap.size = g := h; omega)).trans hr2
          · exact hb2.setCell (by have := HN.h1; have := HN.h2; show w.heap.size ≤ g; omega) _
        case measure => decide
      · have hix : ∀ W, Sem.run Try.prog (Instr.index 87 (.agg #[.int .i64 1, .int .i64 1, .int .i64 2, .int .i64 4, .int .i64 4, .int .i64 4]) (.int .i64 4)) W = .ok (.int .i64 4) W := by intro W; kernel_rfl
        have hr := ctake_flat b 8 4 rfl (by kernel_rfl) (by rw [HZ.out]; decide)
        have hwv : wrap64 (cv b 8 4) = cv b 8 4 := by have := cv_small b 8 4 (by decide); unfold wrap64; omega
        have hP := take_at cb 8 b 0 4 wr HT.hc (by have := HZ.out; omega) (by have := HZ.out; omega) hr
        clear hr
        have HT1 := HT.hg
        have HT2 := HT.hr
        have HT3 := HT.be
        clear HT
        go_wp2_with fail
        refine hP.mono ?_
        rintro e' w2 ⟨rfl, hc2, m2⟩
        have hg2 := (m2.block g (blk_lt HT1) (fun h => by have := HN.h2; have h' : g = cb := h; omega)).trans HT1
        have hr2 := (m2.block w.heap.size (blk_lt HT2) (fun h => by have := HN.h1; have h' : w.heap.size = cb := h; omega)).trans HT2
        have hb2 := m2.below HT3 HT3.size (fun k hk => by have := HN.h1; have h' : k = cb := hk; omega)
        have hcell : w2.cell? ⟨g, 4, none⟩ = some (.int .i64 0) := blk_cell hg2 4
        have hfz : w2.frozen? ⟨g, 4, none⟩ = false := blk_frozen hg2 4
        clear HT1 HT2 HT3 hP m2
        go_wp2
        try rw [hwv]
        go_roundw
        case rel =>
          refine ⟨4 + 1, by decide, rfl, ?_, blk_set hg2 4 (.int .i64 (cv b 8 4)), ?_, ?_⟩
          · exact hc2.far ((Mod.refl (fun k => k = g) w2).set (.inl rfl) _) (fun h => by have := HN.h2; have h' : cb = g := h; omega)
          · have := hr2; exact (((Mod.refl (fun k => k = g) w2).set (p := ⟨g, 4, none⟩) (.inl rfl) _).block _ (blk_lt hr2) (fun h => by have := HN.h1; have := HN.h2; have h' : w.heap.size = g := h; omega)).trans hr2
          · exact hb2.setCell (by have := HN.h1; have := HN.h2; show w.heap.size ≤ g; omega) _
        case measure => decide
      · have hix : ∀ W, Sem.run Try.prog (Instr.index 87 (.agg #[.int .i64 1, .int .i64 1, .int .i64 2, .int .i64 4, .int .i64 4, .int .i64 4]) (.int .i64 5)) W = .ok (.int .i64 4) W := by intro W; kernel_rfl
        have hr := ctake_flat b 12 4 rfl (by kernel_rfl) (by rw [HZ.out]; decide)
        have hwv : wrap64 (cv b 12 4) = cv b 12 4 := by have := cv_small b 12 4 (by decide); unfold wrap64; omega
        have hP := take_at cb 12 b 0 4 wr HT.hc (by have := HZ.out; omega) (by have := HZ.out; omega) hr
        clear hr
        have HT1 := HT.hg
        have HT2 := HT.hr
        have HT3 := HT.be
        clear HT
        go_wp2_with fail
        refine hP.mono ?_
        rintro e' w2 ⟨rfl, hc2, m2⟩
        have hg2 := (m2.block g (blk_lt HT1) (fun h => by have := HN.h2; have h' : g = cb := h; omega)).trans HT1
        have hr2 := (m2.block w.heap.size (blk_lt HT2) (fun h => by have := HN.h1; have h' : w.heap.size = cb := h; omega)).trans HT2
        have hb2 := m2.below HT3 HT3.size (fun k hk => by have := HN.h1; have h' : k = cb := hk; omega)
        have hcell : w2.cell? ⟨g, 5, none⟩ = some (.int .i64 0) := blk_cell hg2 5
        have hfz : w2.frozen? ⟨g, 5, none⟩ = false := blk_frozen hg2 5
        clear HT1 HT2 HT3 hP m2
        go_wp2
        try rw [hwv]
        go_roundw
        case rel =>
          refine ⟨5 + 1, by decide, rfl, ?_, blk_set hg2 5 (.int .i64 (cv b 12 4)), ?_, ?_⟩
          · exact hc2.far ((Mod.refl (fun k => k = g) w2).set (.inl rfl) _) (fun h => by have := HN.h2; have h' : cb = g := h; omega)
          · have := hr2; exact (((Mod.refl (fun k => k = g) w2).set (p := ⟨g, 5, none⟩) (.inl rfl) _).block _ (blk_lt hr2) (fun h => by have := HN.h1; have := HN.h2; have h' : w.heap.size = g := h; omega)).trans hr2
          · exact hb2.setCell (by have := HN.h1; have := HN.h2; show w.heap.size ≤ g; omega) _
        case measure => decide
      · skip
        have d0 : wr.cell? ⟨g, 0, none⟩ = some (.int .i64 (cv b 0 1)) := blk_cell HT.hg 0
        have d1 : wr.cell? ⟨g, 1, none⟩ = some (.int .i64 (cv b 1 1)) := blk_cell HT.hg 1
        have d2 : wr.cell? ⟨g, 2, none⟩ = some (.int .i64 (cv b 2 2)) := blk_cell HT.hg 2
        have d3 : wr.cell? ⟨g, 3, none⟩ = some (.int .i64 (cv b 4 4)) := blk_cell HT.hg 3
        have d4 : wr.cell? ⟨g, 4, none⟩ = some (.int .i64 (cv b 8 4)) := blk_cell HT.hg 4
        have d5 : wr.cell? ⟨g, 5, none⟩ = some (.int .i64 (cv b 12 4)) := blk_cell HT.hg 5
        by_cases q1 : cv b 0 1 < 1
        · have HC : Hid (tcode b = 4) := Lib.hid (by unfold tcode; rw [if_pos HZ.out, if_neg (by omega)])
          have HV : Hid (∀ a s, tf b a s = 0) := Lib.hid (fun a s => by unfold tf; rw [HC.out]; rfl)
          obtain ⟨e0, e1, e2, e3, e4, e5⟩ := rset HT.hr 0 0 0 0 0 0
          have HG := Lib.hid HT.hr
          have HB := Lib.hid (rbel HT.be (Nat.le_refl _) (six 0 0 0 0 0 0))
          have HE := Lib.hid e0
          have HE1 := Lib.hid e1
          have HE2 := Lib.hid e2
          have HE3 := Lib.hid e3
          have HE4 := Lib.hid e4
          have HE5 := Lib.hid e5
          clear HT e0 e1 e2 e3 e4 e5
          go_wp2_with (refine wpList_store_row rfl 40 (.tmp 2) (.tmp 34) rfl w.heap.size (six 0 0 0 0 0 0) rfl rfl 40 (six 0 0 0 0 0 0) HG.out (by kernel_rfl) rfl (by first | kernel_rfl | rfl) ?_)
          have e0 := HE.out
          have e1 := HE1.out
          have e2 := HE2.out
          have e3 := HE3.out
          have e4 := HE4.out
          have e5 := HE5.out
          exact bodyPost_ret (v := .tuple #[.agg #[.int .i64 0, .int .i64 0, .int .i64 0, .int .i64 0, .int .i64 0, .int .i64 0], .int .i64 4]) (by simp [results, Try.results22, go_sem, e0, e1, e2, e3, e4, e5]) rfl ⟨by rw [HC.out]; simp only [HV.out], HB.out⟩
        · by_cases q2 : 13 < cv b 0 1
          · have HC : Hid (tcode b = 4) := Lib.hid (by unfold tcode; rw [if_pos HZ.out, if_neg (by omega)])
            have HV : Hid (∀ a s, tf b a s = 0) := Lib.hid (fun a s => by unfold tf; rw [HC.out]; rfl)
            obtain ⟨e0, e1, e2, e3, e4, e5⟩ := rset HT.hr 0 0 0 0 0 0
            have HG := Lib.hid HT.hr
            have HB := Lib.hid (rbel HT.be (Nat.le_refl _) (six 0 0 0 0 0 0))
            have HE := Lib.hid e0
            have HE1 := Lib.hid e1
            have HE2 := Lib.hid e2
            have HE3 := Lib.hid e3
            have HE4 := Lib.hid e4
            have HE5 := Lib.hid e5
            clear HT e0 e1 e2 e3 e4 e5
            go_wp2_with (refine wpList_store_row rfl 40 (.tmp 2) (.tmp 34) rfl w.heap.size (six 0 0 0 0 0 0) rfl rfl 40 (six 0 0 0 0 0 0) HG.out (by kernel_rfl) rfl (by first | kernel_rfl | rfl) ?_)
            have e0 := HE.out
            have e1 := HE1.out
            have e2 := HE2.out
            have e3 := HE3.out
            have e4 := HE4.out
            have e5 := HE5.out
            exact bodyPost_ret (v := .tuple #[.agg #[.int .i64 0, .int .i64 0, .int .i64 0, .int .i64 0, .int .i64 0, .int .i64 0], .int .i64 4]) (by simp [results, Try.results22, go_sem, e0, e1, e2, e3, e4, e5]) rfl ⟨by rw [HC.out]; simp only [HV.out], HB.out⟩
          · have HC : Hid (tcode b = 0) := Lib.hid (by unfold tcode; rw [if_pos HZ.out, if_pos (by omega)])
            have HV : Hid (∀ a s, tf b a s = cv b a s) := Lib.hid (fun a s => by unfold tf; rw [HC.out]; rfl)
            obtain ⟨e0, e1, e2, e3, e4, e5⟩ := rset HT.hr (cv b 0 1) (cv b 1 1) (cv b 2 2) (cv b 4 4) (cv b 8 4) (cv b 12 4)
            have HG := Lib.hid HT.hr
            have HB := Lib.hid (rbel HT.be (Nat.le_refl _) (six (cv b 0 1) (cv b 1 1) (cv b 2 2) (cv b 4 4) (cv b 8 4) (cv b 12 4)))
            have HE := Lib.hid e0
            have HE1 := Lib.hid e1
            have HE2 := Lib.hid e2
            have HE3 := Lib.hid e3
            have HE4 := Lib.hid e4
            have HE5 := Lib.hid e5
            clear HT e0 e1 e2 e3 e4 e5
            go_wp2_with (refine wpList_store_row rfl 40 (.tmp 2) (.tmp 47) rfl w.heap.size (six (cv b 0 1) (cv b 1 1) (cv b 2 2) (cv b 4 4) (cv b 8 4) (cv b 12 4)) rfl rfl 40 (six 0 0 0 0 0 0) HG.out (by kernel_rfl) rfl (by first | kernel_rfl | rfl) ?_)
            have e0 := HE.out
            have e1 := HE1.out
            have e2 := HE2.out
            have e3 := HE3.out
            have e4 := HE4.out
            have e5 := HE5.out
            exact bodyPost_ret (v := .tuple #[.agg #[.int .i64 (cv b 0 1), .int .i64 (cv b 1 1), .int .i64 (cv b 2 2), .int .i64 (cv b 4 4), .int .i64 (cv b 8 4), .int .i64 (cv b 12 4)], .int .i64 0]) (by simp [results, Try.results22, go_sem, e0, e1, e2, e3, e4, e5]) rfl ⟨by rw [HC.out]; simp only [HV.out], HB.out⟩
  · have hz : ((b.size : Int) == 16) = false := by simp; omega
    have hc : tcode b = 1 := by unfold tcode; rw [if_neg h16]
    have hv : ∀ a s, tf b a s = 0 := fun a s => by unfold tf; rw [hc]; rfl
    have hzn : ¬ (b.size : Int) = 16 := by omega
    obtain ⟨e0, e1, e2, e3, e4, e5⟩ := rset h0 0 0 0 0 0 0
    have hbb := rbel b0 (Nat.le_refl _) (six 0 0 0 0 0 0)
    have HE := Lib.hid e0
    have HE1 := Lib.hid e1
    have HE2 := Lib.hid e2
    have HE3 := Lib.hid e3
    have HE4 := Lib.hid e4
    have HE5 := Lib.hid e5
    have HB := Lib.hid hbb
    simp only [hc, hv]
    clear h16 hc hv h0 e0 e1 e2 e3 e4 e5 b0 hbb
    go_enter Try.func22, Try.ntmps22
    go_wp2_with (refine wpList_store_row rfl 40 (.tmp 2) (.tmp 11) rfl w.heap.size (six 0 0 0 0 0 0) rfl rfl 40 (six 0 0 0 0 0 0) HG.out (by kernel_rfl) rfl (by kernel_rfl) ?_)
    have e0 := HE.out
    have e1 := HE1.out
    have e2 := HE2.out
    have e3 := HE3.out
    have e4 := HE4.out
    have e5 := HE5.out
    exact bodyPost_ret (v := .tuple #[.agg #[.int .i64 0, .int .i64 0, .int .i64 0, .int .i64 0, .int .i64 0, .int .i64 0], .int .i64 1]) (by simp [results, Try.results22, go_sem, e0, e1, e2, e3, e4, e5]) rfl ⟨rfl, HB.out⟩
end Go.Proofs.Ytehojcocnndniaa.Call
namespace Go.Proofs.Ytehojcocnndniaa.Call
open Go.RowKit Base Sp Flat Go.Proofs.YtehojcocnndniaaW.PrintWords Go.Proofs.YtehojcocnndniaaW.PrintLast Go.Proofs.YtehojcocnndniaaW.PrintMore Wd Al Buf Cur Go.Proofs.Ytehojcocnndniaa.PCallPuts
theorem tx_nbytes (n s : Int) : tx (nbytes n s) = strOfNums (le n s.toNat) := rfl
theorem rnum_eq (n s : Int) (hs : sz s = true) (h1 : n < 9223372036854775808) : broadsheetref34_number.f 12 n s = some (if okf n s then (tx (nbytes n s), true) else (⟨#[]⟩, false)) := by
  unfold broadsheetref34_number.f
  by_cases h0 : n < 0
  · rw [if_pos h0, show okf n s = false from decide_eq_false (fun h => by omega)]
    rfl
  · rw [if_neg h0, wrapu64 (by omega) (by omega), WdC.rput_eq n s 12 (by decide) (by omega) (by omega), hs, if_pos rfl, Option.bind_some]
    unfold putv
    by_cases hp : n < pw s
    · rw [if_pos hp, show okf n s = true from decide_eq_true ⟨by omega, hp⟩, if_pos rfl, tx_nbytes]
      rfl
    · rw [if_neg hp, show okf n s = false from decide_eq_false (fun h => hp h.2)]
      rfl
theorem rput34 (a b c d e f : Int) (ha : a < 9223372036854775808) (hb : b < 9223372036854775808) (hc : c < 9223372036854775808) (hd : d < 9223372036854775808) (he : e < 9223372036854775808) (hf : f < 9223372036854775808) :
    broadsheetref34_Put.f 12 a b c d e f = some ((cput a b c d e f).1, (cput a b c d e f).2) := by
  unfold broadsheetref34_Put.f cput okr
  rw [rnum_eq a 1 rfl ha, rnum_eq b 1 rfl hb, rnum_eq c 2 rfl hc, rnum_eq d 4 rfl hd, rnum_eq e 4 rfl he, rnum_eq f 4 rfl hf]
  simp only [Option.bind_some]
  cases okf a 1 with
  | false => rfl
  | true =>
    cases okf b 1 with
    | false => rfl
    | true =>
      cases okf c 2 with
      | false => rfl
      | true =>
        cases okf d 4 with
        | false => rfl
        | true =>
          cases okf e 4 with
          | false => rfl
          | true =>
            cases okf f 4 with
            | false => rfl
            | true =>
              have n1 := nbytes_len a 1
              have n2 := nbytes_len b 1
              have n3 := nbytes_len c 2
              have n4 := nbytes_len d 4
              have n5 := nbytes_len e 4
              have n6 := nbytes_len f 4
              simp only [if_pos, Bool.true_and, ByteArray.size_append, tx_size, n1, n2, n3, n4, n5, n6]
              rw [if_pos (by decide), if_pos (by decide), if_pos (by decide), if_pos (by decide), if_pos (by decide), ← tx_app, ← tx_app, ← tx_app, ← tx_app, ← tx_app]
              simp only [byt, List.append_assoc]
theorem rat_eq (b : ByteArray) (a s : Int) (hs : sz s = true) (h4 : s.toNat ≤ 4) (hz : b.size = 16) (h0 : 0 ≤ a) (h1 : a + s ≤ 16) : broadsheetref34_at.f 12 b a s = some (cv b a s) := by
  have hc := sz_cases hs
  have := cv_small b a s h4
  unfold broadsheetref34_at.f
  rw [rtake_eq b a s 12 (by decide) (by omega) (by omega) (by omega), hs, if_pos rfl, takev_cv b a s h0 (by omega) (by omega), Option.bind_some]
  unfold wrap64
  congr 1
  omega
theorem cv_one (b : ByteArray) (a : Int) : cv b a 1 = bt b a := by
  show bt b (a + 0) + 256 * 0 = bt b a
  rw [Int.add_zero, Int.mul_zero, Int.add_zero]
theorem rtake34 (b : ByteArray) : broadsheetref34_Take.f 13 b = some (tf b 0 1, tf b 1 1, tf b 2 2, tf b 4 4, tf b 8 4, tf b 12 4, tcode b) := by
  unfold broadsheetref34_Take.f
  by_cases h : b.size = 16
  · have e0 := cv_one b 0
    have e1 := cv_one b 1
    have r0 := cv_small b 0 1 (by decide)
    have r1 := cv_small b 1 1 (by decide)
    rw [if_pos (by omega), if_pos (by omega), ← e0]
    have good : 1 ≤ cv b 0 1 ∧ cv b 0 1 ≤ 13 → tcode b = 0 := fun hh => by unfold tcode; rw [if_pos h, if_pos hh]
    have bad : ¬ (1 ≤ cv b 0 1 ∧ cv b 0 1 ≤ 13) → tcode b = 4 := fun hh => by unfold tcode; rw [if_pos h, if_neg hh]
    have hbad : tcode b = 4 → ∀ a s, tf b a s = 0 := fun hh a s => by unfold tf; rw [hh]; rfl
    have hgood : tcode b = 0 → ∀ a s, tf b a s = cv b a s := fun hh a s => by unfold tf; rw [hh]; rfl
    by_cases q1 : cv b 0 1 < 1
    · have hb := bad (by omega)
      rw [if_pos q1, broadsheetref34_Take.j0, if_pos rfl, hb]
      simp only [hbad hb]
    · rw [if_neg q1]
      by_cases q2 : 13 < cv b 0 1
      · have hb := bad (by omega)
        rw [show decide (cv b 0 1 > 13) = true from decide_eq_true q2, broadsheetref34_Take.j0, if_pos rfl, hb]
        simp only [hbad hb]
      · have hb := good (by omega)
        rw [show decide (cv b 0 1 > 13) = false from decide_eq_false q2, broadsheetref34_Take.j0, if_neg (by decide), if_pos (by omega), if_pos (by omega), rat_eq b 2 2 rfl (by decide) h (by decide) (by decide), rat_eq b 4 4 rfl (by decide) h (by decide) (by decide), rat_eq b 8 4 rfl (by decide) h (by decide) (by decide), rat_eq b 12 4 rfl (by decide) h (by decide) (by decide), ← e0, ← e1, hb]
        simp only [hgood hb, Option.bind_some]
        rw [show wrap64 (cv b 0 1) = cv b 0 1 from by unfold wrap64; omega, show wrap64 (cv b 1 1) = cv b 1 1 from by unfold wrap64; omega]
  · have hc : tcode b = 1 := by unfold tcode; rw [if_neg h]
    have hv : ∀ a s, tf b a s = 0 := fun a s => by unfold tf; rw [hc]; rfl
    rw [if_neg (by omega), hc]
    simp only [hv]
/-- What is put is taken. -/
theorem cv_byt (P R : List UInt8) (n s : Int) (hs : sz s = true) (h : okf n s = true) : cv (tx (P ++ (nbytes n s ++ R))) (P.length : Int) s = n := by
  have hc := sz_cases hs
  have ho := okf_iff.1 h
  have ht := take_back (tx P) (tx R) n s hs ho.1 ho.2
  have e : tx P ++ strOfNums (le n s.toNat) ++ tx R = tx (P ++ (nbytes n s ++ R)) := by
    rw [← tx_nbytes, ← tx_app, ← tx_app, List.append_assoc]
  rw [e] at ht
  have hl : ((tx (P ++ (nbytes n s ++ R))).size : Int) = P.length + s.toNat + R.length := by
    rw [tx_size, List.length_append, List.length_append, nbytes_len]
    omega
  have h2 := takev_cv (tx (P ++ (nbytes n s ++ R))) (P.length : Int) s (by omega) (by omega) (by omega)
  have ht' : takev (tx (P ++ (nbytes n s ++ R))) (P.length : Int) s = (n, 0) := ht
  rw [ht'] at h2
  exact (congrArg Prod.fst h2).symm
theorem okr_iff {a b c d e f : Int} (h : okr a b c d e f = true) : okf a 1 = true ∧ okf b 1 = true ∧ okf c 2 = true ∧ okf d 4 = true ∧ okf e 4 = true ∧ okf f 4 = true := by
  unfold okr at h
  simp only [Bool.and_eq_true] at h
  exact h
theorem back_cv {a b c d e f : Int} (h : okr a b c d e f = true) : cv (tx (byt a b c d e f)) 0 1 = a ∧ cv (tx (byt a b c d e f)) 1 1 = b ∧ cv (tx (byt a b c d e f)) 2 2 = c ∧ cv (tx (byt a b c d e f)) 4 4 = d ∧ cv (tx (byt a b c d e f)) 8 4 = e ∧ cv (tx (byt a b c d e f)) 12 4 = f := by
  obtain ⟨h1, h2, h3, h4, h5, h6⟩ := okr_iff h
  have l1 : (nbytes a 1).length = 1 := nbytes_len _ _
  have l2 : (nbytes b 1).length = 1 := nbytes_len _ _
  have l3 : (nbytes c 2).length = 2 := nbytes_len _ _
  have l4 : (nbytes d 4).length = 4 := nbytes_len _ _
  have l5 : (nbytes e 4).length = 4 := nbytes_len _ _
  have q1 := cv_byt [] (nbytes b 1 ++ (nbytes c 2 ++ (nbytes d 4 ++ (nbytes e 4 ++ nbytes f 4)))) a 1 rfl h1
  have q2 := cv_byt (nbytes a 1) (nbytes c 2 ++ (nbytes d 4 ++ (nbytes e 4 ++ nbytes f 4))) b 1 rfl h2
  have q3 := cv_byt (nbytes a 1 ++ nbytes b 1) (nbytes d 4 ++ (nbytes e 4 ++ nbytes f 4)) c 2 rfl h3
  have q4 := cv_byt (nbytes a 1 ++ (nbytes b 1 ++ nbytes c 2)) (nbytes e 4 ++ nbytes f 4) d 4 rfl h4
  have q5 := cv_byt (nbytes a 1 ++ (nbytes b 1 ++ (nbytes c 2 ++ nbytes d 4))) (nbytes f 4) e 4 rfl h5
  have q6 := cv_byt (nbytes a 1 ++ (nbytes b 1 ++ (nbytes c 2 ++ (nbytes d 4 ++ nbytes e 4)))) [] f 4 rfl h6
  simp only [List.append_assoc, List.nil_append, List.append_nil, List.length_append, List.length_nil, l1, l2, l3, l4, l5] at q1 q2 q3 q4 q5 q6
  exact ⟨q1, q2, q3, q4, q5, q6⟩
theorem back_code {a b c d e f : Int} (h : okr a b c d e f = true) : tcode (tx (byt a b c d e f)) = if 1 ≤ a ∧ a ≤ 13 then 0 else 4 := by
  unfold tcode
  rw [if_pos (by rw [tx_size, byt_len]), (back_cv h).1]
theorem back_tf {a b c d e f : Int} (h : okr a b c d e f = true) (h1 : 1 ≤ a ∧ a ≤ 13) : tf (tx (byt a b c d e f)) 0 1 = a ∧ tf (tx (byt a b c d e f)) 1 1 = b ∧ tf (tx (byt a b c d e f)) 2 2 = c ∧ tf (tx (byt a b c d e f)) 4 4 = d ∧ tf (tx (byt a b c d e f)) 8 4 = e ∧ tf (tx (byt a b c d e f)) 12 4 = f := by
  have hc := back_code h
  rw [if_pos h1] at hc
  have hv : ∀ a' s', tf (tx (byt a b c d e f)) a' s' = cv (tx (byt a b c d e f)) a' s' := fun a' s' => by unfold tf; rw [hc]; rfl
  simp only [hv]
  exact back_cv h
/-- What is taken is put so. -/
theorem nb_cv (b : ByteArray) (a : Nat) (s : Int) (h : a + s.toNat ≤ b.size) : nbytes (cv b a s) s = (b.data.toList.drop a).take s.toNat := by
  unfold nbytes cv
  rw [le_lev (fun i => bt b ((a : Int) + i)) (fun i => bt_range b _)]
  apply List.ext_getElem
  · simp [strOfNums]
    have : b.data.size = b.size := rfl
    omega
  · intro i h1 h2
    have hi : a + i < b.size := by
      simp at h2
      have : b.data.size = b.size := rfl
      omega
    have hb := bt_get b (a + i) hi
    simp [strOfNums]
    rw [show (a : Int) + (i : Int) = ((a + i : Nat) : Int) from by omega, hb]
    simp
    rfl
theorem okf_cv (b : ByteArray) (a s : Int) (hs : sz s = true) : okf (cv b a s) s = true := by
  have := cv_range b a s
  refine okf_iff.2 ⟨this.1, ?_⟩
  have h2 := this.2
  rcases sz_cases hs with rfl | rfl | rfl | rfl <;> exact h2
theorem split_at (L : List UInt8) (a k : Nat) : (L.drop a).take k ++ L.drop (a + k) = L.drop a := by
  rw [← List.drop_drop]
  exact List.take_append_drop _ _
theorem byt_cv (b : ByteArray) (h : b.size = 16) : tx (byt (cv b 0 1) (cv b 1 1) (cv b 2 2) (cv b 4 4) (cv b 8 4) (cv b 12 4)) = b := by
  have n0 := nb_cv b 0 1 (by rw [h]; decide)
  have n1 := nb_cv b 1 1 (by rw [h]; decide)
  have n2 := nb_cv b 2 2 (by rw [h]; decide)
  have n4 := nb_cv b 4 4 (by rw [h]; decide)
  have n8 := nb_cv b 8 4 (by rw [h]; decide)
  have n12 := nb_cv b 12 4 (by rw [h]; decide)
  have hl : b.data.toList.length = 16 := h
  have e0 := split_at b.data.toList 0 1
  have e1 := split_at b.data.toList 1 1
  have e2 := split_at b.data.toList 2 2
  have e3 := split_at b.data.toList 4 4
  have e4 := split_at b.data.toList 8 4
  have e5 : (b.data.toList.drop 12).take 4 = b.data.toList.drop 12 := List.take_of_length_le (by rw [List.length_drop, hl]; decide)
  unfold byt
  have m0 : nbytes (cv b 0 1) 1 = (b.data.toList.drop 0).take 1 := n0
  have m1 : nbytes (cv b 1 1) 1 = (b.data.toList.drop 1).take 1 := n1
  have m2 : nbytes (cv b 2 2) 2 = (b.data.toList.drop 2).take 2 := n2
  have m4 : nbytes (cv b 4 4) 4 = (b.data.toList.drop 4).take 4 := n4
  have m8 : nbytes (cv b 8 4) 4 = (b.data.toList.drop 8).take 4 := n8
  have m12 : nbytes (cv b 12 4) 4 = (b.data.toList.drop 12).take 4 := n12
  rw [m0, m1, m2, m4, m8, m12, e5, e4, e3, e2, e1, e0]
  rfl
theorem okr_cv (b : ByteArray) : okr (cv b 0 1) (cv b 1 1) (cv b 2 2) (cv b 4 4) (cv b 8 4) (cv b 12 4) = true := by
  unfold okr
  rw [okf_cv b 0 1 rfl, okf_cv b 1 1 rfl, okf_cv b 2 2 rfl, okf_cv b 4 4 rfl, okf_cv b 8 4 rfl, okf_cv b 12 4 rfl]
  rfl
theorem put_back (b : ByteArray) (h : tcode b = 0) : cput (tf b 0 1) (tf b 1 1) (tf b 2 2) (tf b 4 4) (tf b 8 4) (tf b 12 4) = (b, 0) := by
  have hv : ∀ a s, tf b a s = cv b a s := fun a s => by unfold tf; rw [h]; rfl
  have hz : b.size = 16 := by
    unfold tcode at h
    by_cases hz : b.size = 16
    · exact hz
    · rw [if_neg hz] at h; cases h
  simp only [hv]
  unfold cput
  rw [okr_cv, if_pos rfl, byt_cv b hz]
end Go.Proofs.Ytehojcocnndniaa.Call
namespace Go.Proofs.Ytehojcocnndniaa.Call
open Go.RowKit Base Sp Flat Go.Proofs.YtehojcocnndniaaW.PrintWords Go.Proofs.YtehojcocnndniaaW.PrintLast Go.Proofs.YtehojcocnndniaaW.PrintMore Wd Al Buf Cur Go.Proofs.Ytehojcocnndniaa.PCallPuts
theorem ex_put : cput 6 2 0 16 64 3 = (⟨#[6, 2, 0, 0, 16, 0, 0, 0, 64, 0, 0, 0, 3, 0, 0, 0]⟩, 0) := by kernel_rfl
theorem awake (w : World) : Calls Try.prog 24 #[] w fun e w' => e = .returned (.bool true) ∧ Below w.heap.size w w' := by
  have HP := fun w => put 6 2 0 16 64 3 (by decide) (by decide) (by decide) (by decide) (by decide) (by decide) w
  rw [ex_put] at HP
  go_enter Try.func24, Try.ntmps24
  go_wp2_with fail
  refine (HP _).mono ?_
  rintro e w1 ⟨rfl, b1⟩
  go_wp2
  go_ret
  exact ⟨rfl, b1⟩
set_option maxRecDepth 20000 in
set_option maxHeartbeats 4000000 in
theorem puts (a b c d e f : Int) (s : ByteArray) (ha : a < 9223372036854775808) (hb : b < 9223372036854775808) (hc : c < 9223372036854775808) (hd : d < 9223372036854775808) (he : e < 9223372036854775808) (hf : f < 9223372036854775808) (w : World) :
    Calls Try.prog 4 #[.agg #[.int .i64 a, .int .i64 b, .int .i64 c, .int .i64 d, .int .i64 e, .int .i64 f], .string s] w fun e' w' => e' = .returned (.bool true) ∧ Below w.heap.size w w' := by
  have HO := fun w => broadsheetlaw34_ours.calls a b c d e f a b c d e f w rfl
  have HP := fun w => put a b c d e f ha hb hc hd he hf w
  have HRP := fun w => broadsheetref34_Put.calls 12 a b c d e f _ _ w (rput34 a b c d e f ha hb hc hd he hf)
  have HT := fun w => take s w
  have HRT := fun w => broadsheetref34_Take.calls 13 s _ _ _ _ _ _ _ w (rtake34 s)
  have HA := fun w => awake w
  clear ha hb hc hd he hf
  generalize cput a b c d e f = r at *
  obtain ⟨rs, rc⟩ := r
  generalize tf s 0 1 = x0 at *
  generalize tf s 1 1 = x1 at *
  generalize tf s 2 2 = x2 at *
  generalize tf s 4 4 = x3 at *
  generalize tf s 8 4 = x4 at *
  generalize tf s 12 4 = x5 at *
  generalize tcode s = tc at *
  have HX := fun w => broadsheetlaw34_ours.calls x0 x1 x2 x3 x4 x5 x0 x1 x2 x3 x4 x5 w rfl
  have b0 : Below w.heap.size w (w.alloc (.cells #[.int .i64 a, .int .i64 b, .int .i64 c, .int .i64 d, .int .i64 e, .int .i64 f] 38)) := (Below.refl _ _).alloc (Nat.le_refl _) _
  have h0 : (w.alloc (.cells #[.int .i64 a, .int .i64 b, .int .i64 c, .int .i64 d, .int .i64 e, .int .i64 f] 38)).heap[w.heap.size]? = some (.cells #[.int .i64 a, .int .i64 b, .int .i64 c, .int .i64 d, .int .i64 e, .int .i64 f] 38 (0, 0)) := heap_alloc_new _ _
  obtain ⟨W0, hW0⟩ : ∃ W0, W0 = w.alloc (.cells #[.int .i64 a, .int .i64 b, .int .i64 c, .int .i64 d, .int .i64 e, .int .i64 f] 38) := ⟨_, rfl⟩
  rw [← hW0] at b0 h0
  go_enter Try.func4, Try.ntmps4
  go_wp2_with fail
  rw [← hW0]
  clear hW0
  refine (HO _).mono ?_
  rintro e' w1 ⟨rfl, b1⟩
  have HH := (b1.block _ (blk_lt h0)).trans h0
  have b2 := bstep b0 b1
  clear h0 b0 b1
  go_wp2_with fail
  refine (HP _).mono ?_
  rintro e' w2 ⟨rfl, b3⟩
  have HH := (b3.block _ (blk_lt HH)).trans HH
  have b2 := bstep b2 b3
  clear b3
  have c0 : w2.cell? ⟨w.heap.size, 0, none⟩ = some (.int .i64 a) := blk_cell HH 0
  have c1 : w2.cell? ⟨w.heap.size, 1, none⟩ = some (.int .i64 b) := blk_cell HH 1
  have c2 : w2.cell? ⟨w.heap.size, 2, none⟩ = some (.int .i64 c) := blk_cell HH 2
  have c3 : w2.cell? ⟨w.heap.size, 3, none⟩ = some (.int .i64 d) := blk_cell HH 3
  have c4 : w2.cell? ⟨w.heap.size, 4, none⟩ = some (.int .i64 e) := blk_cell HH 4
  have c5 : w2.cell? ⟨w.heap.size, 5, none⟩ = some (.int .i64 f) := blk_cell HH 5
  clear HH
  go_wp2_with fail
  refine (HRP _).mono ?_
  rintro e' w3 ⟨rfl, b3⟩
  have b2 := bstep b2 b3
  clear b3 c0 c1 c2 c3 c4 c5
  go_wp2_with fail
  refine (HT _).mono ?_
  rintro e' w4 ⟨rfl, b3⟩
  have b2 := bstep b2 b3
  have b5 : Below w4.heap.size w4 (w4.alloc (.cells #[.int .i64 x0, .int .i64 x1, .int .i64 x2, .int .i64 x3, .int .i64 x4, .int .i64 x5] 40)) := (Below.refl _ _).alloc (Nat.le_refl _) _
  have h5 : (w4.alloc (.cells #[.int .i64 x0, .int .i64 x1, .int .i64 x2, .int .i64 x3, .int .i64 x4, .int .i64 x5] 40)).heap[w4.heap.size]? = some (.cells #[.int .i64 x0, .int .i64 x1, .int .i64 x2, .int .i64 x3, .int .i64 x4, .int .i64 x5] 40 (0, 0)) := heap_alloc_new _ _
  obtain ⟨W5, hW5⟩ : ∃ W5, W5 = w4.alloc (.cells #[.int .i64 x0, .int .i64 x1, .int .i64 x2, .int .i64 x3, .int .i64 x4, .int .i64 x5] 40) := ⟨_, rfl⟩
  rw [← hW5] at b5 h5
  have b2 := bstep b2 b5
  clear b3 b5
  go_wp2_with fail
  rw [← hW5]
  clear hW5
  refine (HRT _).mono ?_
  rintro e' w6 ⟨rfl, b3⟩
  have b2 := bstep b2 b3
  have h6 := (b3.block _ (blk_lt h5)).trans h5
  clear h5 b3
  generalize w4.heap.size = X at *
  have b7 : Below w6.heap.size w6 (w6.alloc (.cells #[.int .i64 x0, .int .i64 x1, .int .i64 x2, .int .i64 x3, .int .i64 x4, .int .i64 x5] 38)) := (Below.refl _ _).alloc (Nat.le_refl _) _
  have h7 : (w6.alloc (.cells #[.int .i64 x0, .int .i64 x1, .int .i64 x2, .int .i64 x3, .int .i64 x4, .int .i64 x5] 38)).heap[w6.heap.size]? = some (.cells #[.int .i64 x0, .int .i64 x1, .int .i64 x2, .int .i64 x3, .int .i64 x4, .int .i64 x5] 38 (0, 0)) := heap_alloc_new _ _
  have h8 := (b7.block _ (blk_lt h6)).trans h6
  obtain ⟨W7, hW7⟩ : ∃ W7, W7 = w6.alloc (.cells #[.int .i64 x0, .int .i64 x1, .int .i64 x2, .int .i64 x3, .int .i64 x4, .int .i64 x5] 38) := ⟨_, rfl⟩
  rw [← hW7] at b7 h7 h8
  have b2 := bstep b2 b7
  clear h6 b7
  go_wp2_with fail
  rw [← hW7]
  clear hW7
  generalize w6.heap.size = Y at *
  refine Reg.wp_plan (S := fun w' => w'.cell? ⟨X, 0, none⟩ = some (.int .i64 x0) ∧ w'.cell? ⟨X, 1, none⟩ = some (.int .i64 x1) ∧ w'.cell? ⟨X, 2, none⟩ = some (.int .i64 x2) ∧ w'.cell? ⟨X, 3, none⟩ = some (.int .i64 x3) ∧ w'.cell? ⟨X, 4, none⟩ = some (.int .i64 x4) ∧ w'.cell? ⟨X, 5, none⟩ = some (.int .i64 x5) ∧ w'.cell? ⟨Y, 0, none⟩ = some (.int .i64 x0) ∧ w'.cell? ⟨Y, 1, none⟩ = some (.int .i64 x1) ∧ w'.cell? ⟨Y, 2, none⟩ = some (.int .i64 x2) ∧ w'.cell? ⟨Y, 3, none⟩ = some (.int .i64 x3) ∧ w'.cell? ⟨Y, 4, none⟩ = some (.int .i64 x4) ∧ w'.cell? ⟨Y, 5, none⟩ = some (.int .i64 x5)) 23 (.fl 0 (.fl 1 (.fl 2 (.fl 3 (.fl 4 (.fl 5 (.fl 6 (.fl 7 (.fl 8 (.fl 9 (.fl 10 (.one 11 (.fl 12 (.fl 13 (.fl 14 (.fl 15 (.fl 16 (.fl 17 (.fl 18 (.fl 19 (.one 20 (.fl 21 (.fl 22 .done))))))))))))))))))))))) (by kernel_rfl) (by kernel_rfl) (by kernel_rfl) (by kernel_rfl) (fun _ _ _ d _ h => by cases d <;> exact h) ?_ (fun hHeld => ?_)
  · exact ⟨blk_cell h8 0, blk_cell h8 1, blk_cell h8 2, blk_cell h8 3, blk_cell h8 4, blk_cell h8 5, blk_cell h7 0, blk_cell h7 1, blk_cell h7 2, blk_cell h7 3, blk_cell h7 4, blk_cell h7 5⟩
  refine Reg.G_on (o := { dst := some 34, op := Op.move (Operand.tmp 5), type := 9, pos := "law.go:26", after := #[], guard := Option.none }) (v := ?_) (by rfl) ?_ (fun wS hSw => ?_) ?_
  rotate_left
  · kernel_rfl
  · (try dsimp only at hSw); go_simp; (try with_reducible rfl)
  try simp only [Act.put, List.setIfInBounds_toArray, List.set_cons_zero, List.set_cons_succ]
  refine Reg.G_on (o := { dst := some 35, op := Op.move (Operand.tmp 7), type := 9, pos := "law.go:26", after := #[], guard := Option.none }) (v := ?_) (by rfl) ?_ (fun wS hSw => ?_) ?_
  rotate_left
  · kernel_rfl
  · (try dsimp only at hSw); go_simp; (try with_reducible rfl)
  try simp only [Act.put, List.setIfInBounds_toArray, List.set_cons_zero, List.set_cons_succ]
  refine Reg.G_on (o := { dst := some 36, op := Op.binOp BinOp.eql 9 (Operand.tmp 34) (Operand.tmp 35) 9, type := 4, pos := "law.go:26", after := #[{ on := 0, ground := Ground.data }, { on := 1, ground := Ground.data }], guard := Option.none }) (v := ?_) (by rfl) ?_ (fun wS hSw => ?_) ?_
  rotate_left
  · kernel_rfl
  · (try dsimp only at hSw); go_simp; (try with_reducible rfl)
  try simp only [Act.put, List.setIfInBounds_toArray, List.set_cons_zero, List.set_cons_succ]
  refine Reg.G_on (o := { dst := some 37, op := Op.move (Operand.tmp 36), type := 4, pos := "law.go:26", after := #[{ on := 2, ground := Ground.data }], guard := Option.none }) (v := ?_) (by rfl) ?_ (fun wS hSw => ?_) ?_
  rotate_left
  · kernel_rfl
  · (try dsimp only at hSw); go_simp; (try with_reducible rfl)
  try simp only [Act.put, List.setIfInBounds_toArray, List.set_cons_zero, List.set_cons_succ]
  refine Reg.G_on (o := { dst := some 38, op := Op.move (Operand.tmp 6), type := 30, pos := "law.go:26", after := #[{ on := 3, ground := Ground.guard }], guard := some (3, true) }) (v := ?_) (by rfl) ?_ (fun wS hSw => ?_) ?_
  rotate_left
  · kernel_rfl
  · (try dsimp only at hSw); go_simp; (try with_reducible rfl)
  try simp only [Act.put, List.setIfInBounds_toArray, List.set_cons_zero, List.set_cons_succ]
  refine Reg.G_on (o := { dst := some 39, op := Op.move (Operand.tmp 8), type := 30, pos := "law.go:26", after := #[{ on := 3, ground := Ground.guard }], guard := some (3, true) }) (v := ?_) (by rfl) ?_ (fun wS hSw => ?_) ?_
  rotate_left
  · kernel_rfl
  · (try dsimp only at hSw); go_simp; (try with_reducible rfl)
  try simp only [Act.put, List.setIfInBounds_toArray, List.set_cons_zero, List.set_cons_succ]
  refine Reg.G_on (o := { dst := some 40, op := Op.binOp BinOp.eql 30 (Operand.tmp 38) (Operand.tmp 39) 30, type := 4, pos := "law.go:26", after := #[{ on := 4, ground := Ground.data }, { on := 5, ground := Ground.data }, { on := 3, ground := Ground.guard }], guard := some (3, true) }) (v := ?_) (by rfl) ?_ (fun wS hSw => ?_) ?_
  rotate_left
  · kernel_rfl
  · (try dsimp only at hSw); go_simp; (try with_reducible rfl)
  try simp only [Act.put, List.setIfInBounds_toArray, List.set_cons_zero, List.set_cons_succ]
  refine Reg.G_on (o := { dst := some 41, op := Op.pick (Operand.tmp 37) (Operand.tmp 40) (Operand.const (Value.bool false)), type := 4, pos := "law.go:26", after := #[{ on := 3, ground := Ground.data }, { on := 6, ground := Ground.data }], guard := Option.none }) (v := ?_) (by rfl) ?_ (fun wS hSw => ?_) ?_
  rotate_left
  · kernel_rfl
  · (try dsimp only at hSw); go_simp; (try with_reducible rfl)
  try simp only [Act.put, List.setIfInBounds_toArray, List.set_cons_zero, List.set_cons_succ]
  refine Reg.G_on (o := { dst := some 42, op := Op.move (Operand.tmp 41), type := 4, pos := "law.go:26", after := #[{ on := 7, ground := Ground.data }, { on := 3, ground := Ground.chain }], guard := Option.none }) (v := ?_) (by rfl) ?_ (fun wS hSw => ?_) ?_
  rotate_left
  · kernel_rfl
  · (try dsimp only at hSw); go_simp; (try with_reducible rfl)
  try simp only [Act.put, List.setIfInBounds_toArray, List.set_cons_zero, List.set_cons_succ]
  refine Reg.G_on (o := { dst := some 43, op := Op.load 40 (Operand.tmp 9), type := 40, pos := "law.go:26", after := #[{ on := 8, ground := Ground.guard }], guard := some (8, true) }) (v := ?_) (by rfl) ?_ (fun wS hSw => ?_) ?_
  rotate_left
  · kernel_rfl
  · (try dsimp only at hSw); go_simp; (try with_reducible rfl)
  try simp only [Act.put, List.setIfInBounds_toArray, List.set_cons_zero, List.set_cons_succ]
  refine Reg.G_on (o := { dst := some 44, op := Op.load 38 (Operand.tmp 11), type := 38, pos := "law.go:26", after := #[{ on := 8, ground := Ground.guard }], guard := some (8, true) }) (v := ?_) (by rfl) ?_ (fun wS hSw => ?_) ?_
  rotate_left
  · kernel_rfl
  · (try dsimp only at hSw); go_simp; (try with_reducible rfl)
  try simp only [Act.put, List.setIfInBounds_toArray, List.set_cons_zero, List.set_cons_succ]
  refine Reg.G_step (o := { dst := some 45, op := Op.call { callee := Callee.value (Operand.func 20), args := #[Operand.tmp 44], argTypes := #[38] }, type := 40, pos := "law.go:26", after := #[{ on := 10, ground := Ground.data }, { on := 8, ground := Ground.chain }, { on := 8, ground := Ground.guard }], guard := some (8, true) }) (by rfl) ?_ (fun K hK => ?_)
  · kernel_rfl
  go_simp
  refine (HX _).mono ?_
  rintro e w' ⟨rfl, hb⟩
  refine hK.out _ _ ?_ (fun hHeld => ?_)
  · exact ⟨argb hb hHeld.1, argb hb hHeld.2.1, argb hb hHeld.2.2.1, argb hb hHeld.2.2.2.1, argb hb hHeld.2.2.2.2.1, argb hb hHeld.2.2.2.2.2.1, argb hb hHeld.2.2.2.2.2.2.1, argb hb hHeld.2.2.2.2.2.2.2.1, argb hb hHeld.2.2.2.2.2.2.2.2.1, argb hb hHeld.2.2.2.2.2.2.2.2.2.1, argb hb hHeld.2.2.2.2.2.2.2.2.2.2.1, argb hb hHeld.2.2.2.2.2.2.2.2.2.2.2⟩
  clear hK K
  try simp only [Act.put, List.setIfInBounds_toArray, List.set_cons_zero, List.set_cons_succ]
  refine Reg.G_on (o := { dst := some 46, op := Op.binOp BinOp.eql 40 (Operand.tmp 43) (Operand.tmp 45) 40, type := 4, pos := "law.go:26", after := #[{ on := 9, ground := Ground.data }, { on := 11, ground := Ground.data }, { on := 8, ground := Ground.guard }], guard := some (8, true) }) (v := ?_) (by rfl) ?_ (fun wS hSw => ?_) ?_
  rotate_left
  · kernel_rfl
  · (try dsimp only at hSw); go_simp; (try with_reducible rfl)
  try simp only [Act.put, List.setIfInBounds_toArray, List.set_cons_zero, List.set_cons_succ]
  refine Reg.G_on (o := { dst := some 47, op := Op.pick (Operand.tmp 42) (Operand.tmp 46) (Operand.const (Value.bool false)), type := 4, pos := "law.go:26", after := #[{ on := 8, ground := Ground.data }, { on := 12, ground := Ground.data }], guard := Option.none }) (v := ?_) (by rfl) ?_ (fun wS hSw => ?_) ?_
  rotate_left
  · kernel_rfl
  · (try dsimp only at hSw); go_simp; (try with_reducible rfl)
  try simp only [Act.put, List.setIfInBounds_toArray, List.set_cons_zero, List.set_cons_succ]
  refine Reg.G_on (o := { dst := some 48, op := Op.move (Operand.tmp 47), type := 4, pos := "law.go:26", after := #[{ on := 13, ground := Ground.data }, { on := 11, ground := Ground.chain }], guard := Option.none }) (v := ?_) (by rfl) ?_ (fun wS hSw => ?_) ?_
  rotate_left
  · kernel_rfl
  · (try dsimp only at hSw); go_simp; (try with_reducible rfl)
  try simp only [Act.put, List.setIfInBounds_toArray, List.set_cons_zero, List.set_cons_succ]
  refine Reg.G_on (o := { dst := some 49, op := Op.move (Operand.tmp 10), type := 30, pos := "law.go:26", after := #[{ on := 14, ground := Ground.guard }], guard := some (14, true) }) (v := ?_) (by rfl) ?_ (fun wS hSw => ?_) ?_
  rotate_left
  · kernel_rfl
  · (try dsimp only at hSw); go_simp; (try with_reducible rfl)
  try simp only [Act.put, List.setIfInBounds_toArray, List.set_cons_zero, List.set_cons_succ]
  refine Reg.G_on (o := { dst := some 50, op := Op.move (Operand.tmp 12), type := 30, pos := "law.go:26", after := #[{ on := 14, ground := Ground.guard }], guard := some (14, true) }) (v := ?_) (by rfl) ?_ (fun wS hSw => ?_) ?_
  rotate_left
  · kernel_rfl
  · (try dsimp only at hSw); go_simp; (try with_reducible rfl)
  try simp only [Act.put, List.setIfInBounds_toArray, List.set_cons_zero, List.set_cons_succ]
  refine Reg.G_on (o := { dst := some 51, op := Op.binOp BinOp.eql 30 (Operand.tmp 49) (Operand.tmp 50) 30, type := 4, pos := "law.go:26", after := #[{ on := 15, ground := Ground.data }, { on := 16, ground := Ground.data }, { on := 14, ground := Ground.guard }], guard := some (14, true) }) (v := ?_) (by rfl) ?_ (fun wS hSw => ?_) ?_
  rotate_left
  · kernel_rfl
  · (try dsimp only at hSw); go_simp; (try with_reducible rfl)
  try simp only [Act.put, List.setIfInBounds_toArray, List.set_cons_zero, List.set_cons_succ]
  refine Reg.G_on (o := { dst := some 52, op := Op.pick (Operand.tmp 48) (Operand.tmp 51) (Operand.const (Value.bool false)), type := 4, pos := "law.go:26", after := #[{ on := 14, ground := Ground.data }, { on := 17, ground := Ground.data }], guard := Option.none }) (v := ?_) (by rfl) ?_ (fun wS hSw => ?_) ?_
  rotate_left
  · kernel_rfl
  · (try dsimp only at hSw); go_simp; (try with_reducible rfl)
  try simp only [Act.put, List.setIfInBounds_toArray, List.set_cons_zero, List.set_cons_succ]
  refine Reg.G_on (o := { dst := some 53, op := Op.move (Operand.tmp 52), type := 4, pos := "law.go:26", after := #[{ on := 18, ground := Ground.data }, { on := 14, ground := Ground.chain }], guard := Option.none }) (v := ?_) (by rfl) ?_ (fun wS hSw => ?_) ?_
  rotate_left
  · kernel_rfl
  · (try dsimp only at hSw); go_simp; (try with_reducible rfl)
  try simp only [Act.put, List.setIfInBounds_toArray, List.set_cons_zero, List.set_cons_succ]
  have hb1 := hb
  clear hb
  refine Reg.G_step (o := { dst := some 54, op := Op.call { callee := Callee.value (Operand.func 24), args := #[], argTypes := #[] }, type := 4, pos := "law.go:26", after := #[{ on := 19, ground := Ground.chain }, { on := 19, ground := Ground.guard }], guard := some (19, true) }) (by rfl) ?_ (fun K hK => ?_)
  · kernel_rfl
  go_simp
  refine (HA _).mono ?_
  rintro e w' ⟨rfl, hb⟩
  refine hK.out _ _ ?_ (fun hHeld => ?_)
  · exact ⟨argb hb hHeld.1, argb hb hHeld.2.1, argb hb hHeld.2.2.1, argb hb hHeld.2.2.2.1, argb hb hHeld.2.2.2.2.1, argb hb hHeld.2.2.2.2.2.1, argb hb hHeld.2.2.2.2.2.2.1, argb hb hHeld.2.2.2.2.2.2.2.1, argb hb hHeld.2.2.2.2.2.2.2.2.1, argb hb hHeld.2.2.2.2.2.2.2.2.2.1, argb hb hHeld.2.2.2.2.2.2.2.2.2.2.1, argb hb hHeld.2.2.2.2.2.2.2.2.2.2.2⟩
  clear hK K
  try simp only [Act.put, List.setIfInBounds_toArray, List.set_cons_zero, List.set_cons_succ]
  refine Reg.G_on (o := { dst := some 55, op := Op.pick (Operand.tmp 53) (Operand.tmp 54) (Operand.const (Value.bool false)), type := 4, pos := "law.go:26", after := #[{ on := 19, ground := Ground.data }, { on := 20, ground := Ground.data }], guard := Option.none }) (v := ?_) (by rfl) ?_ (fun wS hSw => ?_) ?_
  rotate_left
  · kernel_rfl
  · (try dsimp only at hSw); go_simp; (try with_reducible rfl)
  try simp only [Act.put, List.setIfInBounds_toArray, List.set_cons_zero, List.set_cons_succ]
  refine Reg.G_on (o := { dst := some 4, op := Op.assign (Operand.tmp 55), type := 4, pos := "law.go:26", after := #[{ on := 21, ground := Ground.data }, { on := 20, ground := Ground.chain }, { on := 0, ground := Ground.phase }, { on := 1, ground := Ground.phase }, { on := 2, ground := Ground.phase }, { on := 3, ground := Ground.phase }, { on := 4, ground := Ground.phase }, { on := 5, ground := Ground.phase }, { on := 6, ground := Ground.phase }, { on := 7, ground := Ground.phase }, { on := 8, ground := Ground.phase }, { on := 9, ground := Ground.phase }, { on := 10, ground := Ground.phase }, { on := 11, ground := Ground.phase }, { on := 12, ground := Ground.phase }, { on := 13, ground := Ground.phase }, { on := 14, ground := Ground.phase }, { on := 15, ground := Ground.phase }, { on := 16, ground := Ground.phase }, { on := 17, ground := Ground.phase }, { on := 18, ground := Ground.phase }, { on := 19, ground := Ground.phase }, { on := 20, ground := Ground.phase }, { on := 21, ground := Ground.phase }], guard := Option.none }) (v := ?_) (by rfl) ?_ (fun wS hSw => ?_) ?_
  rotate_left
  · kernel_rfl
  · (try dsimp only at hSw); go_simp; (try with_reducible rfl)
  try simp only [Act.put, List.setIfInBounds_toArray, List.set_cons_zero, List.set_cons_succ]
  refine Reg.G_done ?_
  go_wp2
  go_ret
  exact ⟨rfl, bstep b2 ((Below.refl _ _).drew.trans (bstep hb1 hb))⟩
end Go.Proofs.Ytehojcocnndniaa.Call
namespace Go.Proofs.Ytehojcocnndniaa.Call
open Go.RowKit Base Sp Flat Go.Proofs.YtehojcocnndniaaW.PrintWords Go.Proofs.YtehojcocnndniaaW.PrintLast Go.Proofs.YtehojcocnndniaaW.PrintMore Wd Al Buf Cur Go.Proofs.Ytehojcocnndniaa.PCallPuts
/-- What the end of the law needs of the bytes s: either none is taken, or they are put so. -/
theorem tf_lt (b : ByteArray) (a s : Int) (hs : s.toNat ≤ 4) : tf b a s < 9223372036854775808 := by
  have := cv_small b a s hs
  unfold tf
  split <;> omega
theorem tf_bad {s : ByteArray} (h : tcode s ≠ 0) (a' s' : Int) : tf s a' s' = 0 := by
  unfold tf
  rw [if_neg h]
set_option maxRecDepth 20000 in
set_option maxHeartbeats 4000000 in
theorem back (a b c d e f : Int) (s : ByteArray) (ha : a < 9223372036854775808) (hb : b < 9223372036854775808) (hc : c < 9223372036854775808) (hd : d < 9223372036854775808) (he : e < 9223372036854775808) (hf : f < 9223372036854775808) (w : World) :
    Calls Try.prog 5 #[.agg #[.int .i64 a, .int .i64 b, .int .i64 c, .int .i64 d, .int .i64 e, .int .i64 f], .string s] w fun e' w' => e' = .returned (.bool true) ∧ Below w.heap.size w w' := by
  have HO := fun w => broadsheetlaw34_ours.calls a b c d e f a b c d e f w rfl
  have HP := fun w => put a b c d e f ha hb hc hd he hf w
  have HT := fun w => take s w
  have HQ0 := fun w => put (tf s 0 1) (tf s 1 1) (tf s 2 2) (tf s 4 4) (tf s 8 4) (tf s 12 4) (tf_lt s _ _ (by decide)) (tf_lt s _ _ (by decide)) (tf_lt s _ _ (by decide)) (tf_lt s _ _ (by decide)) (tf_lt s _ _ (by decide)) (tf_lt s _ _ (by decide)) w
  have HF : (Hid (tcode s = 0) ∧ Hid (∀ w, Calls Try.prog 19 #[.agg #[.int .i64 (tf s 0 1), .int .i64 (tf s 1 1), .int .i64 (tf s 2 2), .int .i64 (tf s 4 4), .int .i64 (tf s 8 4), .int .i64 (tf s 12 4)]] w fun e' w' => e' = .returned (.tuple #[.string s, .int .i64 0]) ∧ Below w.heap.size w w')) ∨ (Hid ((tcode s == 0) = false ∧ (tcode s != 0) = true) ∧ tf s 0 1 = 0 ∧ tf s 1 1 = 0 ∧ tf s 2 2 = 0 ∧ tf s 4 4 = 0 ∧ tf s 8 4 = 0 ∧ tf s 12 4 = 0) := by
    by_cases hc : tcode s = 0
    · refine .inl ⟨Lib.hid hc, Lib.hid (fun w => ?_)⟩
      have := HQ0 w
      rw [put_back s hc] at this
      exact this
    · exact .inr ⟨Lib.hid ⟨by simpa using hc, by simpa using hc⟩, tf_bad hc _ _, tf_bad hc _ _, tf_bad hc _ _, tf_bad hc _ _, tf_bad hc _ _, tf_bad hc _ _⟩
  have HA := fun w => awake w
  clear HQ0
  have b0 : Below w.heap.size w (w.alloc (.cells #[.int .i64 a, .int .i64 b, .int .i64 c, .int .i64 d, .int .i64 e, .int .i64 f] 38)) := (Below.refl _ _).alloc (Nat.le_refl _) _
  have h0 : (w.alloc (.cells #[.int .i64 a, .int .i64 b, .int .i64 c, .int .i64 d, .int .i64 e, .int .i64 f] 38)).heap[w.heap.size]? = some (.cells #[.int .i64 a, .int .i64 b, .int .i64 c, .int .i64 d, .int .i64 e, .int .i64 f] 38 (0, 0)) := heap_alloc_new _ _
  obtain ⟨W0, hW0⟩ : ∃ W0, W0 = w.alloc (.cells #[.int .i64 a, .int .i64 b, .int .i64 c, .int .i64 d, .int .i64 e, .int .i64 f] 38) := ⟨_, rfl⟩
  rw [← hW0] at b0 h0
  generalize tf s 0 1 = x0 at *
  generalize tf s 1 1 = x1 at *
  generalize tf s 2 2 = x2 at *
  generalize tf s 4 4 = x3 at *
  generalize tf s 8 4 = x4 at *
  generalize tf s 12 4 = x5 at *
  generalize tcode s = tc at *
  cases ho : okr a b c d e f with
  | false =>
    rw [show cput a b c d e f = (⟨#[]⟩, 7) from by unfold cput; rw [ho]; rfl] at HP
    clear ha hb hc hd he hf ho
    go_enter Try.func5, Try.ntmps5
    go_wp2_with fail
    rw [← hW0]
    clear hW0
    refine (HO _).mono ?_
    rintro e' w1 ⟨rfl, b1⟩
    have HH := (b1.block _ (blk_lt h0)).trans h0
    have b2 := bstep b0 b1
    clear h0 b0 b1
    go_wp2_with fail
    refine (HP _).mono ?_
    rintro e' w2 ⟨rfl, b3⟩
    have HH := (b3.block _ (blk_lt HH)).trans HH
    have b2 := bstep b2 b3
    clear b3
    clear HH
    go_wp2_with fail
    refine (HT _).mono ?_
    rintro e' v1 ⟨rfl, b3⟩
    have b2 := bstep b2 b3
    have b5 : Below v1.heap.size v1 (v1.alloc (.cells #[.int .i64 x0, .int .i64 x1, .int .i64 x2, .int .i64 x3, .int .i64 x4, .int .i64 x5] 40)) := (Below.refl _ _).alloc (Nat.le_refl _) _
    have h5 : (v1.alloc (.cells #[.int .i64 x0, .int .i64 x1, .int .i64 x2, .int .i64 x3, .int .i64 x4, .int .i64 x5] 40)).heap[v1.heap.size]? = some (.cells #[.int .i64 x0, .int .i64 x1, .int .i64 x2, .int .i64 x3, .int .i64 x4, .int .i64 x5] 40 (0, 0)) := heap_alloc_new _ _
    obtain ⟨V5, hV5⟩ : ∃ V5, V5 = v1.alloc (.cells #[.int .i64 x0, .int .i64 x1, .int .i64 x2, .int .i64 x3, .int .i64 x4, .int .i64 x5] 40) := ⟨_, rfl⟩
    rw [← hV5] at b5 h5
    have b2 := bstep b2 b5
    clear b3 b5
    rcases HF with ⟨htc, HQ⟩ | ⟨HQ, rfl, rfl, rfl, rfl, rfl, rfl⟩
    · have HQ := HQ.out
      have htc := htc.out
      subst htc
      go_wp2_with fail
      rw [← hV5]
      clear hV5
      have g0 : V5.cell? ⟨v1.heap.size, 0, none⟩ = some (.int .i64 x0) := blk_cell h5 0
      have g1 : V5.cell? ⟨v1.heap.size, 1, none⟩ = some (.int .i64 x1) := blk_cell h5 1
      have g2 : V5.cell? ⟨v1.heap.size, 2, none⟩ = some (.int .i64 x2) := blk_cell h5 2
      have g3 : V5.cell? ⟨v1.heap.size, 3, none⟩ = some (.int .i64 x3) := blk_cell h5 3
      have g4 : V5.cell? ⟨v1.heap.size, 4, none⟩ = some (.int .i64 x4) := blk_cell h5 4
      have g5 : V5.cell? ⟨v1.heap.size, 5, none⟩ = some (.int .i64 x5) := blk_cell h5 5
      refine (HQ _).mono ?_
      rintro e' v6 ⟨rfl, b6⟩
      have b2 := bstep b2 b6
      clear g0 g1 g2 g3 g4 g5 h5 b6
      go_wp2_with fail
      refine (HA _).mono ?_
      rintro e' v7 ⟨rfl, b7⟩
      go_wp2
      go_ret
      exact ⟨rfl, bstep b2 b7⟩
    · obtain ⟨hq1, hq2⟩ := HQ.out
      go_wp2_with fail
      rw [← hV5]
      clear hV5
      refine (HA _).mono ?_
      rintro e' v7 ⟨rfl, b7⟩
      go_wp2
      go_ret
      exact ⟨rfl, bstep b2 b7⟩
  | true =>
    rw [show cput a b c d e f = (tx (byt a b c d e f), 0) from by unfold cput; rw [ho]; rfl] at HP
    have hl : ((tx (byt a b c d e f)).size : Int) = 16 := by rw [tx_size, byt_len]; rfl
    have HB1 := fun w => take (tx (byt a b c d e f)) w
    by_cases hop : 1 ≤ a ∧ a ≤ 13
    · have hcd := back_code ho
      rw [if_pos hop] at hcd
      obtain ⟨z0, z1, z2, z3, z4, z5⟩ := back_tf ho hop
      rw [hcd, z0, z1, z2, z3, z4, z5] at HB1
      obtain ⟨p1, p2⟩ := hop
      clear hcd z0 z1 z2 z3 z4 z5 ha hb hc hd he hf ho
      generalize tx (byt a b c d e f) = tb at *
      go_enter Try.func5, Try.ntmps5
      go_wp2_with fail
      rw [← hW0]
      clear hW0
      refine (HO _).mono ?_
      rintro e' w1 ⟨rfl, b1⟩
      have HH := (b1.block _ (blk_lt h0)).trans h0
      have b2 := bstep b0 b1
      clear h0 b0 b1
      go_wp2_with fail
      refine (HP _).mono ?_
      rintro e' w2 ⟨rfl, b3⟩
      have HH := (b3.block _ (blk_lt HH)).trans HH
      have b2 := bstep b2 b3
      clear b3
      have c0 : w2.cell? ⟨w.heap.size, 0, none⟩ = some (.int .i64 a) := blk_cell HH 0
      clear c0
      go_wp2_with fail
      refine (HB1 _).mono ?_
      rintro e' u1 ⟨rfl, b3⟩
      have HH := (b3.block _ (blk_lt HH)).trans HH
      have b2 := bstep b2 b3
      have b5 : Below u1.heap.size u1 (u1.alloc (.cells #[.int .i64 a, .int .i64 b, .int .i64 c, .int .i64 d, .int .i64 e, .int .i64 f] 40)) := (Below.refl _ _).alloc (Nat.le_refl _) _
      have h5 : (u1.alloc (.cells #[.int .i64 a, .int .i64 b, .int .i64 c, .int .i64 d, .int .i64 e, .int .i64 f] 40)).heap[u1.heap.size]? = some (.cells #[.int .i64 a, .int .i64 b, .int .i64 c, .int .i64 d, .int .i64 e, .int .i64 f] 40 (0, 0)) := heap_alloc_new _ _
      have c0 : u1.cell? ⟨w.heap.size, 0, none⟩ = some (.int .i64 a) := blk_cell HH 0
      have c00 : (u1.alloc (.cells #[.int .i64 a, .int .i64 b, .int .i64 c, .int .i64 d, .int .i64 e, .int .i64 f] 40)).cell? ⟨w.heap.size, 0, none⟩ = some (.int .i64 a) := blk_cell ((b5.block _ (blk_lt HH)).trans HH) 0
      obtain ⟨u2, hu2⟩ : ∃ u2, u2 = u1.alloc (.cells #[.int .i64 a, .int .i64 b, .int .i64 c, .int .i64 d, .int .i64 e, .int .i64 f] 40) := ⟨_, rfl⟩
      rw [← hu2] at b5 h5
      have HH := (b5.block _ (blk_lt HH)).trans HH
      have b2 := bstep b2 b5
      clear b3 b5
      have HL := Lib.hid HH
      have HM := Lib.hid h5
      clear HH h5
      go_wp2_with fail
      rw [← hu2]
      clear hu2 c0 c00
      have HH := HL.out
      have h5 := HM.out
      generalize u1.heap.size = X at *
      refine Reg.wp_plan (S := fun w' => w'.cell? ⟨X, 0, none⟩ = some (.int .i64 a) ∧ w'.cell? ⟨X, 1, none⟩ = some (.int .i64 b) ∧ w'.cell? ⟨X, 2, none⟩ = some (.int .i64 c) ∧ w'.cell? ⟨X, 3, none⟩ = some (.int .i64 d) ∧ w'.cell? ⟨X, 4, none⟩ = some (.int .i64 e) ∧ w'.cell? ⟨X, 5, none⟩ = some (.int .i64 f) ∧ w'.cell? ⟨w.heap.size, 0, none⟩ = some (.int .i64 a) ∧ w'.cell? ⟨w.heap.size, 1, none⟩ = some (.int .i64 b) ∧ w'.cell? ⟨w.heap.size, 2, none⟩ = some (.int .i64 c) ∧ w'.cell? ⟨w.heap.size, 3, none⟩ = some (.int .i64 d) ∧ w'.cell? ⟨w.heap.size, 4, none⟩ = some (.int .i64 e) ∧ w'.cell? ⟨w.heap.size, 5, none⟩ = some (.int .i64 f)) 24 (.fl 0 (.fl 1 (.fl 2 (.fl 3 (.fl 4 (.fl 5 (.fl 6 (.one 7 (.fl 8 (.fl 9 (.fl 10 (.fl 11 (.fl 12 (.fl 13 (.fl 14 (.fl 15 (.fl 16 (.fl 17 (.fl 18 (.fl 19 (.fl 20 (.fl 21 (.fl 22 (.fl 23 .done)))))))))))))))))))))))) (by kernel_rfl) (by kernel_rfl) (by kernel_rfl) (by kernel_rfl) (fun _ _ _ d _ h => by cases d <;> exact h) ?_ (fun hHeld => ?_)
      · exact ⟨blk_cell h5 0, blk_cell h5 1, blk_cell h5 2, blk_cell h5 3, blk_cell h5 4, blk_cell h5 5, blk_cell HH 0, blk_cell HH 1, blk_cell HH 2, blk_cell HH 3, blk_cell HH 4, blk_cell HH 5⟩
      refine Reg.G_on (o := { dst := some 35, op := Op.move (Operand.tmp 9), type := 4, pos := "law.go:35", after := #[], guard := Option.none }) (v := ?_) (by rfl) ?_ (fun wS hSw => ?_) ?_
      rotate_left
      · kernel_rfl
      · (try dsimp only at hSw); go_simp; (try with_reducible rfl)
      try simp only [Act.put, List.setIfInBounds_toArray, List.set_cons_zero, List.set_cons_succ]
      refine Reg.G_on (o := { dst := some 36, op := Op.move (Operand.tmp 35), type := 4, pos := "law.go:35", after := #[{ on := 0, ground := Ground.data }], guard := Option.none }) (v := ?_) (by rfl) ?_ (fun wS hSw => ?_) ?_
      rotate_left
      · kernel_rfl
      · (try dsimp only at hSw); go_simp; (try with_reducible rfl)
      try simp only [Act.put, List.setIfInBounds_toArray, List.set_cons_zero, List.set_cons_succ]
      refine Reg.G_on (o := { dst := some 37, op := Op.move (Operand.tmp 8), type := 30, pos := "law.go:35", after := #[{ on := 1, ground := Ground.guard }], guard := some (1, true) }) (v := ?_) (by rfl) ?_ (fun wS hSw => ?_) ?_
      rotate_left
      · kernel_rfl
      · (try dsimp only at hSw); go_simp; (try with_reducible rfl)
      try simp only [Act.put, List.setIfInBounds_toArray, List.set_cons_zero, List.set_cons_succ]
      refine Reg.G_on (o := { dst := some 38, op := Op.binOp BinOp.neq 30 (Operand.tmp 37) (Operand.const (Value.int IntKind.i64 0)) 30, type := 4, pos := "law.go:35", after := #[{ on := 2, ground := Ground.data }, { on := 1, ground := Ground.guard }], guard := some (1, true) }) (v := ?_) (by rfl) ?_ (fun wS hSw => ?_) ?_
      rotate_left
      · kernel_rfl
      · (try dsimp only at hSw); go_simp; (try with_reducible rfl)
      try simp only [Act.put, List.setIfInBounds_toArray, List.set_cons_zero, List.set_cons_succ]
      refine Reg.G_on (o := { dst := some 39, op := Op.move (Operand.tmp 38), type := 4, pos := "law.go:35", after := #[{ on := 3, ground := Ground.data }, { on := 1, ground := Ground.chain }, { on := 1, ground := Ground.guard }], guard := some (1, true) }) (v := ?_) (by rfl) ?_ (fun wS hSw => ?_) ?_
      rotate_left
      · kernel_rfl
      · (try dsimp only at hSw); go_simp; (try with_reducible rfl)
      try simp only [Act.put, List.setIfInBounds_toArray, List.set_cons_zero, List.set_cons_succ]
      refine Reg.G_on (o := { dst := some 40, op := Op.load 40 (Operand.tmp 7), type := 40, pos := "law.go:35", after := #[{ on := 4, ground := Ground.guard }], guard := some (4, false) }) (v := ?_) (by rfl) ?_ (fun wS hSw => ?_) ?_
      rotate_left
      · kernel_rfl
      · (try dsimp only at hSw); go_simp; (try with_reducible rfl)
      try simp only [Act.put, List.setIfInBounds_toArray, List.set_cons_zero, List.set_cons_succ]
      refine Reg.G_on (o := { dst := some 41, op := Op.load 38 (Operand.tmp 2), type := 38, pos := "law.go:35", after := #[{ on := 4, ground := Ground.guard }], guard := some (4, false) }) (v := ?_) (by rfl) ?_ (fun wS hSw => ?_) ?_
      rotate_left
      · kernel_rfl
      · (try dsimp only at hSw); go_simp; (try with_reducible rfl)
      try simp only [Act.put, List.setIfInBounds_toArray, List.set_cons_zero, List.set_cons_succ]
      refine Reg.G_step (o := { dst := some 42, op := Op.call { callee := Callee.value (Operand.func 20), args := #[Operand.tmp 41], argTypes := #[38] }, type := 40, pos := "law.go:35", after := #[{ on := 6, ground := Ground.data }, { on := 4, ground := Ground.chain }, { on := 4, ground := Ground.guard }], guard := some (4, false) }) (by rfl) ?_ (fun K hK => ?_)
      · kernel_rfl
      go_simp
      refine (HO _).mono ?_
      rintro e w' ⟨rfl, hb⟩
      refine hK.out _ _ ?_ (fun hHeld => ?_)
      · exact ⟨argb hb hHeld.1, argb hb hHeld.2.1, argb hb hHeld.2.2.1, argb hb hHeld.2.2.2.1, argb hb hHeld.2.2.2.2.1, argb hb hHeld.2.2.2.2.2.1, argb hb hHeld.2.2.2.2.2.2.1, argb hb hHeld.2.2.2.2.2.2.2.1, argb hb hHeld.2.2.2.2.2.2.2.2.1, argb hb hHeld.2.2.2.2.2.2.2.2.2.1, argb hb hHeld.2.2.2.2.2.2.2.2.2.2.1, argb hb hHeld.2.2.2.2.2.2.2.2.2.2.2⟩
      clear hK K
      try simp only [Act.put, List.setIfInBounds_toArray, List.set_cons_zero, List.set_cons_succ]
      refine Reg.G_on (o := { dst := some 43, op := Op.binOp BinOp.neq 40 (Operand.tmp 40) (Operand.tmp 42) 40, type := 4, pos := "law.go:35", after := #[{ on := 5, ground := Ground.data }, { on := 7, ground := Ground.data }, { on := 4, ground := Ground.guard }], guard := some (4, false) }) (v := ?_) (by rfl) ?_ (fun wS hSw => ?_) ?_
      rotate_left
      · kernel_rfl
      · (try dsimp only at hSw); go_simp; (try with_reducible rfl)
      try simp only [Act.put, List.setIfInBounds_toArray, List.set_cons_zero, List.set_cons_succ]
      refine Reg.G_on (o := { dst := some 44, op := Op.pick (Operand.tmp 39) (Operand.const (Value.bool true)) (Operand.tmp 43), type := 4, pos := "law.go:35", after := #[{ on := 4, ground := Ground.data }, { on := 8, ground := Ground.data }, { on := 1, ground := Ground.guard }], guard := some (1, true) }) (v := ?_) (by rfl) ?_ (fun wS hSw => ?_) ?_
      rotate_left
      · kernel_rfl
      · (try dsimp only at hSw); go_simp; (try with_reducible rfl)
      try simp only [Act.put, List.setIfInBounds_toArray, List.set_cons_zero, List.set_cons_succ]
      refine Reg.G_on (o := { dst := some 45, op := Op.pick (Operand.tmp 36) (Operand.tmp 44) (Operand.const (Value.bool false)), type := 4, pos := "law.go:35", after := #[{ on := 1, ground := Ground.data }, { on := 9, ground := Ground.data }], guard := Option.none }) (v := ?_) (by rfl) ?_ (fun wS hSw => ?_) ?_
      rotate_left
      · kernel_rfl
      · (try dsimp only at hSw); go_simp; (try with_reducible rfl)
      try simp only [Act.put, List.setIfInBounds_toArray, List.set_cons_zero, List.set_cons_succ]
      refine Reg.G_on (o := { dst := some 46, op := Op.move (Operand.tmp 45), type := 4, pos := "law.go:35", after := #[{ on := 10, ground := Ground.data }, { on := 7, ground := Ground.chain }], guard := Option.none }) (v := ?_) (by rfl) ?_ (fun wS hSw => ?_) ?_
      rotate_left
      · kernel_rfl
      · (try dsimp only at hSw); go_simp; (try with_reducible rfl)
      try simp only [Act.put, List.setIfInBounds_toArray, List.set_cons_zero, List.set_cons_succ]
      refine Reg.G_on (o := { dst := some 47, op := Op.move (Operand.tmp 9), type := 4, pos := "law.go:35", after := #[{ on := 11, ground := Ground.guard }], guard := some (11, false) }) (v := ?_) (by rfl) ?_ (fun wS hSw => ?_) ?_
      rotate_left
      · kernel_rfl
      · (try dsimp only at hSw); go_simp; (try with_reducible rfl)
      try simp only [Act.put, List.setIfInBounds_toArray, List.set_cons_zero, List.set_cons_succ]
      refine Reg.G_on (o := { dst := some 48, op := Op.unOp UnOp.not 4 (Operand.tmp 47), type := 4, pos := "law.go:35", after := #[{ on := 12, ground := Ground.data }, { on := 11, ground := Ground.guard }], guard := some (11, false) }) (v := ?_) (by rfl) ?_ (fun wS hSw => ?_) ?_
      rotate_left
      · kernel_rfl
      · (try dsimp only at hSw); go_simp; (try with_reducible rfl)
      try simp only [Act.put, List.setIfInBounds_toArray, List.set_cons_zero, List.set_cons_succ]
      refine Reg.G_on (o := { dst := some 49, op := Op.move (Operand.tmp 48), type := 4, pos := "law.go:35", after := #[{ on := 13, ground := Ground.data }, { on := 11, ground := Ground.chain }, { on := 11, ground := Ground.guard }], guard := some (11, false) }) (v := ?_) (by rfl) ?_ (fun wS hSw => ?_) ?_
      rotate_left
      · kernel_rfl
      · (try dsimp only at hSw); go_simp; (try with_reducible rfl)
      try simp only [Act.put, List.setIfInBounds_toArray, List.set_cons_zero, List.set_cons_succ]
      refine Reg.G_off (o := { dst := some 50, op := Op.move (Operand.tmp 8), type := 30, pos := "law.go:35", after := #[{ on := 14, ground := Ground.guard }], guard := some (14, true) }) (by rfl) ?_ ?_
      · kernel_rfl
      try simp only [Act.put, List.setIfInBounds_toArray, List.set_cons_zero, List.set_cons_succ]
      refine Reg.G_off (o := { dst := some 51, op := Op.binOp BinOp.neq 30 (Operand.tmp 50) (Operand.const (Value.int IntKind.i64 4)) 30, type := 4, pos := "law.go:35", after := #[{ on := 15, ground := Ground.data }, { on := 14, ground := Ground.guard }], guard := some (14, true) }) (by rfl) ?_ ?_
      · kernel_rfl
      try simp only [Act.put, List.setIfInBounds_toArray, List.set_cons_zero, List.set_cons_succ]
      refine Reg.G_on (o := { dst := some 52, op := Op.pick (Operand.tmp 49) (Operand.tmp 51) (Operand.const (Value.bool false)), type := 4, pos := "law.go:35", after := #[{ on := 14, ground := Ground.data }, { on := 16, ground := Ground.data }, { on := 11, ground := Ground.guard }], guard := some (11, false) }) (v := ?_) (by rfl) ?_ (fun wS hSw => ?_) ?_
      rotate_left
      · kernel_rfl
      · (try dsimp only at hSw); go_simp; (try with_reducible rfl)
      try simp only [Act.put, List.setIfInBounds_toArray, List.set_cons_zero, List.set_cons_succ]
      refine Reg.G_on (o := { dst := some 53, op := Op.pick (Operand.tmp 46) (Operand.const (Value.bool true)) (Operand.tmp 52), type := 4, pos := "law.go:35", after := #[{ on := 11, ground := Ground.data }, { on := 17, ground := Ground.data }], guard := Option.none }) (v := ?_) (by rfl) ?_ (fun wS hSw => ?_) ?_
      rotate_left
      · kernel_rfl
      · (try dsimp only at hSw); go_simp; (try with_reducible rfl)
      try simp only [Act.put, List.setIfInBounds_toArray, List.set_cons_zero, List.set_cons_succ]
      refine Reg.G_on (o := { dst := some 54, op := Op.move (Operand.tmp 53), type := 4, pos := "law.go:35", after := #[{ on := 18, ground := Ground.data }, { on := 14, ground := Ground.chain }], guard := Option.none }) (v := ?_) (by rfl) ?_ (fun wS hSw => ?_) ?_
      rotate_left
      · kernel_rfl
      · (try dsimp only at hSw); go_simp; (try with_reducible rfl)
      try simp only [Act.put, List.setIfInBounds_toArray, List.set_cons_zero, List.set_cons_succ]
      refine Reg.G_on (o := { dst := some 55, op := Op.move (Operand.tmp 5), type := 9, pos := "law.go:35", after := #[{ on := 19, ground := Ground.guard }], guard := some (19, false) }) (v := ?_) (by rfl) ?_ (fun wS hSw => ?_) ?_
      rotate_left
      · kernel_rfl
      · (try dsimp only at hSw); go_simp; (try with_reducible rfl)
      try simp only [Act.put, List.setIfInBounds_toArray, List.set_cons_zero, List.set_cons_succ]
      refine Reg.G_on (o := { dst := some 56, op := Op.call { callee := Callee.builtin Builtin.len, args := #[Operand.tmp 55], argTypes := #[9] }, type := 3, pos := "law.go:35", after := #[{ on := 20, ground := Ground.data }, { on := 19, ground := Ground.guard }], guard := some (19, false) }) (v := ?_) (by rfl) ?_ (fun wS hSw => ?_) ?_
      rotate_left
      · kernel_rfl
      · (try dsimp only at hSw); go_simp; (try with_reducible rfl)
      try simp only [Act.put, List.setIfInBounds_toArray, List.set_cons_zero, List.set_cons_succ]
      refine Reg.G_on (o := { dst := some 57, op := Op.binOp BinOp.neq 3 (Operand.tmp 56) (Operand.const (Value.int IntKind.i64 16)) 3, type := 4, pos := "law.go:35", after := #[{ on := 21, ground := Ground.data }, { on := 19, ground := Ground.guard }], guard := some (19, false) }) (v := ?_) (by rfl) ?_ (fun wS hSw => ?_) ?_
      rotate_left
      · kernel_rfl
      · (try dsimp only at hSw); go_simp; (try with_reducible rfl)
      try simp only [Act.put, List.setIfInBounds_toArray, List.set_cons_zero, List.set_cons_succ]
      refine Reg.G_on (o := { dst := some 58, op := Op.pick (Operand.tmp 54) (Operand.const (Value.bool true)) (Operand.tmp 57), type := 4, pos := "law.go:35", after := #[{ on := 19, ground := Ground.data }, { on := 22, ground := Ground.data }], guard := Option.none }) (v := ?_) (by rfl) ?_ (fun wS hSw => ?_) ?_
      rotate_left
      · kernel_rfl
      · (try dsimp only at hSw); go_simp; (try with_reducible rfl)
      try simp only [Act.put, List.setIfInBounds_toArray, List.set_cons_zero, List.set_cons_succ]
      refine Reg.G_done ?_
      have b2 := bstep b2 ((Below.refl _ _).drew.trans hb)
      clear hb HL HM HH h5
      go_wp2_with fail
      refine (HT _).mono ?_
      rintro e' v1 ⟨rfl, b3⟩
      have b2 := bstep b2 b3
      have b5 : Below v1.heap.size v1 (v1.alloc (.cells #[.int .i64 x0, .int .i64 x1, .int .i64 x2, .int .i64 x3, .int .i64 x4, .int .i64 x5] 40)) := (Below.refl _ _).alloc (Nat.le_refl _) _
      have h5 : (v1.alloc (.cells #[.int .i64 x0, .int .i64 x1, .int .i64 x2, .int .i64 x3, .int .i64 x4, .int .i64 x5] 40)).heap[v1.heap.size]? = some (.cells #[.int .i64 x0, .int .i64 x1, .int .i64 x2, .int .i64 x3, .int .i64 x4, .int .i64 x5] 40 (0, 0)) := heap_alloc_new _ _
      obtain ⟨V5, hV5⟩ : ∃ V5, V5 = v1.alloc (.cells #[.int .i64 x0, .int .i64 x1, .int .i64 x2, .int .i64 x3, .int .i64 x4, .int .i64 x5] 40) := ⟨_, rfl⟩
      rw [← hV5] at b5 h5
      have b2 := bstep b2 b5
      clear b3 b5
      rcases HF with ⟨htc, HQ⟩ | ⟨HQ, rfl, rfl, rfl, rfl, rfl, rfl⟩
      · have HQ := HQ.out
        have htc := htc.out
        subst htc
        go_wp2_with fail
        rw [← hV5]
        clear hV5
        have g0 : V5.cell? ⟨v1.heap.size, 0, none⟩ = some (.int .i64 x0) := blk_cell h5 0
        have g1 : V5.cell? ⟨v1.heap.size, 1, none⟩ = some (.int .i64 x1) := blk_cell h5 1
        have g2 : V5.cell? ⟨v1.heap.size, 2, none⟩ = some (.int .i64 x2) := blk_cell h5 2
        have g3 : V5.cell? ⟨v1.heap.size, 3, none⟩ = some (.int .i64 x3) := blk_cell h5 3
        have g4 : V5.cell? ⟨v1.heap.size, 4, none⟩ = some (.int .i64 x4) := blk_cell h5 4
        have g5 : V5.cell? ⟨v1.heap.size, 5, none⟩ = some (.int .i64 x5) := blk_cell h5 5
        refine (HQ _).mono ?_
        rintro e' v6 ⟨rfl, b6⟩
        have b2 := bstep b2 b6
        clear g0 g1 g2 g3 g4 g5 h5 b6
        go_wp2_with fail
        refine (HA _).mono ?_
        rintro e' v7 ⟨rfl, b7⟩
        go_wp2
        go_ret
        exact ⟨rfl, bstep b2 b7⟩
      · obtain ⟨hq1, hq2⟩ := HQ.out
        go_wp2_with fail
        rw [← hV5]
        clear hV5
        refine (HA _).mono ?_
        rintro e' v7 ⟨rfl, b7⟩
        go_wp2
        go_ret
        exact ⟨rfl, bstep b2 b7⟩
    · have hcd := back_code ho
      rw [if_neg hop] at hcd
      have hv : ∀ a' s', tf (tx (byt a b c d e f)) a' s' = 0 := tf_bad (by rw [hcd]; decide)
      rw [hcd] at HB1
      simp only [hv] at HB1
      have hp : a < 1 ∨ 13 < a := by omega
      clear hcd hv ha hb hc hd he hf ho hop
      generalize tx (byt a b c d e f) = tb at *
      rcases hp with p1 | p2'
      · go_enter Try.func5, Try.ntmps5
        go_wp2_with fail
        rw [← hW0]
        clear hW0
        refine (HO _).mono ?_
        rintro e' w1 ⟨rfl, b1⟩
        have HH := (b1.block _ (blk_lt h0)).trans h0
        have b2 := bstep b0 b1
        clear h0 b0 b1
        go_wp2_with fail
        refine (HP _).mono ?_
        rintro e' w2 ⟨rfl, b3⟩
        have HH := (b3.block _ (blk_lt HH)).trans HH
        have b2 := bstep b2 b3
        clear b3
        have c0 : w2.cell? ⟨w.heap.size, 0, none⟩ = some (.int .i64 a) := blk_cell HH 0
        clear c0
        go_wp2_with fail
        refine (HB1 _).mono ?_
        rintro e' u1 ⟨rfl, b3⟩
        have HH := (b3.block _ (blk_lt HH)).trans HH
        have b2 := bstep b2 b3
        have b5 : Below u1.heap.size u1 (u1.alloc (.cells #[.int .i64 0, .int .i64 0, .int .i64 0, .int .i64 0, .int .i64 0, .int .i64 0] 40)) := (Below.refl _ _).alloc (Nat.le_refl _) _
        have h5 : (u1.alloc (.cells #[.int .i64 0, .int .i64 0, .int .i64 0, .int .i64 0, .int .i64 0, .int .i64 0] 40)).heap[u1.heap.size]? = some (.cells #[.int .i64 0, .int .i64 0, .int .i64 0, .int .i64 0, .int .i64 0, .int .i64 0] 40 (0, 0)) := heap_alloc_new _ _
        have c0 : u1.cell? ⟨w.heap.size, 0, none⟩ = some (.int .i64 a) := blk_cell HH 0
        have c00 : (u1.alloc (.cells #[.int .i64 0, .int .i64 0, .int .i64 0, .int .i64 0, .int .i64 0, .int .i64 0] 40)).cell? ⟨w.heap.size, 0, none⟩ = some (.int .i64 a) := blk_cell ((b5.block _ (blk_lt HH)).trans HH) 0
        obtain ⟨u2, hu2⟩ : ∃ u2, u2 = u1.alloc (.cells #[.int .i64 0, .int .i64 0, .int .i64 0, .int .i64 0, .int .i64 0, .int .i64 0] 40) := ⟨_, rfl⟩
        rw [← hu2] at b5 h5
        have HH := (b5.block _ (blk_lt HH)).trans HH
        have b2 := bstep b2 b5
        clear b3 b5
        have HL := Lib.hid HH
        have HM := Lib.hid h5
        clear HH h5
        go_wp2_with fail
        rw [← hu2]
        clear hu2 c0 c00
        have HH := HL.out
        have h5 := HM.out
        generalize u1.heap.size = X at *
        refine Reg.wp_plan (S := fun w' => w'.cell? ⟨X, 0, none⟩ = some (.int .i64 0) ∧ w'.cell? ⟨X, 1, none⟩ = some (.int .i64 0) ∧ w'.cell? ⟨X, 2, none⟩ = some (.int .i64 0) ∧ w'.cell? ⟨X, 3, none⟩ = some (.int .i64 0) ∧ w'.cell? ⟨X, 4, none⟩ = some (.int .i64 0) ∧ w'.cell? ⟨X, 5, none⟩ = some (.int .i64 0) ∧ w'.cell? ⟨w.heap.size, 0, none⟩ = some (.int .i64 a) ∧ w'.cell? ⟨w.heap.size, 1, none⟩ = some (.int .i64 b) ∧ w'.cell? ⟨w.heap.size, 2, none⟩ = some (.int .i64 c) ∧ w'.cell? ⟨w.heap.size, 3, none⟩ = some (.int .i64 d) ∧ w'.cell? ⟨w.heap.size, 4, none⟩ = some (.int .i64 e) ∧ w'.cell? ⟨w.heap.size, 5, none⟩ = some (.int .i64 f)) 24 (.fl 0 (.fl 1 (.fl 2 (.fl 3 (.fl 4 (.fl 5 (.fl 6 (.one 7 (.fl 8 (.fl 9 (.fl 10 (.fl 11 (.fl 12 (.fl 13 (.fl 14 (.fl 15 (.fl 16 (.fl 17 (.fl 18 (.fl 19 (.fl 20 (.fl 21 (.fl 22 (.fl 23 .done)))))))))))))))))))))))) (by kernel_rfl) (by kernel_rfl) (by kernel_rfl) (by kernel_rfl) (fun _ _ _ d _ h => by cases d <;> exact h) ?_ (fun hHeld => ?_)
        · exact ⟨blk_cell h5 0, blk_cell h5 1, blk_cell h5 2, blk_cell h5 3, blk_cell h5 4, blk_cell h5 5, blk_cell HH 0, blk_cell HH 1, blk_cell HH 2, blk_cell HH 3, blk_cell HH 4, blk_cell HH 5⟩
        refine Reg.G_on (o := { dst := some 35, op := Op.move (Operand.tmp 9), type := 4, pos := "law.go:35", after := #[], guard := Option.none }) (v := ?_) (by rfl) ?_ (fun wS hSw => ?_) ?_
        rotate_left
        · kernel_rfl
        · (try dsimp only at hSw); go_simp; (try with_reducible rfl)
        try simp only [Act.put, List.setIfInBounds_toArray, List.set_cons_zero, List.set_cons_succ]
        refine Reg.G_on (o := { dst := some 36, op := Op.move (Operand.tmp 35), type := 4, pos := "law.go:35", after := #[{ on := 0, ground := Ground.data }], guard := Option.none }) (v := ?_) (by rfl) ?_ (fun wS hSw => ?_) ?_
        rotate_left
        · kernel_rfl
        · (try dsimp only at hSw); go_simp; (try with_reducible rfl)
        try simp only [Act.put, List.setIfInBounds_toArray, List.set_cons_zero, List.set_cons_succ]
        refine Reg.G_off (o := { dst := some 37, op := Op.move (Operand.tmp 8), type := 30, pos := "law.go:35", after := #[{ on := 1, ground := Ground.guard }], guard := some (1, true) }) (by rfl) ?_ ?_
        · kernel_rfl
        try simp only [Act.put, List.setIfInBounds_toArray, List.set_cons_zero, List.set_cons_succ]
        refine Reg.G_off (o := { dst := some 38, op := Op.binOp BinOp.neq 30 (Operand.tmp 37) (Operand.const (Value.int IntKind.i64 0)) 30, type := 4, pos := "law.go:35", after := #[{ on := 2, ground := Ground.data }, { on := 1, ground := Ground.guard }], guard := some (1, true) }) (by rfl) ?_ ?_
        · kernel_rfl
        try simp only [Act.put, List.setIfInBounds_toArray, List.set_cons_zero, List.set_cons_succ]
        refine Reg.G_off (o := { dst := some 39, op := Op.move (Operand.tmp 38), type := 4, pos := "law.go:35", after := #[{ on := 3, ground := Ground.data }, { on := 1, ground := Ground.chain }, { on := 1, ground := Ground.guard }], guard := some (1, true) }) (by rfl) ?_ ?_
        · kernel_rfl
        try simp only [Act.put, List.setIfInBounds_toArray, List.set_cons_zero, List.set_cons_succ]
        refine Reg.G_off (o := { dst := some 40, op := Op.load 40 (Operand.tmp 7), type := 40, pos := "law.go:35", after := #[{ on := 4, ground := Ground.guard }], guard := some (4, false) }) (by rfl) ?_ ?_
        · kernel_rfl
        try simp only [Act.put, List.setIfInBounds_toArray, List.set_cons_zero, List.set_cons_succ]
        refine Reg.G_off (o := { dst := some 41, op := Op.load 38 (Operand.tmp 2), type := 38, pos := "law.go:35", after := #[{ on := 4, ground := Ground.guard }], guard := some (4, false) }) (by rfl) ?_ ?_
        · kernel_rfl
        try simp only [Act.put, List.setIfInBounds_toArray, List.set_cons_zero, List.set_cons_succ]
        refine Reg.G_skip (o := { dst := some 42, op := Op.call { callee := Callee.value (Operand.func 20), args := #[Operand.tmp 41], argTypes := #[38] }, type := 40, pos := "law.go:35", after := #[{ on := 6, ground := Ground.data }, { on := 4, ground := Ground.chain }, { on := 4, ground := Ground.guard }], guard := some (4, false) }) (by rfl) ?_ (by assumption) ?_
        · kernel_rfl
        try simp only [Act.put, List.setIfInBounds_toArray, List.set_cons_zero, List.set_cons_succ]
        refine Reg.G_off (o := { dst := some 43, op := Op.binOp BinOp.neq 40 (Operand.tmp 40) (Operand.tmp 42) 40, type := 4, pos := "law.go:35", after := #[{ on := 5, ground := Ground.data }, { on := 7, ground := Ground.data }, { on := 4, ground := Ground.guard }], guard := some (4, false) }) (by rfl) ?_ ?_
        · kernel_rfl
        try simp only [Act.put, List.setIfInBounds_toArray, List.set_cons_zero, List.set_cons_succ]
        refine Reg.G_off (o := { dst := some 44, op := Op.pick (Operand.tmp 39) (Operand.const (Value.bool true)) (Operand.tmp 43), type := 4, pos := "law.go:35", after := #[{ on := 4, ground := Ground.data }, { on := 8, ground := Ground.data }, { on := 1, ground := Ground.guard }], guard := some (1, true) }) (by rfl) ?_ ?_
        · kernel_rfl
        try simp only [Act.put, List.setIfInBounds_toArray, List.set_cons_zero, List.set_cons_succ]
        refine Reg.G_on (o := { dst := some 45, op := Op.pick (Operand.tmp 36) (Operand.tmp 44) (Operand.const (Value.bool false)), type := 4, pos := "law.go:35", after := #[{ on := 1, ground := Ground.data }, { on := 9, ground := Ground.data }], guard := Option.none }) (v := ?_) (by rfl) ?_ (fun wS hSw => ?_) ?_
        rotate_left
        · kernel_rfl
        · (try dsimp only at hSw); go_simp; (try with_reducible rfl)
        try simp only [Act.put, List.setIfInBounds_toArray, List.set_cons_zero, List.set_cons_succ]
        refine Reg.G_on (o := { dst := some 46, op := Op.move (Operand.tmp 45), type := 4, pos := "law.go:35", after := #[{ on := 10, ground := Ground.data }, { on := 7, ground := Ground.chain }], guard := Option.none }) (v := ?_) (by rfl) ?_ (fun wS hSw => ?_) ?_
        rotate_left
        · kernel_rfl
        · (try dsimp only at hSw); go_simp; (try with_reducible rfl)
        try simp only [Act.put, List.setIfInBounds_toArray, List.set_cons_zero, List.set_cons_succ]
        refine Reg.G_on (o := { dst := some 47, op := Op.move (Operand.tmp 9), type := 4, pos := "law.go:35", after := #[{ on := 11, ground := Ground.guard }], guard := some (11, false) }) (v := ?_) (by rfl) ?_ (fun wS hSw => ?_) ?_
        rotate_left
        · kernel_rfl
        · (try dsimp only at hSw); go_simp; (try with_reducible rfl)
        try simp only [Act.put, List.setIfInBounds_toArray, List.set_cons_zero, List.set_cons_succ]
        refine Reg.G_on (o := { dst := some 48, op := Op.unOp UnOp.not 4 (Operand.tmp 47), type := 4, pos := "law.go:35", after := #[{ on := 12, ground := Ground.data }, { on := 11, ground := Ground.guard }], guard := some (11, false) }) (v := ?_) (by rfl) ?_ (fun wS hSw => ?_) ?_
        rotate_left
        · kernel_rfl
        · (try dsimp only at hSw); go_simp; (try with_reducible rfl)
        try simp only [Act.put, List.setIfInBounds_toArray, List.set_cons_zero, List.set_cons_succ]
        refine Reg.G_on (o := { dst := some 49, op := Op.move (Operand.tmp 48), type := 4, pos := "law.go:35", after := #[{ on := 13, ground := Ground.data }, { on := 11, ground := Ground.chain }, { on := 11, ground := Ground.guard }], guard := some (11, false) }) (v := ?_) (by rfl) ?_ (fun wS hSw => ?_) ?_
        rotate_left
        · kernel_rfl
        · (try dsimp only at hSw); go_simp; (try with_reducible rfl)
        try simp only [Act.put, List.setIfInBounds_toArray, List.set_cons_zero, List.set_cons_succ]
        refine Reg.G_on (o := { dst := some 50, op := Op.move (Operand.tmp 8), type := 30, pos := "law.go:35", after := #[{ on := 14, ground := Ground.guard }], guard := some (14, true) }) (v := ?_) (by rfl) ?_ (fun wS hSw => ?_) ?_
        rotate_left
        · kernel_rfl
        · (try dsimp only at hSw); go_simp; (try with_reducible rfl)
        try simp only [Act.put, List.setIfInBounds_toArray, List.set_cons_zero, List.set_cons_succ]
        refine Reg.G_on (o := { dst := some 51, op := Op.binOp BinOp.neq 30 (Operand.tmp 50) (Operand.const (Value.int IntKind.i64 4)) 30, type := 4, pos := "law.go:35", after := #[{ on := 15, ground := Ground.data }, { on := 14, ground := Ground.guard }], guard := some (14, true) }) (v := ?_) (by rfl) ?_ (fun wS hSw => ?_) ?_
        rotate_left
        · kernel_rfl
        · (try dsimp only at hSw); go_simp; (try with_reducible rfl)
        try simp only [Act.put, List.setIfInBounds_toArray, List.set_cons_zero, List.set_cons_succ]
        refine Reg.G_on (o := { dst := some 52, op := Op.pick (Operand.tmp 49) (Operand.tmp 51) (Operand.const (Value.bool false)), type := 4, pos := "law.go:35", after := #[{ on := 14, ground := Ground.data }, { on := 16, ground := Ground.data }, { on := 11, ground := Ground.guard }], guard := some (11, false) }) (v := ?_) (by rfl) ?_ (fun wS hSw => ?_) ?_
        rotate_left
        · kernel_rfl
        · (try dsimp only at hSw); go_simp; (try with_reducible rfl)
        try simp only [Act.put, List.setIfInBounds_toArray, List.set_cons_zero, List.set_cons_succ]
        refine Reg.G_on (o := { dst := some 53, op := Op.pick (Operand.tmp 46) (Operand.const (Value.bool true)) (Operand.tmp 52), type := 4, pos := "law.go:35", after := #[{ on := 11, ground := Ground.data }, { on := 17, ground := Ground.data }], guard := Option.none }) (v := ?_) (by rfl) ?_ (fun wS hSw => ?_) ?_
        rotate_left
        · kernel_rfl
        · (try dsimp only at hSw); go_simp; (try with_reducible rfl)
        try simp only [Act.put, List.setIfInBounds_toArray, List.set_cons_zero, List.set_cons_succ]
        refine Reg.G_on (o := { dst := some 54, op := Op.move (Operand.tmp 53), type := 4, pos := "law.go:35", after := #[{ on := 18, ground := Ground.data }, { on := 14, ground := Ground.chain }], guard := Option.none }) (v := ?_) (by rfl) ?_ (fun wS hSw => ?_) ?_
        rotate_left
        · kernel_rfl
        · (try dsimp only at hSw); go_simp; (try with_reducible rfl)
        try simp only [Act.put, List.setIfInBounds_toArray, List.set_cons_zero, List.set_cons_succ]
        refine Reg.G_on (o := { dst := some 55, op := Op.move (Operand.tmp 5), type := 9, pos := "law.go:35", after := #[{ on := 19, ground := Ground.guard }], guard := some (19, false) }) (v := ?_) (by rfl) ?_ (fun wS hSw => ?_) ?_
        rotate_left
        · kernel_rfl
        · (try dsimp only at hSw); go_simp; (try with_reducible rfl)
        try simp only [Act.put, List.setIfInBounds_toArray, List.set_cons_zero, List.set_cons_succ]
        refine Reg.G_on (o := { dst := some 56, op := Op.call { callee := Callee.builtin Builtin.len, args := #[Operand.tmp 55], argTypes := #[9] }, type := 3, pos := "law.go:35", after := #[{ on := 20, ground := Ground.data }, { on := 19, ground := Ground.guard }], guard := some (19, false) }) (v := ?_) (by rfl) ?_ (fun wS hSw => ?_) ?_
        rotate_left
        · kernel_rfl
        · (try dsimp only at hSw); go_simp; (try with_reducible rfl)
        try simp only [Act.put, List.setIfInBounds_toArray, List.set_cons_zero, List.set_cons_succ]
        refine Reg.G_on (o := { dst := some 57, op := Op.binOp BinOp.neq 3 (Operand.tmp 56) (Operand.const (Value.int IntKind.i64 16)) 3, type := 4, pos := "law.go:35", after := #[{ on := 21, ground := Ground.data }, { on := 19, ground := Ground.guard }], guard := some (19, false) }) (v := ?_) (by rfl) ?_ (fun wS hSw => ?_) ?_
        rotate_left
        · kernel_rfl
        · (try dsimp only at hSw); go_simp; (try with_reducible rfl)
        try simp only [Act.put, List.setIfInBounds_toArray, List.set_cons_zero, List.set_cons_succ]
        refine Reg.G_on (o := { dst := some 58, op := Op.pick (Operand.tmp 54) (Operand.const (Value.bool true)) (Operand.tmp 57), type := 4, pos := "law.go:35", after := #[{ on := 19, ground := Ground.data }, { on := 22, ground := Ground.data }], guard := Option.none }) (v := ?_) (by rfl) ?_ (fun wS hSw => ?_) ?_
        rotate_left
        · kernel_rfl
        · (try dsimp only at hSw); go_simp; (try with_reducible rfl)
        try simp only [Act.put, List.setIfInBounds_toArray, List.set_cons_zero, List.set_cons_succ]
        refine Reg.G_done ?_
        have b2 := bstep b2 (Below.refl _ _).drew
        clear HL HM HH h5
        go_wp2_with fail
        refine (HT _).mono ?_
        rintro e' v1 ⟨rfl, b3⟩
        have b2 := bstep b2 b3
        have b5 : Below v1.heap.size v1 (v1.alloc (.cells #[.int .i64 x0, .int .i64 x1, .int .i64 x2, .int .i64 x3, .int .i64 x4, .int .i64 x5] 40)) := (Below.refl _ _).alloc (Nat.le_refl _) _
        have h5 : (v1.alloc (.cells #[.int .i64 x0, .int .i64 x1, .int .i64 x2, .int .i64 x3, .int .i64 x4, .int .i64 x5] 40)).heap[v1.heap.size]? = some (.cells #[.int .i64 x0, .int .i64 x1, .int .i64 x2, .int .i64 x3, .int .i64 x4, .int .i64 x5] 40 (0, 0)) := heap_alloc_new _ _
        obtain ⟨V5, hV5⟩ : ∃ V5, V5 = v1.alloc (.cells #[.int .i64 x0, .int .i64 x1, .int .i64 x2, .int .i64 x3, .int .i64 x4, .int .i64 x5] 40) := ⟨_, rfl⟩
        rw [← hV5] at b5 h5
        have b2 := bstep b2 b5
        clear b3 b5
        rcases HF with ⟨htc, HQ⟩ | ⟨HQ, rfl, rfl, rfl, rfl, rfl, rfl⟩
        · have HQ := HQ.out
          have htc := htc.out
          subst htc
          go_wp2_with fail
          rw [← hV5]
          clear hV5
          have g0 : V5.cell? ⟨v1.heap.size, 0, none⟩ = some (.int .i64 x0) := blk_cell h5 0
          have g1 : V5.cell? ⟨v1.heap.size, 1, none⟩ = some (.int .i64 x1) := blk_cell h5 1
          have g2 : V5.cell? ⟨v1.heap.size, 2, none⟩ = some (.int .i64 x2) := blk_cell h5 2
          have g3 : V5.cell? ⟨v1.heap.size, 3, none⟩ = some (.int .i64 x3) := blk_cell h5 3
          have g4 : V5.cell? ⟨v1.heap.size, 4, none⟩ = some (.int .i64 x4) := blk_cell h5 4
          have g5 : V5.cell? ⟨v1.heap.size, 5, none⟩ = some (.int .i64 x5) := blk_cell h5 5
          refine (HQ _).mono ?_
          rintro e' v6 ⟨rfl, b6⟩
          have b2 := bstep b2 b6
          clear g0 g1 g2 g3 g4 g5 h5 b6
          go_wp2_with fail
          refine (HA _).mono ?_
          rintro e' v7 ⟨rfl, b7⟩
          go_wp2
          go_ret
          exact ⟨rfl, bstep b2 b7⟩
        · obtain ⟨hq1, hq2⟩ := HQ.out
          go_wp2_with fail
          rw [← hV5]
          clear hV5
          refine (HA _).mono ?_
          rintro e' v7 ⟨rfl, b7⟩
          go_wp2
          go_ret
          exact ⟨rfl, bstep b2 b7⟩
      · have p2 : ¬ a ≤ 13 := by omega
        have p1 : 1 ≤ a := by omega
        have p3 : decide (a ≤ 13) = false := decide_eq_false p2
        have p4 : 13 < a := p2'
        clear p2'
        go_enter Try.func5, Try.ntmps5
        go_wp2_with fail
        rw [← hW0]
        clear hW0
        refine (HO _).mono ?_
        rintro e' w1 ⟨rfl, b1⟩
        have HH := (b1.block _ (blk_lt h0)).trans h0
        have b2 := bstep b0 b1
        clear h0 b0 b1
        go_wp2_with fail
        refine (HP _).mono ?_
        rintro e' w2 ⟨rfl, b3⟩
        have HH := (b3.block _ (blk_lt HH)).trans HH
        have b2 := bstep b2 b3
        clear b3
        have c0 : w2.cell? ⟨w.heap.size, 0, none⟩ = some (.int .i64 a) := blk_cell HH 0
        clear c0
        go_wp2_with fail
        refine (HB1 _).mono ?_
        rintro e' u1 ⟨rfl, b3⟩
        have HH := (b3.block _ (blk_lt HH)).trans HH
        have b2 := bstep b2 b3
        have b5 : Below u1.heap.size u1 (u1.alloc (.cells #[.int .i64 0, .int .i64 0, .int .i64 0, .int .i64 0, .int .i64 0, .int .i64 0] 40)) := (Below.refl _ _).alloc (Nat.le_refl _) _
        have h5 : (u1.alloc (.cells #[.int .i64 0, .int .i64 0, .int .i64 0, .int .i64 0, .int .i64 0, .int .i64 0] 40)).heap[u1.heap.size]? = some (.cells #[.int .i64 0, .int .i64 0, .int .i64 0, .int .i64 0, .int .i64 0, .int .i64 0] 40 (0, 0)) := heap_alloc_new _ _
        have c0 : u1.cell? ⟨w.heap.size, 0, none⟩ = some (.int .i64 a) := blk_cell HH 0
        have c00 : (u1.alloc (.cells #[.int .i64 0, .int .i64 0, .int .i64 0, .int .i64 0, .int .i64 0, .int .i64 0] 40)).cell? ⟨w.heap.size, 0, none⟩ = some (.int .i64 a) := blk_cell ((b5.block _ (blk_lt HH)).trans HH) 0
        obtain ⟨u2, hu2⟩ : ∃ u2, u2 = u1.alloc (.cells #[.int .i64 0, .int .i64 0, .int .i64 0, .int .i64 0, .int .i64 0, .int .i64 0] 40) := ⟨_, rfl⟩
        rw [← hu2] at b5 h5
        have HH := (b5.block _ (blk_lt HH)).trans HH
        have b2 := bstep b2 b5
        clear b3 b5
        have HL := Lib.hid HH
        have HM := Lib.hid h5
        clear HH h5
        go_wp2_with fail
        rw [← hu2]
        clear hu2 c0 c00
        have HH := HL.out
        have h5 := HM.out
        generalize u1.heap.size = X at *
        refine Reg.wp_plan (S := fun w' => w'.cell? ⟨X, 0, none⟩ = some (.int .i64 0) ∧ w'.cell? ⟨X, 1, none⟩ = some (.int .i64 0) ∧ w'.cell? ⟨X, 2, none⟩ = some (.int .i64 0) ∧ w'.cell? ⟨X, 3, none⟩ = some (.int .i64 0) ∧ w'.cell? ⟨X, 4, none⟩ = some (.int .i64 0) ∧ w'.cell? ⟨X, 5, none⟩ = some (.int .i64 0) ∧ w'.cell? ⟨w.heap.size, 0, none⟩ = some (.int .i64 a) ∧ w'.cell? ⟨w.heap.size, 1, none⟩ = some (.int .i64 b) ∧ w'.cell? ⟨w.heap.size, 2, none⟩ = some (.int .i64 c) ∧ w'.cell? ⟨w.heap.size, 3, none⟩ = some (.int .i64 d) ∧ w'.cell? ⟨w.heap.size, 4, none⟩ = some (.int .i64 e) ∧ w'.cell? ⟨w.heap.size, 5, none⟩ = some (.int .i64 f)) 24 (.fl 0 (.fl 1 (.fl 2 (.fl 3 (.fl 4 (.fl 5 (.fl 6 (.one 7 (.fl 8 (.fl 9 (.fl 10 (.fl 11 (.fl 12 (.fl 13 (.fl 14 (.fl 15 (.fl 16 (.fl 17 (.fl 18 (.fl 19 (.fl 20 (.fl 21 (.fl 22 (.fl 23 .done)))))))))))))))))))))))) (by kernel_rfl) (by kernel_rfl) (by kernel_rfl) (by kernel_rfl) (fun _ _ _ d _ h => by cases d <;> exact h) ?_ (fun hHeld => ?_)
        · exact ⟨blk_cell h5 0, blk_cell h5 1, blk_cell h5 2, blk_cell h5 3, blk_cell h5 4, blk_cell h5 5, blk_cell HH 0, blk_cell HH 1, blk_cell HH 2, blk_cell HH 3, blk_cell HH 4, blk_cell HH 5⟩
        refine Reg.G_on (o := { dst := some 35, op := Op.move (Operand.tmp 9), type := 4, pos := "law.go:35", after := #[], guard := Option.none }) (v := ?_) (by rfl) ?_ (fun wS hSw => ?_) ?_
        rotate_left
        · kernel_rfl
        · (try dsimp only at hSw); go_simp; (try with_reducible rfl)
        try simp only [Act.put, List.setIfInBounds_toArray, List.set_cons_zero, List.set_cons_succ]
        refine Reg.G_on (o := { dst := some 36, op := Op.move (Operand.tmp 35), type := 4, pos := "law.go:35", after := #[{ on := 0, ground := Ground.data }], guard := Option.none }) (v := ?_) (by rfl) ?_ (fun wS hSw => ?_) ?_
        rotate_left
        · kernel_rfl
        · (try dsimp only at hSw); go_simp; (try with_reducible rfl)
        try simp only [Act.put, List.setIfInBounds_toArray, List.set_cons_zero, List.set_cons_succ]
        refine Reg.G_off (o := { dst := some 37, op := Op.move (Operand.tmp 8), type := 30, pos := "law.go:35", after := #[{ on := 1, ground := Ground.guard }], guard := some (1, true) }) (by rfl) ?_ ?_
        · kernel_rfl
        try simp only [Act.put, List.setIfInBounds_toArray, List.set_cons_zero, List.set_cons_succ]
        refine Reg.G_off (o := { dst := some 38, op := Op.binOp BinOp.neq 30 (Operand.tmp 37) (Operand.const (Value.int IntKind.i64 0)) 30, type := 4, pos := "law.go:35", after := #[{ on := 2, ground := Ground.data }, { on := 1, ground := Ground.guard }], guard := some (1, true) }) (by rfl) ?_ ?_
        · kernel_rfl
        try simp only [Act.put, List.setIfInBounds_toArray, List.set_cons_zero, List.set_cons_succ]
        refine Reg.G_off (o := { dst := some 39, op := Op.move (Operand.tmp 38), type := 4, pos := "law.go:35", after := #[{ on := 3, ground := Ground.data }, { on := 1, ground := Ground.chain }, { on := 1, ground := Ground.guard }], guard := some (1, true) }) (by rfl) ?_ ?_
        · kernel_rfl
        try simp only [Act.put, List.setIfInBounds_toArray, List.set_cons_zero, List.set_cons_succ]
        refine Reg.G_off (o := { dst := some 40, op := Op.load 40 (Operand.tmp 7), type := 40, pos := "law.go:35", after := #[{ on := 4, ground := Ground.guard }], guard := some (4, false) }) (by rfl) ?_ ?_
        · kernel_rfl
        try simp only [Act.put, List.setIfInBounds_toArray, List.set_cons_zero, List.set_cons_succ]
        refine Reg.G_off (o := { dst := some 41, op := Op.load 38 (Operand.tmp 2), type := 38, pos := "law.go:35", after := #[{ on := 4, ground := Ground.guard }], guard := some (4, false) }) (by rfl) ?_ ?_
        · kernel_rfl
        try simp only [Act.put, List.setIfInBounds_toArray, List.set_cons_zero, List.set_cons_succ]
        refine Reg.G_skip (o := { dst := some 42, op := Op.call { callee := Callee.value (Operand.func 20), args := #[Operand.tmp 41], argTypes := #[38] }, type := 40, pos := "law.go:35", after := #[{ on := 6, ground := Ground.data }, { on := 4, ground := Ground.chain }, { on := 4, ground := Ground.guard }], guard := some (4, false) }) (by rfl) ?_ (by assumption) ?_
        · kernel_rfl
        try simp only [Act.put, List.setIfInBounds_toArray, List.set_cons_zero, List.set_cons_succ]
        refine Reg.G_off (o := { dst := some 43, op := Op.binOp BinOp.neq 40 (Operand.tmp 40) (Operand.tmp 42) 40, type := 4, pos := "law.go:35", after := #[{ on := 5, ground := Ground.data }, { on := 7, ground := Ground.data }, { on := 4, ground := Ground.guard }], guard := some (4, false) }) (by rfl) ?_ ?_
        · kernel_rfl
        try simp only [Act.put, List.setIfInBounds_toArray, List.set_cons_zero, List.set_cons_succ]
        refine Reg.G_off (o := { dst := some 44, op := Op.pick (Operand.tmp 39) (Operand.const (Value.bool true)) (Operand.tmp 43), type := 4, pos := "law.go:35", after := #[{ on := 4, ground := Ground.data }, { on := 8, ground := Ground.data }, { on := 1, ground := Ground.guard }], guard := some (1, true) }) (by rfl) ?_ ?_
        · kernel_rfl
        try simp only [Act.put, List.setIfInBounds_toArray, List.set_cons_zero, List.set_cons_succ]
        refine Reg.G_on (o := { dst := some 45, op := Op.pick (Operand.tmp 36) (Operand.tmp 44) (Operand.const (Value.bool false)), type := 4, pos := "law.go:35", after := #[{ on := 1, ground := Ground.data }, { on := 9, ground := Ground.data }], guard := Option.none }) (v := ?_) (by rfl) ?_ (fun wS hSw => ?_) ?_
        rotate_left
        · kernel_rfl
        · (try dsimp only at hSw); go_simp; (try with_reducible rfl)
        try simp only [Act.put, List.setIfInBounds_toArray, List.set_cons_zero, List.set_cons_succ]
        refine Reg.G_on (o := { dst := some 46, op := Op.move (Operand.tmp 45), type := 4, pos := "law.go:35", after := #[{ on := 10, ground := Ground.data }, { on := 7, ground := Ground.chain }], guard := Option.none }) (v := ?_) (by rfl) ?_ (fun wS hSw => ?_) ?_
        rotate_left
        · kernel_rfl
        · (try dsimp only at hSw); go_simp; (try with_reducible rfl)
        try simp only [Act.put, List.setIfInBounds_toArray, List.set_cons_zero, List.set_cons_succ]
        refine Reg.G_on (o := { dst := some 47, op := Op.move (Operand.tmp 9), type := 4, pos := "law.go:35", after := #[{ on := 11, ground := Ground.guard }], guard := some (11, false) }) (v := ?_) (by rfl) ?_ (fun wS hSw => ?_) ?_
        rotate_left
        · kernel_rfl
        · (try dsimp only at hSw); go_simp; (try with_reducible rfl)
        try simp only [Act.put, List.setIfInBounds_toArray, List.set_cons_zero, List.set_cons_succ]
        refine Reg.G_on (o := { dst := some 48, op := Op.unOp UnOp.not 4 (Operand.tmp 47), type := 4, pos := "law.go:35", after := #[{ on := 12, ground := Ground.data }, { on := 11, ground := Ground.guard }], guard := some (11, false) }) (v := ?_) (by rfl) ?_ (fun wS hSw => ?_) ?_
        rotate_left
        · kernel_rfl
        · (try dsimp only at hSw); go_simp; (try with_reducible rfl)
        try simp only [Act.put, List.setIfInBounds_toArray, List.set_cons_zero, List.set_cons_succ]
        refine Reg.G_on (o := { dst := some 49, op := Op.move (Operand.tmp 48), type := 4, pos := "law.go:35", after := #[{ on := 13, ground := Ground.data }, { on := 11, ground := Ground.chain }, { on := 11, ground := Ground.guard }], guard := some (11, false) }) (v := ?_) (by rfl) ?_ (fun wS hSw => ?_) ?_
        rotate_left
        · kernel_rfl
        · (try dsimp only at hSw); go_simp; (try with_reducible rfl)
        try simp only [Act.put, List.setIfInBounds_toArray, List.set_cons_zero, List.set_cons_succ]
        refine Reg.G_on (o := { dst := some 50, op := Op.move (Operand.tmp 8), type := 30, pos := "law.go:35", after := #[{ on := 14, ground := Ground.guard }], guard := some (14, true) }) (v := ?_) (by rfl) ?_ (fun wS hSw => ?_) ?_
        rotate_left
        · kernel_rfl
        · (try dsimp only at hSw); go_simp; (try with_reducible rfl)
        try simp only [Act.put, List.setIfInBounds_toArray, List.set_cons_zero, List.set_cons_succ]
        refine Reg.G_on (o := { dst := some 51, op := Op.binOp BinOp.neq 30 (Operand.tmp 50) (Operand.const (Value.int IntKind.i64 4)) 30, type := 4, pos := "law.go:35", after := #[{ on := 15, ground := Ground.data }, { on := 14, ground := Ground.guard }], guard := some (14, true) }) (v := ?_) (by rfl) ?_ (fun wS hSw => ?_) ?_
        rotate_left
        · kernel_rfl
        · (try dsimp only at hSw); go_simp; (try with_reducible rfl)
        try simp only [Act.put, List.setIfInBounds_toArray, List.set_cons_zero, List.set_cons_succ]
        refine Reg.G_on (o := { dst := some 52, op := Op.pick (Operand.tmp 49) (Operand.tmp 51) (Operand.const (Value.bool false)), type := 4, pos := "law.go:35", after := #[{ on := 14, ground := Ground.data }, { on := 16, ground := Ground.data }, { on := 11, ground := Ground.guard }], guard := some (11, false) }) (v := ?_) (by rfl) ?_ (fun wS hSw => ?_) ?_
        rotate_left
        · kernel_rfl
        · (try dsimp only at hSw); go_simp; (try with_reducible rfl)
        try simp only [Act.put, List.setIfInBounds_toArray, List.set_cons_zero, List.set_cons_succ]
        refine Reg.G_on (o := { dst := some 53, op := Op.pick (Operand.tmp 46) (Operand.const (Value.bool true)) (Operand.tmp 52), type := 4, pos := "law.go:35", after := #[{ on := 11, ground := Ground.data }, { on := 17, ground := Ground.data }], guard := Option.none }) (v := ?_) (by rfl) ?_ (fun wS hSw => ?_) ?_
        rotate_left
        · kernel_rfl
        · (try dsimp only at hSw); go_simp; (try with_reducible rfl)
        try simp only [Act.put, List.setIfInBounds_toArray, List.set_cons_zero, List.set_cons_succ]
        refine Reg.G_on (o := { dst := some 54, op := Op.move (Operand.tmp 53), type := 4, pos := "law.go:35", after := #[{ on := 18, ground := Ground.data }, { on := 14, ground := Ground.chain }], guard := Option.none }) (v := ?_) (by rfl) ?_ (fun wS hSw => ?_) ?_
        rotate_left
        · kernel_rfl
        · (try dsimp only at hSw); go_simp; (try with_reducible rfl)
        try simp only [Act.put, List.setIfInBounds_toArray, List.set_cons_zero, List.set_cons_succ]
        refine Reg.G_on (o := { dst := some 55, op := Op.move (Operand.tmp 5), type := 9, pos := "law.go:35", after := #[{ on := 19, ground := Ground.guard }], guard := some (19, false) }) (v := ?_) (by rfl) ?_ (fun wS hSw => ?_) ?_
        rotate_left
        · kernel_rfl
        · (try dsimp only at hSw); go_simp; (try with_reducible rfl)
        try simp only [Act.put, List.setIfInBounds_toArray, List.set_cons_zero, List.set_cons_succ]
        refine Reg.G_on (o := { dst := some 56, op := Op.call { callee := Callee.builtin Builtin.len, args := #[Operand.tmp 55], argTypes := #[9] }, type := 3, pos := "law.go:35", after := #[{ on := 20, ground := Ground.data }, { on := 19, ground := Ground.guard }], guard := some (19, false) }) (v := ?_) (by rfl) ?_ (fun wS hSw => ?_) ?_
        rotate_left
        · kernel_rfl
        · (try dsimp only at hSw); go_simp; (try with_reducible rfl)
        try simp only [Act.put, List.setIfInBounds_toArray, List.set_cons_zero, List.set_cons_succ]
        refine Reg.G_on (o := { dst := some 57, op := Op.binOp BinOp.neq 3 (Operand.tmp 56) (Operand.const (Value.int IntKind.i64 16)) 3, type := 4, pos := "law.go:35", after := #[{ on := 21, ground := Ground.data }, { on := 19, ground := Ground.guard }], guard := some (19, false) }) (v := ?_) (by rfl) ?_ (fun wS hSw => ?_) ?_
        rotate_left
        · kernel_rfl
        · (try dsimp only at hSw); go_simp; (try with_reducible rfl)
        try simp only [Act.put, List.setIfInBounds_toArray, List.set_cons_zero, List.set_cons_succ]
        refine Reg.G_on (o := { dst := some 58, op := Op.pick (Operand.tmp 54) (Operand.const (Value.bool true)) (Operand.tmp 57), type := 4, pos := "law.go:35", after := #[{ on := 19, ground := Ground.data }, { on := 22, ground := Ground.data }], guard := Option.none }) (v := ?_) (by rfl) ?_ (fun wS hSw => ?_) ?_
        rotate_left
        · kernel_rfl
        · (try dsimp only at hSw); go_simp; (try with_reducible rfl)
        try simp only [Act.put, List.setIfInBounds_toArray, List.set_cons_zero, List.set_cons_succ]
        refine Reg.G_done ?_
        have b2 := bstep b2 (Below.refl _ _).drew
        clear HL HM HH h5
        go_wp2_with fail
        refine (HT _).mono ?_
        rintro e' v1 ⟨rfl, b3⟩
        have b2 := bstep b2 b3
        have b5 : Below v1.heap.size v1 (v1.alloc (.cells #[.int .i64 x0, .int .i64 x1, .int .i64 x2, .int .i64 x3, .int .i64 x4, .int .i64 x5] 40)) := (Below.refl _ _).alloc (Nat.le_refl _) _
        have h5 : (v1.alloc (.cells #[.int .i64 x0, .int .i64 x1, .int .i64 x2, .int .i64 x3, .int .i64 x4, .int .i64 x5] 40)).heap[v1.heap.size]? = some (.cells #[.int .i64 x0, .int .i64 x1, .int .i64 x2, .int .i64 x3, .int .i64 x4, .int .i64 x5] 40 (0, 0)) := heap_alloc_new _ _
        obtain ⟨V5, hV5⟩ : ∃ V5, V5 = v1.alloc (.cells #[.int .i64 x0, .int .i64 x1, .int .i64 x2, .int .i64 x3, .int .i64 x4, .int .i64 x5] 40) := ⟨_, rfl⟩
        rw [← hV5] at b5 h5
        have b2 := bstep b2 b5
        clear b3 b5
        rcases HF with ⟨htc, HQ⟩ | ⟨HQ, rfl, rfl, rfl, rfl, rfl, rfl⟩
        · have HQ := HQ.out
          have htc := htc.out
          subst htc
          go_wp2_with fail
          rw [← hV5]
          clear hV5
          have g0 : V5.cell? ⟨v1.heap.size, 0, none⟩ = some (.int .i64 x0) := blk_cell h5 0
          have g1 : V5.cell? ⟨v1.heap.size, 1, none⟩ = some (.int .i64 x1) := blk_cell h5 1
          have g2 : V5.cell? ⟨v1.heap.size, 2, none⟩ = some (.int .i64 x2) := blk_cell h5 2
          have g3 : V5.cell? ⟨v1.heap.size, 3, none⟩ = some (.int .i64 x3) := blk_cell h5 3
          have g4 : V5.cell? ⟨v1.heap.size, 4, none⟩ = some (.int .i64 x4) := blk_cell h5 4
          have g5 : V5.cell? ⟨v1.heap.size, 5, none⟩ = some (.int .i64 x5) := blk_cell h5 5
          refine (HQ _).mono ?_
          rintro e' v6 ⟨rfl, b6⟩
          have b2 := bstep b2 b6
          clear g0 g1 g2 g3 g4 g5 h5 b6
          go_wp2_with fail
          refine (HA _).mono ?_
          rintro e' v7 ⟨rfl, b7⟩
          go_wp2
          go_ret
          exact ⟨rfl, bstep b2 b7⟩
        · obtain ⟨hq1, hq2⟩ := HQ.out
          go_wp2_with fail
          rw [← hV5]
          clear hV5
          refine (HA _).mono ?_
          rintro e' v7 ⟨rfl, b7⟩
          go_wp2
          go_ret
          exact ⟨rfl, bstep b2 b7⟩
end Go.Proofs.Ytehojcocnndniaa.Call
