import Derived.RowKit
import Derived.OpenShut
import Derived.Test.YtehojcocnndniaaPImageTakesx3
import Derived.Test.YtehojcocnndniaaSqImageBurst0
set_option linter.unusedVariables false
set_option linter.unusedSimpArgs false
namespace Go.Proofs.Ytehojcocnndniaa.Buf
open Go.RowKit Base Sp Flat Go.Proofs.YtehojcocnndniaaW.PrintWords Go.Lib Wd Al
/-- A buffer in block b that holds bytes. -/
def BB (w : World) (F : Nat → Prop) (b : Nat) (l : List UInt8) : Prop := uB w F b (l.length : Int) l
theorem BB.lt {w : World} {F : Nat → Prop} {b : Nat} {l : List UInt8} (h : BB w F b l) : ∀ k, F k → k < w.heap.size := uB.lt h
theorem BB.at_ {w : World} {F : Nat → Prop} {b : Nat} {l : List UInt8} (h : BB w F b l) : F b := uB.at_ h
theorem BB.far {w w' : World} {F G : Nat → Prop} {b : Nat} {l : List UInt8} (h : BB w F b l) (hm : Mod G w w') (hd : ∀ k, F k → ¬ G k) : BB w' F b l := uB.far h hm hd
theorem BB.below {w w' : World} {F : Nat → Prop} {b : Nat} {l : List UInt8} (h : BB w F b l) (hb : Below w.heap.size w w') : BB w' F b l := uB.below h hb
theorem BB.drew {w : World} {F : Nat → Prop} {b : Nat} {l : List UInt8} (h : BB w F b l) : BB w.drew F b l := h
/-- What lies below the blocks that may turn stays. -/
theorem arg {w W : World} {F : Nat → Prop} {B : Nat} {a : Addr} {u : Value} (hm : Mod F w W) (hF : ∀ k, F k → B ≤ k) (ha : a.block < B) (hc : w.cell? a = some u) : W.cell? a = some u :=
  hm.cell hc (fun h => by have := hF _ h; omega)
theorem argc {w W : World} {F : Nat → Prop} {B b o : Nat} {u : Value} (hm : Mod F w W) (hF : ∀ k, F k → B ≤ k) (ha : b < B) (hc : w.cell? ⟨b, o, none⟩ = some u) : W.cell? ⟨b, o, none⟩ = some u := arg hm hF ha hc
theorem argb {w W : World} {b o : Nat} {u : Value} (hb : Below w.heap.size w W) (hc : w.cell? ⟨b, o, none⟩ = some u) : W.cell? ⟨b, o, none⟩ = some u := cbel hb hc (World.block_lt_of_cell? w ⟨b, o, none⟩ hc)
theorem grow_up {w : World} {F F' : Nat → Prop} {B : Nat} (h : Grow F F' w) (hF : ∀ k, F k → B ≤ k) (hB : B ≤ w.heap.size) : ∀ k, F' k → B ≤ k :=
  fun k hk => (h k hk).elim (hF k) (fun h => Nat.le_trans hB h)
/-- What a write makes: the bytes, and where they are. -/
def Wr (w : World) (F : Nat → Prop) (b : Nat) (l : List UInt8) (w' : World) : Prop := ∃ F', BB w' F' b l ∧ Mod F w w' ∧ Grow F F' w
theorem Wr.trans {w w1 w2 : World} {F : Nat → Prop} {b : Nat} {l l2 : List UInt8} (h : ∃ F', BB w1 F' b l ∧ Mod F w w1 ∧ Grow F F' w ∧ Wr w1 F' b l2 w2) : Wr w F b l2 w2 := by
  obtain ⟨F1, h1, m1, g1, F2, h2, m2, g2⟩ := h
  exact ⟨F2, h2, m1.trans m2 (fun k hk => g1 k hk), fun k hk => (g2 k hk).elim (g1 k) (fun h => .inr (Nat.le_trans m1.size h))⟩
theorem fresh (w : World) : BB (w.alloc (.cells #[.int .i64 0, .pointer none, .slice none 0 0] 123)) (fun k => k = w.heap.size) w.heap.size [] :=
  ⟨_, _, heap_alloc_new _ _, .inl rfl, World.ownsRowF_nil _ _ _ _, by simp [Value.ownBlock], rfl, fun k hk => by simp [Value.ownBlock] at hk, fun k hk => by subst hk; simp⟩
theorem new (w : World) : Calls Try.prog 36 #[] w fun e w' => e = .returned (.pointer (some ⟨w.heap.size, 0, none⟩)) ∧ BB w' (fun k => k = w.heap.size) w.heap.size [] ∧ Below w.heap.size w w' := by
  have H := Lib.hid (fresh w)
  go_enter Try.func36, Try.ntmps36
  go_wp2
  go_ret
  exact ⟨rfl, H.out, (Below.refl _ _).alloc (Nat.le_refl _) _⟩
theorem len_ (F : Nat → Prop) (b : Nat) (l : List UInt8) (w : World) (h : BB w F b l) : Calls Try.prog 41 #[.pointer (some ⟨b, 0, none⟩)] w fun e w' => e = .returned (.int .i64 (l.length : Int)) ∧ w = w' := by
  obtain ⟨p, v, h1, -⟩ := h
  have c0 : w.cell? ⟨b, 0, none⟩ = some (.int .i64 (l.length : Int)) := blk_cell h1 0
  clear h1
  go_enter Try.func41, Try.ntmps41
  go_wp2
  go_ret
  exact ⟨rfl, rfl⟩
theorem len_nil (w : World) : Calls Try.prog 41 #[.pointer none] w fun e w' => e = .returned (.int .i64 0) ∧ w = w' := by
  go_enter Try.func41, Try.ntmps41
  go_wp2
  go_ret
  exact ⟨rfl, rfl⟩
theorem bytes (F : Nat → Prop) (b : Nat) (l : List UInt8) (w : World) (h : BB w F b l) : Calls Try.prog 42 #[.pointer (some ⟨b, 0, none⟩)] w fun e w' => e = .returned (.string ⟨l.toArray⟩) ∧ BB w' F b l ∧ Mod F w w' := by
  have H := ustring F b (l.length : Int) l w h
  obtain ⟨p, v, h1, -⟩ := h
  clear h1
  go_enter Try.func42, Try.ntmps42
  go_wp2_with fail
  refine H.mono ?_
  rintro e w' ⟨rfl, hb, hm⟩
  go_wp2
  go_ret
  exact ⟨rfl, hb, hm⟩
theorem bytes_nil (w : World) : Calls Try.prog 42 #[.pointer none] w fun e w' => e = .returned (.string ⟨#[]⟩) ∧ w = w' := by
  go_enter Try.func42, Try.ntmps42
  go_wp2
  go_ret
  exact ⟨rfl, rfl⟩
theorem gap_ (b : Nat) (a s : Int) (w : World) (h : w.cell? ⟨b, 0, none⟩ = some (.int .i64 a)) (h0 : -9223372036854775808 ≤ a) (h1 : a < 9223372036854775808) :
    Calls Try.prog 69 #[.pointer (some ⟨b, 0, none⟩), .int .i64 s] w fun e w' => e = .returned (.int .i64 (gapv a s)) ∧ Below w.heap.size w w' := by
  have H := fun w => Al.gap a s h0 h1 w
  clear h0 h1
  go_enter Try.func69, Try.ntmps69
  go_wp2_with fail
  refine (H _).mono ?_
  rintro e w' ⟨rfl, hb⟩
  go_wp2
  go_ret
  exact ⟨rfl, hb⟩
theorem move_ (b : Nat) (a n : Int) (cs : Array Value) (T : TypeId) (w : World) (h : w.heap[b]? = some (.cells cs T (0, 0))) (hc : cs[0]? = some (.int .i64 a)) (hw : -9223372036854775808 ≤ a + n ∧ a + n < 9223372036854775808) :
    Calls Try.prog 70 #[.pointer (some ⟨b, 0, none⟩), .int .i64 n] w fun e w' => e = .returned (.tuple #[]) ∧ w' = w.setCell ⟨b, 0, none⟩ (.int .i64 (a + n)) := by
  have c0 : w.cell? ⟨b, 0, none⟩ = some (.int .i64 a) := (Lib.cell_of_heap h 0).trans hc
  have f0 : w.frozen? ⟨b, 0, none⟩ = false := Lib.frozen_of_heap h 0
  have hv : IntKind.i64.wrap (a + n) = a + n := wrapi64 hw.1 hw.2
  have hv2 : wrap64 (a + n) = a + n := by unfold wrap64; omega
  clear hw h hc
  go_enter Try.func70, Try.ntmps70
  go_wp2
  go_end0
  exact ⟨rfl, rfl⟩
theorem BB.move {w : World} {F : Nat → Prop} {b : Nat} {a : Int} {l : List UInt8} (h : uB w F b a l) : BB (w.setCell ⟨b, 0, none⟩ (.int .i64 (l.length : Int))) F b l := by
  obtain ⟨p, v, h1, h2, h3, h4, h5, h6, h7⟩ := h
  refine ⟨p, v, by have := blk_set h1 0 (.int .i64 (l.length : Int)); simpa using this, h2, ?_, h4, h5, h6, fun k hk => by simpa using h7 k hk⟩
  exact ownF_same h3 (fun k hk => Below.heap_setCell _ _ _ _ (fun e => h4 (by rw [hk]; exact congrArg _ e)))
set_option maxHeartbeats 1000000 in
theorem text (F : Nat → Prop) (b : Nat) (l : List UInt8) (s : ByteArray) (w : World) (h : BB w F b l) (hl : l.length + s.size ≤ 140737488355328) :
    Calls Try.prog 38 #[.pointer (some ⟨b, 0, none⟩), .string s] w fun e w' => e = .returned (.tuple #[]) ∧ Wr w F b (l ++ s.data.toList) w' := by
  have H := uwrite F b (l.length : Int) l s w h hl
  have HL := Lib.hid hl
  have hF := h.at_
  clear h hl
  go_enter Try.func38, Try.ntmps38
  go_wp2_with fail
  refine H.mono ?_
  rintro e w1 ⟨rfl, F1, h1, m1, g1⟩
  have hM := fun cs T (h : w1.heap[b]? = some (.cells cs T (0, 0))) hc => move_ b (l.length : Int) (s.size : Int) cs T w1 h hc (by have := HL.out; omega)
  have h1' := h1
  obtain ⟨p, v, hb, -⟩ := h1'
  have hM2 := hM _ _ hb rfl
  clear hM hb
  go_wp2_with fail
  refine hM2.mono ?_
  rintro e w2 ⟨rfl, rfl⟩
  go_wp2
  go_end0
  have e1 : ((l.length : Int) + (s.size : Int)) = ((l ++ s.data.toList).length : Int) := by
    rw [List.length_append]
    show _ = ((l.length + s.size : Nat) : Int)
    omega
  rw [e1]
  exact ⟨rfl, F1, BB.move h1, Mod.set m1 (.inl hF) _, g1⟩
theorem text_nil (s : ByteArray) (w : World) : Calls Try.prog 38 #[.pointer none, .string s] w fun e w' => e = .returned (.tuple #[]) ∧ w = w' := by
  go_enter Try.func38, Try.ntmps38
  go_wp2
  go_end0
  exact ⟨rfl, rfl⟩
/-- What Put answers, and what the bytes are then. -/
def pcode (n s : Int) : Int := if sz s then (if n < pw s then 0 else 7) else 4
def nbytes (n s : Int) : List UInt8 := (strOfNums (le n s.toNat)).data.toList
def pbytes (l : List UInt8) (n s : Int) : List UInt8 := l ++ List.replicate (gapv l.length s).toNat 0 ++ nbytes n s
theorem put_res (n s : Int) : (if sz s then putv n s else (⟨#[]⟩, 4)).2 = pcode n s := by
  unfold pcode putv
  repeat' split
  all_goals rfl
theorem put_str (n s : Int) (h : pcode n s = 0) : (if sz s then putv n s else (⟨#[]⟩, 4)).1 = ⟨(nbytes n s).toArray⟩ := by
  unfold pcode at h
  unfold putv nbytes
  split at h
  · split at h
    · rw [if_pos (by assumption), if_pos (by assumption)]
    · cases h
  · cases h
theorem nbytes_len (n s : Int) : (nbytes n s).length = s.toNat := by
  unfold nbytes
  have : (strOfNums (le n s.toNat)).data.toList.length = (strOfNums (le n s.toNat)).size := rfl
  rw [this, strOfNums_size, le_len]
theorem zeros_str (k : Nat) : (Lib.repeatL (⟨#[0]⟩ : ByteArray).data.toList k) = List.replicate k 0 := by
  induction k with
  | zero => rfl
  | succ k ih => rw [List.replicate_succ, ← ih]; rfl
theorem put_bad (b : Nat) (n s : Int) (w : World) (h0 : 0 ≤ n) (h1 : n < 18446744073709551616) (hc : pcode n s ≠ 0) :
    Calls Try.prog 37 #[.pointer (some ⟨b, 0, none⟩), .int .u64 n, .int .i64 s] w fun e w' => e = .returned (.int .i64 (pcode n s)) ∧ Below w.heap.size w w' := by
  have H := fun w => Wd.put n s h0 h1 w
  rw [put_res] at H
  generalize (if sz s then putv n s else (⟨#[]⟩, 4)).1 = r at H
  generalize pcode n s = q at *
  have e : (q == 0) = false := by simpa using hc
  clear h0 h1
  go_enter Try.func37, Try.ntmps37
  go_wp2_with fail
  refine (H _).mono ?_
  rintro e w' ⟨rfl, hb⟩
  go_wp2
  go_ret
  exact ⟨rfl, hb⟩
set_option maxHeartbeats 1000000 in
theorem put_good (F : Nat → Prop) (b : Nat) (l : List UInt8) (n s : Int) (w : World) (h : BB w F b l) (hl : l.length ≤ 140737488355200) (h0 : 0 ≤ n) (h1 : n < 18446744073709551616) (hc : pcode n s = 0) :
    Calls Try.prog 37 #[.pointer (some ⟨b, 0, none⟩), .int .u64 n, .int .i64 s] w fun e w' => e = .returned (.int .i64 0) ∧ Wr w F b (pbytes l n s) w' := by
  have hs8 : s ≤ 8 := by
    unfold pcode at hc
    split at hc
    · rename_i h
      have := sz_cases h
      omega
    · cases hc
  have H := fun w => Wd.put n s h0 h1 w
  rw [put_res, put_str n s hc, hc] at H
  have hG := gapv_le l.length s
  have HG := fun w h => gap_ b (l.length : Int) s w h (by omega) (by omega)
  unfold pbytes
  have hnl := nbytes_len n s
  obtain ⟨g, hg⟩ : ∃ g : Nat, gapv l.length s = (g : Int) := ⟨(gapv l.length s).toNat, by omega⟩
  rw [hg] at HG hG ⊢
  rw [Int.toNat_natCast]
  have HR := fun w => Try.strings_Repeat ⟨#[0]⟩ g w (by omega) (by have : (⟨#[0]⟩ : ByteArray).size = 1 := rfl; rw [this]; omega)
  rw [zeros_str] at HR
  have hB : Hid (l.length ≤ 140737488355200 ∧ g ≤ 7 ∧ (nbytes n s).length ≤ 8) := Lib.hid ⟨hl, by omega, by omega⟩
  generalize nbytes n s = m at *
  clear hnl hg hG hs8 hl hc h0 h1
  go_enter Try.func37, Try.ntmps37
  go_wp2_with fail
  refine (H _).mono ?_
  rintro e w1 ⟨rfl, b1⟩
  have k1 := h.below b1
  have m1 := Mod.of (F := F) b1
  clear h b1 H
  have c0 : w1.cell? ⟨b, 0, none⟩ = some (.int .i64 (l.length : Int)) := by
    obtain ⟨p, v, hb, -⟩ := k1
    exact blk_cell hb 0
  go_wp2_with fail
  refine (HG _ c0).mono ?_
  rintro e w2 ⟨rfl, b2⟩
  have k2 := k1.below b2
  have m2 := m1.trans (Mod.of (F := F) b2) (fun k hk => .inl hk)
  clear k1 m1 b2 HG c0
  go_wp2_with fail
  refine (HR _).mono ?_
  rintro e w3 ⟨rfl, b3⟩
  have k3 := k2.below b3
  have m3 := m2.trans (Mod.of (F := F) b3) (fun k hk => .inl hk)
  clear k2 m2 b3 HR
  go_wp2_with fail
  refine (text F b l ⟨(List.replicate g 0).toArray⟩ w3 k3 (by have := hB.out; show l.length + (List.replicate g (0 : UInt8)).toArray.size ≤ _; simp; omega)).mono ?_
  rintro e w4 ⟨rfl, F4, k4, m4, g4⟩
  go_wp2_with fail
  refine (text F4 b _ ⟨m.toArray⟩ w4 k4 (by have := hB.out; show (l ++ (List.replicate g (0 : UInt8)).toArray.toList).length + m.toArray.size ≤ _; simp; omega)).mono ?_
  rintro e w5 ⟨rfl, F5, k5, m5, g5⟩
  go_wp2
  go_ret
  have mm4 := m3.trans m4 (fun k hk => .inl hk)
  refine ⟨rfl, F5, k5, mm4.trans m5 (fun k hk => (g4 k hk).imp id (fun h => Nat.le_trans m3.size h)), fun k hk => ?_⟩
  rcases g5 k hk with h | h
  · exact (g4 k h).imp id (fun h => Nat.le_trans m3.size h)
  · exact .inr (Nat.le_trans mm4.size h)
theorem put_nil (n s : Int) (w : World) : Calls Try.prog 37 #[.pointer none, .int .u64 n, .int .i64 s] w fun e w' => e = .returned (.int .i64 20) ∧ w = w' := by
  go_enter Try.func37, Try.ntmps37
  go_wp2
  go_ret
  exact ⟨rfl, rfl⟩
end Go.Proofs.Ytehojcocnndniaa.Buf
namespace Go.Proofs.Ytehojcocnndniaa.Al
open Go.RowKit Base Sp Go.Proofs.YtehojcocnndniaaW.PrintWords Go.Proofs.YtehojcocnndniaaW.PrintLast Wd Buf
/-- Bytes as a text. -/
def tx (l : List UInt8) : ByteArray := ⟨l.toArray⟩
theorem tx_size (l : List UInt8) : (tx l).size = l.length := rfl
theorem tx_app (a b : List UInt8) : tx (a ++ b) = tx a ++ tx b := by
  apply ByteArray.ext
  simp [tx]
theorem tx_of (s : ByteArray) : tx s.data.toList = s := rfl
theorem nums_tx (l : List Int) : strOfNums l = tx (strOfNums l).data.toList := rfl
theorem nums_zeros (k : Nat) : strOfNums (List.replicate k 0) = tx (List.replicate k 0) := by
  apply ByteArray.ext
  simp [strOfNums, tx]
/-- What Put makes of bytes. -/
def pto (l : List UInt8) (n s : Int) : List UInt8 := if pcode n s = 0 then pbytes l n s else l
theorem aput (F : Nat → Prop) (b : Nat) (l : List UInt8) (n s : Int) (w : World) (h : BB w F b l) (hl : l.length ≤ 140737488355200) (h0 : 0 ≤ n) (h1 : n < 18446744073709551616) :
    Calls Try.prog 37 #[.pointer (some ⟨b, 0, none⟩), .int .u64 n, .int .i64 s] w fun e w' => e = .returned (.int .i64 (pcode n s)) ∧ Wr w F b (pto l n s) w' := by
  unfold pto
  by_cases hc : pcode n s = 0
  · rw [if_pos hc, hc]
    exact put_good F b l n s w h hl h0 h1 hc
  · rw [if_neg hc]
    refine (put_bad b n s w h0 h1 hc).mono fun _ _ hh => ⟨hh.1, F, h.below hh.2, Mod.of hh.2, fun _ hk => .inl hk⟩
end Go.Proofs.Ytehojcocnndniaa.Al
namespace Go.Proofs.Ytehojcocnndniaa.Img
open Go.RowKit Base Sp Flat Go.Proofs.YtehojcocnndniaaW.PrintWords Go.Proofs.YtehojcocnndniaaW.PrintLast Go.Proofs.YtehojcocnndniaaW.PrintMore Wd Al Buf
/-- Sections that can be read. -/
def Secs (w : World) (A : Option Addr) (l : List (Int × ByteArray)) : Prop :=
  ∀ (k : Nat) (h : k < l.length), ∃ ad : Addr, A = some ad ∧ w.cell? (ad.add (k * 2)) = some (.int .i64 (l[k]'h).1) ∧ w.cell? ⟨(ad.add (k * 2)).block, (ad.add (k * 2)).off + 1, none⟩ = some (.string (l[k]'h).2)
theorem Secs.below {w w' : World} {A : Option Addr} {l : List (Int × ByteArray)} (h : Secs w A l) (hb : Below w.heap.size w w') : Secs w' A l := by
  intro k hk
  obtain ⟨ad, e, c0, c1⟩ := h k hk
  exact ⟨ad, e, cbel hb c0 (World.block_lt_of_cell? w _ c0), cbel hb c1 (World.block_lt_of_cell? w _ c1)⟩
theorem plen (L : List UInt8) (n s : Int) (hs : s ≤ 8) : (pto L n s).length ≤ L.length + 15 := by
  unfold pto
  split
  · have hg := gapv_le L.length s
    unfold pbytes
    rw [List.length_append, List.length_append, List.length_replicate, nbytes_len]
    omega
  · omega
/-- The body of an image: behind its head, behind each section. -/
def stp (L : List UInt8) (x : Int × ByteArray) : List UInt8 := pto (pto L x.1 2) (x.2.size : Int) 4 ++ x.2.data.toList
def hdr (n m : Int) : List UInt8 := pto (pto [66, 83, 72, 49] n 4) m 4
def bod (l : List (Int × ByteArray)) (n : Int) : List UInt8 := l.foldl stp (hdr n (l.length : Int))
theorem fold_snoc (l : List (Int × ByteArray)) (L : List UInt8) (k : Nat) (h : k < l.length) : (l.take (k + 1)).foldl stp L = stp ((l.take k).foldl stp L) l[k] := by
  rw [List.take_succ_eq_append_getElem h, List.foldl_append, List.foldl_cons, List.foldl_nil]
theorem hdr_len (n m : Int) : (hdr n m).length ≤ 34 := by
  have h1 := plen [66, 83, 72, 49] n 4 (by decide)
  have h2 := plen (pto [66, 83, 72, 49] n 4) m 4 (by decide)
  have h3 : ([66, 83, 72, 49] : List UInt8).length = 4 := rfl
  unfold hdr
  omega
set_option maxRecDepth 20000 in
set_option maxHeartbeats 2000000 in
theorem body (A : Option Addr) (cap : Nat) (l : List (Int × ByteArray)) (n : Int) (w : World) (hS : Secs w A l) (hk : ∀ x ∈ l, 0 ≤ x.1 ∧ x.1 < 9223372036854775808 ∧ x.2.size ≤ 100000) (hl : l.length ≤ 1000) (h0 : 0 ≤ n) (h1 : n < 9223372036854775808) :
    Calls Try.prog 56 #[.slice A l.length cap, .int .i64 n] w fun e w' => e = .returned (.string (tx (bod l n))) ∧ Below w.heap.size w w' := by
  have HK := Lib.hid hk
  have HLN := Lib.hid hl
  have hw0 : IntKind.u64.wrap n = n := wrapu64 (by omega) (by omega)
  have hw1 : IntKind.u64.wrap (l.length : Int) = (l.length : Int) := wrapu64 (by omega) (by omega)
  have H01 := Lib.hid (And.intro h0 h1)
  clear hk hl h1
  obtain ⟨R, hR0⟩ : ∃ R, R = bod l n := ⟨_, rfl⟩
  rw [← hR0]
  have hR : Hid (l.foldl stp (hdr n (l.length : Int)) = R) := Lib.hid hR0.symm
  clear hR0
  go_enter Try.func56, Try.ntmps56
  go_wp2_with fail
  refine (Buf.new w).mono ?_
  rintro e w1 ⟨rfl, n1, b1⟩
  have hT := Buf.text _ w.heap.size [] ⟨#[66, 83, 72, 49]⟩ w1 n1 (by decide)
  go_wp2_with fail
  refine hT.mono ?_
  rintro e w2 ⟨rfl, F2, HB2, m2, g2⟩
  have hF2 : ∀ k, F2 k → w.heap.size ≤ k := grow_up g2 (fun k hk => by rw [show k = w.heap.size from hk]; exact Nat.le_refl _) b1.size
  have b2 := m2.below b1 b1.size (fun k hk => by rw [show k = w.heap.size from hk]; exact Nat.le_refl _)
  rw [show ([] : List UInt8) ++ (⟨#[66, 83, 72, 49]⟩ : ByteArray).data.toList = [66, 83, 72, 49] from rfl] at HB2
  clear hT n1 b1 m2 g2
  have hP := aput F2 w.heap.size [66, 83, 72, 49] n 4 w2 HB2 (by decide) H01.out.1 (by have := H01.out.2; omega)
  have hp1 := plen [66, 83, 72, 49] n 4 (by decide)
  go_wp2_with fail
  refine hP.mono ?_
  rintro e w3 ⟨rfl, F3, HB3, m3, g3⟩
  have hF3 : ∀ k, F3 k → w.heap.size ≤ k := grow_up g3 hF2 b2.size
  have b3 := m3.below b2 b2.size hF2
  clear hP HB2 m3 g3 hF2 b2
  have hP := aput F3 w.heap.size (pto [66, 83, 72, 49] n 4) (l.length : Int) 4 w3 HB3 (by have h3 : ([66, 83, 72, 49] : List UInt8).length = 4 := rfl; omega) (by omega) (by have := HLN.out; omega)
  clear hp1
  go_wp2_with fail
  refine hP.mono ?_
  rintro e w4 ⟨rfl, F4, HB4, m4, g4⟩
  have hF4 : ∀ k, F4 k → w.heap.size ≤ k := grow_up g4 hF3 b3.size
  have b4 := m4.below b3 b3.size hF3
  clear hP HB3 m4 g4 hF3 b3 hw1
  have HB5 : BB w4 F4 w.heap.size (hdr n (l.length : Int)) := HB4
  have hh := hdr_len n (l.length : Int)
  clear HB4
  have HB6 : BB w4 F4 w.heap.size ((l.take 0).foldl stp (hdr n (l.length : Int))) := by rw [List.take_zero, List.foldl_nil]; exact HB5
  have hh2 : Hid (((l.take 0).foldl stp (hdr n (l.length : Int))).length ≤ 34 + 0 * 100100) := Lib.hid (by rw [List.take_zero, List.foldl_nil]; omega)
  clear HB5 hh
  go_wp2
  go_loopw [22] (fun i wr => ∃ (k : Nat) (F : Nat → Prop), k ≤ l.length ∧ i = .int .i64 (k : Int) ∧ BB wr F w.heap.size ((l.take k).foldl stp (hdr n (l.length : Int))) ∧ (∀ k, F k → w.heap.size ≤ k) ∧ Hid (((l.take k).foldl stp (hdr n (l.length : Int))).length ≤ 34 + k * 100100) ∧ Below w.heap.size w wr) (fun i _ => (l.length - (intOf i).toNat))
  case atStart => exact ⟨0, _, Nat.zero_le _, rfl, HB6, hF4, hh2, b4⟩
  case round =>
    clear HB6 hF4 b4 hh2
    obtain ⟨k, F, hk, rfl, HB, HF, hL, bb⟩ := hrel
    have k0 : (0 : Int) ≤ (k : Int) := by omega
    by_cases hlt : k < l.length
    · have k2 : (k : Int) < (l.length : Int) := by omega
      obtain ⟨ad, rfl, c0, c1⟩ := hS.below bb k hlt
      have HX := Lib.hid (HK.out _ (List.getElem_mem hlt))
      have hfs := fold_snoc l (hdr n (l.length : Int)) k hlt
      generalize l[k] = x at *
      obtain ⟨x0, x1⟩ := x
      dsimp only at c0 c1 HX
      generalize (l.take k).foldl stp (hdr n (l.length : Int)) = L at *
      have hw2 : IntKind.u64.wrap x0 = x0 := wrapu64 HX.out.1 (by have := HX.out.2.1; omega)
      have hw3 : IntKind.u64.wrap (x1.size : Int) = (x1.size : Int) := wrapu64 (by omega) (by have := HX.out.2.2; omega)
      have h5 : (wr.alloc (.cells #[.int .i64 x0, .string x1] 102)).heap[wr.heap.size]? = some (.cells #[.int .i64 x0, .string x1] 102 (0, 0)) := heap_alloc_new _ _
      have b5 : Below wr.heap.size wr (wr.alloc (.cells #[.int .i64 x0, .string x1] 102)) := (Below.refl _ _).alloc (Nat.le_refl _) _
      have hgF : ¬ F wr.heap.size := fun h => by have := HB.lt _ h; omega
      obtain ⟨u0, hu0⟩ : ∃ u0, u0 = wr.alloc (.cells #[.int .i64 x0, .string x1] 102) := ⟨_, rfl⟩
      rw [← hu0] at b5 h5
      have HB5 := HB.below b5
      have bb5 := bstep bb b5
      have h6 := blk_lt h5
      have hP := aput F w.heap.size L x0 2 u0 HB5 (by have := hL.out; have := HLN.out; omega) HX.out.1 (by have := HX.out.2.1; omega)
      have hp1 := Lib.hid (plen L x0 2 (by decide))
      go_wp2_with fail
      rw [← hu0]
      clear hu0
      refine hP.mono ?_
      rintro e w2 ⟨rfl, F2, HB2, m2, g2⟩
      have hF2 : ∀ k, F2 k → w.heap.size ≤ k := grow_up g2 HF bb5.size
      have b2 := m2.below bb5 bb5.size HF
      have hg2 : ¬ F2 wr.heap.size := fun h => (g2 _ h).elim hgF (fun h => by omega)
      have h7 := (m2.block _ h6 hgF).trans h5
      clear hP HB5 m2 g2 h5 h6 bb5 b5
      have d1 : w2.cell? ⟨wr.heap.size, 1, none⟩ = some (.string x1) := blk_cell h7 1
      have hP := aput F2 w.heap.size (pto L x0 2) (x1.size : Int) 4 w2 HB2 (by have := hL.out; have := HLN.out; have := hp1.out; omega) (by omega) (by have := HX.out.2.2; omega)
      have hp2 := Lib.hid (plen (pto L x0 2) (x1.size : Int) 4 (by decide))
      have h8 := blk_lt h7
      go_wp2_with fail
      refine hP.mono ?_
      rintro e w3 ⟨rfl, F3, HB3, m3, g3⟩
      have hF3 : ∀ k, F3 k → w.heap.size ≤ k := grow_up g3 hF2 b2.size
      have b3 := m3.below b2 b2.size hF2
      have h9 := (m3.block _ h8 hg2).trans h7
      clear hP HB2 m3 g3 h7 h8 d1 b2 hF2
      have d1 : w3.cell? ⟨wr.heap.size, 1, none⟩ = some (.string x1) := blk_cell h9 1
      have hT := Buf.text F3 w.heap.size (pto (pto L x0 2) (x1.size : Int) 4) x1 w3 HB3 (by have := hL.out; have := HLN.out; have := hp1.out; have := hp2.out; have := HX.out.2.2; omega)
      go_wp2_with fail
      refine hT.mono ?_
      rintro e w4 ⟨rfl, F4, HB4, m4, g4⟩
      have hF4 : ∀ k, F4 k → w.heap.size ≤ k := grow_up g4 hF3 b3.size
      have b4 := m4.below b3 b3.size hF3
      have hLn : Hid ((stp L (x0, x1)).length ≤ 34 + (k + 1) * 100100) := Lib.hid (by
        have := hL.out
        have := hp1.out
        have := hp2.out
        have := HX.out.2.2
        unfold stp
        rw [List.length_append]
        show (pto (pto L x0 2) (x1.size : Int) 4).length + x1.size ≤ _
        omega)
      have HB6 : BB w4 F4 w.heap.size (stp L (x0, x1)) := HB4
      rw [← hfs] at HB6 hLn
      clear hT HB3 HB4 m4 g4 h9 d1 b3 hF3 hp1 hp2 hw2 hw3 hg2 hgF c0 c1
      have hwk : wrap64 ((k : Int) + 1) = ((k + 1 : Nat) : Int) := by have := HLN.out; unfold wrap64; omega
      go_wp2
      go_roundw
      case rel =>
        rw [hwk]
        exact ⟨k + 1, F4, hlt, rfl, HB6, hF4, hLn, b4⟩
      case measure =>
        rw [hwk]
        show l.length - ((k + 1 : Nat) : Int).toNat < l.length - ((k : Nat) : Int).toNat
        rw [Int.toNat_natCast, Int.toNat_natCast]
        omega
    · have hkl : k = l.length := by omega
      subst hkl
      rw [List.take_length, hR.out] at HB
      have hB := Buf.bytes F w.heap.size _ wr HB
      have hb2 := bb
      go_wp2_with fail
      refine hB.mono ?_
      rintro e w5 ⟨rfl, _, m5⟩
      go_wp2
      go_ret
      exact ⟨rfl, m5.below bb bb.size HF⟩
end Go.Proofs.Ytehojcocnndniaa.Img
namespace Go.Proofs.Ytehojcocnndniaa.Img
open Go.RowKit Base Sp Flat Go.Proofs.YtehojcocnndniaaW.PrintWords Go.Proofs.YtehojcocnndniaaW.PrintLast Go.Proofs.YtehojcocnndniaaW.PrintMore Wd Al Buf
/-- What is wrong first with some sections' kinds. -/
def kds (last : Int) : List (Int × ByteArray) → Int
  | [] => 0
  | x :: l => if x.1 < 1 ∨ 255 < x.1 then 4 else if x.1 ≤ last then 14 else kds x.1 l
set_option maxRecDepth 20000 in
set_option maxHeartbeats 2000000 in
theorem kinds (A : Option Addr) (cap : Nat) (l : List (Int × ByteArray)) (w : World) (hS : Secs w A l) (hl : l.length ≤ 1000) :
    Calls Try.prog 55 #[.slice A l.length cap] w fun e w' => e = .returned (.int .i64 (kds 0 l)) ∧ Below w.heap.size w w' := by
  have HLN := Lib.hid hl
  clear hl
  obtain ⟨R, hR0⟩ : ∃ R, R = kds 0 l := ⟨_, rfl⟩
  rw [← hR0]
  have hR : Hid (R = kds 0 (l.drop 0)) := Lib.hid hR0
  clear hR0
  go_enter Try.func55, Try.ntmps55
  go_wp2
  go_loopw [3, 8] (fun v i wr => ∃ (k : Nat) (last : Int), k ≤ l.length ∧ v = .int .i64 last ∧ i = .int .i64 (k : Int) ∧ Hid (R = kds last (l.drop k)) ∧ Below w.heap.size w wr) (fun _ i _ => (l.length - (intOf i).toNat))
  case atStart => exact ⟨0, 0, Nat.zero_le _, rfl, rfl, hR, Below.refl _ _⟩
  case round =>
    clear hR
    obtain ⟨k, last, hk, rfl, rfl, hR, bb⟩ := hrel
    have k0 : (0 : Int) ≤ (k : Int) := by omega
    by_cases hlt : k < l.length
    · have k2 : (k : Int) < (l.length : Int) := by omega
      obtain ⟨ad, rfl, c0, c1⟩ := hS.below bb k hlt
      have hd : l.drop k = l[k] :: l.drop (k + 1) := List.drop_eq_getElem_cons hlt
      have hR2 := hR.out
      rw [hd, kds] at hR2
      clear hR hd
      generalize l[k] = x at *
      obtain ⟨x0, x1⟩ := x
      dsimp only at c0 c1 hR2
      have b5 : Below w.heap.size w (wr.alloc (.cells #[.int .i64 x0, .string x1] 102)) := bb.alloc bb.size _
      by_cases p1 : x0 < 1
      · rw [if_pos (.inl p1)] at hR2
        subst hR2
        go_wp2
        go_ret
        exact ⟨rfl, b5⟩
      · by_cases p2 : 255 < x0
        · rw [if_pos (.inr p2)] at hR2
          subst hR2
          go_wp2
          go_ret
          exact ⟨rfl, b5⟩
        · rw [if_neg (by omega)] at hR2
          by_cases p3 : x0 ≤ last
          · rw [if_pos p3] at hR2
            subst hR2
            go_wp2
            go_ret
            exact ⟨rfl, b5⟩
          · rw [if_neg p3] at hR2
            have hR3 := Lib.hid hR2
            clear hR2
            have hwk : wrap64 ((k : Int) + 1) = ((k + 1 : Nat) : Int) := by have := HLN.out; unfold wrap64; omega
            go_wp2
            go_roundw
            case rel =>
              rw [hwk]
              exact ⟨k + 1, x0, hlt, rfl, rfl, hR3, b5⟩
            case measure =>
              rw [hwk]
              show l.length - ((k + 1 : Nat) : Int).toNat < l.length - ((k : Nat) : Int).toNat
              rw [Int.toNat_natCast, Int.toNat_natCast]
              omega
    · have hkl : k = l.length := by omega
      subst hkl
      have hR2 := hR.out
      rw [List.drop_length, kds] at hR2
      subst hR2
      go_wp2
      go_ret
      exact ⟨rfl, bb⟩
end Go.Proofs.Ytehojcocnndniaa.Img
namespace Go.Proofs.Ytehojcocnndniaa.Img
open Go.RowKit Base Sp Flat Go.Proofs.YtehojcocnndniaaW.PrintWords Go.Proofs.YtehojcocnndniaaW.PrintLast Go.Proofs.YtehojcocnndniaaW.PrintMore Wd Al Buf
/-- What a section counts, and all of them. -/
def mn (x : Int × ByteArray) : Int := if (x.2.size : Int) < 65537 then x.2.size else 65537
def smz : List (Int × ByteArray) → Int
  | [] => 0
  | x :: l => mn x + smz l
theorem mn_range (x : Int × ByteArray) : 0 ≤ mn x ∧ mn x ≤ 65537 := by
  unfold mn
  split <;> omega
theorem smz_app : ∀ l m, smz (l ++ m) = smz l + smz m
  | [], m => by simp [smz]
  | x :: l, m => by simp only [List.cons_append, smz, smz_app l m]; omega
theorem smz_nn : ∀ l, 0 ≤ smz l ∧ smz l ≤ l.length * 65537
  | [] => by simp [smz]
  | x :: l => by
    have h1 := smz_nn l
    have h2 := mn_range x
    simp only [smz, List.length_cons]
    omega
theorem smz_mem : ∀ l, ∀ x ∈ l, mn x ≤ smz l
  | [], x, h => by cases h
  | y :: l, x, h => by
    have h1 := smz_nn l
    have h2 := mn_range y
    rw [smz]
    rcases List.mem_cons.1 h with rfl | h
    · omega
    · have := smz_mem l x h
      omega
theorem smz_snoc (l : List (Int × ByteArray)) (k : Nat) (h : k < l.length) : smz (l.take (k + 1)) = smz (l.take k) + mn l[k] := by
  rw [List.take_succ_eq_append_getElem h, smz_app, smz, smz]
  omega
theorem mn_size {x : Int × ByteArray} (h : mn x ≤ 65536) : x.2.size ≤ 65536 := by
  unfold mn at h
  split at h <;> omega
theorem kds_ok : ∀ l last, kds last l = 0 → ∀ x ∈ l, 1 ≤ x.1 ∧ x.1 ≤ 255
  | [], _, _, x, h => by cases h
  | y :: l, last, hk, x, h => by
    rw [kds] at hk
    by_cases p : y.1 < 1 ∨ 255 < y.1
    · rw [if_pos p] at hk; cases hk
    · rw [if_neg p] at hk
      by_cases q : y.1 ≤ last
      · rw [if_pos q] at hk; cases hk
      · rw [if_neg q] at hk
        rcases List.mem_cons.1 h with rfl | h
        · omega
        · exact kds_ok l y.1 hk x h
theorem fold_len : ∀ (l : List (Int × ByteArray)) (L : List UInt8), (∀ x ∈ l, x.2.size ≤ 65536) → (l.foldl stp L).length ≤ L.length + l.length * 65566
  | [], L, _ => by simp
  | x :: l, L, h => by
    have h1 := fold_len l (stp L x) (fun y hy => h y (List.mem_cons_of_mem _ hy))
    have h2 := plen L x.1 2 (by decide)
    have h3 := plen (pto L x.1 2) (x.2.size : Int) 4 (by decide)
    have h4 := h x List.mem_cons_self
    have h5 : (stp L x).length = (pto (pto L x.1 2) (x.2.size : Int) 4).length + x.2.size := by
      unfold stp
      rw [List.length_append]
      rfl
    rw [List.foldl_cons, List.length_cons]
    omega
theorem bod_len (l : List (Int × ByteArray)) (n : Int) (h : ∀ x ∈ l, x.2.size ≤ 65536) : (bod l n).length ≤ 34 + l.length * 65566 := by
  have h1 := fold_len l (hdr n (l.length : Int)) h
  have h2 := hdr_len n (l.length : Int)
  unfold bod
  omega
end Go.Proofs.Ytehojcocnndniaa.Img
namespace Go.Proofs.Ytehojcocnndniaa.CrcP
open Go.RowKit
/-- What is laid over the register where a bit falls out. -/
def P : BitVec 32 := 0xedb88320#32
/-- A bit falls out. -/
def sh (x : BitVec 32) : BitVec 32 := (x >>> 1) ^^^ (if x.getLsbD 0 then P else 0#32)
/-- A bit of the text. -/
def bit (b : Bool) : BitVec 32 := if b then 1#32 else 0#32
def feed (r : BitVec 32) (b : Bool) : BitVec 32 := sh (r ^^^ bit b)
def shN : Nat → BitVec 32 → BitVec 32
  | 0, x => x
  | n + 1, x => shN n (sh x)
/-- The number in a register. -/
def num (x : BitVec 32) : Int := (x.toNat : Int)
theorem num_lo (x : BitVec 32) : 0 ≤ num x := Int.natCast_nonneg _
theorem num_hi (x : BitVec 32) : num x < 4294967296 := by
  have := x.isLt
  unfold num
  omega
theorem num_inj {x y : BitVec 32} (h : num x = num y) : x = y := BitVec.eq_of_toNat_eq (by unfold num at h; omega)

theorem sh_zero : sh 0#32 = 0#32 := by decide
theorem sh_xor (x y : BitVec 32) : sh (x ^^^ y) = sh x ^^^ sh y := by
  unfold sh
  have h : (x ^^^ y) >>> 1 = (x >>> 1) ^^^ (y >>> 1) := by
    apply BitVec.eq_of_getLsbD_eq
    intro i hi
    simp
  rw [h, BitVec.getLsbD_xor]
  cases x.getLsbD 0 <;> cases y.getLsbD 0 <;> simp [BitVec.xor_assoc]
  · exact BitVec.xor_comm _ _
  · rw [← BitVec.xor_assoc, BitVec.xor_comm P, BitVec.xor_assoc, BitVec.xor_self, BitVec.xor_zero]
theorem shN_xor (n : Nat) : ∀ x y : BitVec 32, shN n (x ^^^ y) = shN n x ^^^ shN n y := by
  induction n with
  | zero => intro x y; rfl
  | succ n ih => intro x y; simp only [shN, sh_xor, ih]
theorem shN_zero (n : Nat) : shN n 0#32 = 0#32 := by
  induction n with
  | zero => rfl
  | succ n ih => simp only [shN, sh_zero, ih]
/-- Nothing but 0 becomes 0. -/
theorem sh_eq_zero {x : BitVec 32} (h : sh x = 0#32) : x = 0#32 := by
  have h31 : (sh x).getLsbD 31 = x.getLsbD 0 := by
    unfold sh
    cases hx : x.getLsbD 0 <;> simp [P]
  have h0 : x.getLsbD 0 = false := by rw [← h31, h]; rfl
  have h1 : x >>> 1 = 0#32 := by
    unfold sh at h
    rw [h0] at h
    simpa using h
  apply BitVec.eq_of_getLsbD_eq
  intro i hi
  rcases Nat.eq_zero_or_pos i with rfl | hp
  · simpa using h0
  · have := congrArg (fun z => z.getLsbD (i - 1)) h1
    simp at this
    rw [show 1 + (i - 1) = i from by omega] at this
    simpa using this
theorem shN_eq_zero (n : Nat) : ∀ {x : BitVec 32}, shN n x = 0#32 → x = 0#32 := by
  induction n with
  | zero => intro x h; exact h
  | succ n ih => intro x h; exact sh_eq_zero (ih h)

/-! the walk's own words -/
theorem ofInt_num (x : BitVec 32) : BitVec.ofInt 32 (num x) = x := by
  unfold num
  rw [BitVec.ofInt_natCast, BitVec.ofNat_toNat, BitVec.setWidth_eq]
theorem wrap_num (x : BitVec 32) : IntKind.u32.wrap (num x) = num x := by
  have h0 := num_lo x
  have h1 := num_hi x
  simp [IntKind.wrap, IntKind.bits, IntKind.signed]
  omega
theorem num_xor (x y : BitVec 32) : bits .xor .u32 (num x) (num y) = num (x ^^^ y) := by
  show IntKind.u32.wrap (num (BitVec.ofInt 32 (num x) ^^^ BitVec.ofInt 32 (num y))) = _
  rw [ofInt_num, ofInt_num, wrap_num]
theorem num_lsb (x : BitVec 32) : num x % 2 = if x.getLsbD 0 then 1 else 0 := by
  unfold num
  rw [BitVec.getLsbD, Nat.testBit_zero]
  rcases Nat.mod_two_eq_zero_or_one x.toNat with h | h <;> simp [h] <;> omega
theorem num_odd (x : BitVec 32) : (bits .and .u32 (num x) 1 == 1) = x.getLsbD 0 := by
  have h : bits .and .u32 (num x) 1 = num (x &&& 1#32) := by
    show IntKind.u32.wrap (num (BitVec.ofInt 32 (num x) &&& BitVec.ofInt 32 1)) = _
    rw [ofInt_num, wrap_num]
    rfl
  rw [h]
  have h1 : num (x &&& 1#32) = num x % 2 := by
    unfold num
    rw [BitVec.toNat_and]
    show ((x.toNat &&& 1 : Nat) : Int) = _
    rw [Nat.and_one_is_mod]
    omega
  rw [h1, num_lsb]
  cases x.getLsbD 0 <;> rfl
theorem num_half (x : BitVec 32) : num x / (2 : Int) = num (x >>> (1 : Nat)) := by
  unfold num
  rw [BitVec.toNat_ushiftRight, Nat.shiftRight_eq_div_pow]
  omega
theorem num_P : num P = 3988292384 := by decide
/-- A round of the program's loop. -/
theorem round_odd (x : BitVec 32) (h : x.getLsbD 0 = true) : bits .xor .u32 (num x / 2) 3988292384 = num (sh x) := by
  rw [num_half, ← num_P, num_xor]
  unfold sh
  rw [h]
  rfl
theorem round_even (x : BitVec 32) (h : x.getLsbD 0 = false) : num x / 2 = num (sh x) := by
  rw [num_half]
  unfold sh
  rw [h]
  simp
theorem num_byte (c : UInt8) : (c.toNat : Int) = num (c.toBitVec.setWidth 32) := by
  unfold num
  rw [BitVec.toNat_setWidth]
  have := c.toNat_lt
  show (c.toNat : Int) = ((c.toNat % 2 ^ 32 : Nat) : Int)
  rw [Nat.mod_eq_of_lt (by omega)]
theorem num_not (x : BitVec 32) : bits .xor .u32 IntKind.u32.max (num x) = num (~~~ x) := by
  have h : IntKind.u32.max = num (BitVec.allOnes 32) := by decide
  rw [h, num_xor, BitVec.allOnes_xor]

/-- A byte. -/
def stepB (r : BitVec 32) (c : UInt8) : BitVec 32 := shN 8 (r ^^^ c.toBitVec.setWidth 32)
def stepL (r : BitVec 32) (l : List UInt8) : BitVec 32 := l.foldl stepB r
/-- The sum of what a sum is of, with a text behind. -/
def more (x : BitVec 32) (l : List UInt8) : BitVec 32 := ~~~ (stepL (~~~ x) l)
def sum (l : List UInt8) : BitVec 32 := more 0#32 l
theorem more_append (x : BitVec 32) (a b : List UInt8) : more (more x a) b = more x (a ++ b) := by
  unfold more stepL
  rw [BitVec.not_not, List.foldl_append]
theorem more_nil (x : BitVec 32) : more x [] = x := by
  unfold more stepL
  simp
theorem sum_append (a b : List UInt8) : more (sum a) b = sum (a ++ b) := more_append _ _ _
end Go.Proofs.Ytehojcocnndniaa.CrcP
namespace Go.Proofs.Ytehojcocnndniaa.Crc
open Go.RowKit Base CrcP

theorem shN_succ (n : Nat) : ∀ x, shN (n + 1) x = sh (shN n x) := by
  induction n with
  | zero => intro x; rfl
  | succ n ih => intro x; rw [shN, ih, shN]

theorem step (r : BitVec 32) (c : UInt8) (w : World) :
    Calls Try.prog 96 #[.int .u32 (num r), .int .u8 (c.toNat : Int)] w fun e w' => e = .returned (.int .u32 (num (stepB r c))) ∧ w = w' := by
  have hc := num_byte c
  obtain ⟨d, hd⟩ : ∃ d : Int, d = (c.toNat : Int) := ⟨_, rfl⟩
  have d0 : 0 ≤ d := by omega
  have d1 : d < 256 := by have := c.toNat_lt; omega
  rw [← hd]
  rw [← hd] at hc
  have hx : bits .xor .u32 (num r) d = num (r ^^^ c.toBitVec.setWidth 32) := by rw [hc, num_xor]
  have HX : Hid (stepB r c = shN 8 (r ^^^ c.toBitVec.setWidth 32)) := rfl
  generalize r ^^^ c.toBitVec.setWidth 32 = x at hx HX
  clear hc hd
  go_enter Try.func96, Try.ntmps96
  go_wp2
  go_step3
  go_wp2
  go_step3
  go_wp2
  go_loop [0, 5, 6] (fun a n o => ∃ k : Nat, k ≤ 8 ∧ a = .int .u32 (num (shN k x)) ∧ n = .int .i64 (k : Int)) (fun _ n _ => (8 - intOf n).toNat)
  case atStart => exact ⟨0, by omega, rfl, rfl⟩
  case round =>
    obtain ⟨k, k1, rfl, rfl⟩ := hrel
    have n0 := num_lo (shN k x)
    have n1 := num_hi (shN k x)
    by_cases hk : k = 8
    · subst hk
      go_wp2
      try rw [Exit.noGoto_ret]
      go_ret
      exact ⟨bx (by rw [HX.out]), rfl⟩
    · have hk8 : ((k : Int) == 8) = false := by simp; omega
      have hlt : k < 8 := by omega
      have HS := Lib.hid (shN_succ k x)
      cases ho : (shN k x).getLsbD 0 with
      | true =>
        have h1 : (bits .and .u32 (num (shN k x)) 1 == 1) = true := by rw [num_odd, ho]
        have HR := Lib.hid (round_odd _ ho)
        clear hk ho
        go_wp2
        go_round
        case rel => exact ⟨k + 1, by omega, by rw [HR.out, HS.out], by go_num⟩
        case measure => simp [intOf]; omega
      | false =>
        have h1 : (bits .and .u32 (num (shN k x)) 1 == 1) = false := by rw [num_odd, ho]
        have HR := Lib.hid (round_even _ ho)
        clear hk ho
        go_wp2
        go_round
        case rel => exact ⟨k + 1, by omega, by rw [HR.out, HS.out], by go_num⟩
        case measure => simp [intOf]; omega

/-- A text's bytes. -/
def bytes (s : ByteArray) : List UInt8 := s.data.toList
theorem bytes_len (s : ByteArray) : (bytes s).length = s.size := by simp [bytes]
theorem take_snoc (s : ByteArray) (k : Nat) (h : k < s.size) : (bytes s).take (k + 1) = (bytes s).take k ++ [s[k]] := by
  unfold bytes
  rw [List.take_succ_eq_append_getElem (by simpa using h)]; rfl
theorem stepL_snoc (r : BitVec 32) (l : List UInt8) (c : UInt8) : stepL r (l ++ [c]) = stepB (stepL r l) c := by
  unfold stepL
  rw [List.foldl_append]
  rfl

theorem more (x : BitVec 32) (s : ByteArray) (w : World) (hs : s.size ≤ maxLen) :
    Calls Try.prog 82 #[.int .u32 (num x), .string s] w fun e w' => e = .returned (.int .u32 (num (CrcP.more x (bytes s)))) ∧ w = w' := by
  unfold maxLen at hs
  have hn := num_not x
  have HX : Hid (CrcP.more x (bytes s) = ~~~ (stepL (~~~ x) (bytes s))) := rfl
  generalize ~~~ x = y at hn HX
  go_enter Try.func82, Try.ntmps82
  go_wp2
  go_loop [5, 6, 11] (fun a _ n => ∃ k : Nat, k ≤ s.size ∧ a = .int .u32 (num (stepL y ((bytes s).take k))) ∧ n = .int .i64 (k : Int)) (fun _ _ n => (s.size - (intOf n).toNat))
  case atStart => exact ⟨0, by omega, by rw [List.take_zero]; rfl, rfl⟩
  case round =>
    obtain ⟨k, k1, rfl, rfl⟩ := hrel
    by_cases hlt : k < s.size
    · have HT := Lib.hid (take_snoc s k hlt)
      have HS := Lib.hid (stepL_snoc y ((bytes s).take k) s[k])
      go_wp2_with fail
      refine (step (stepL y ((bytes s).take k)) s[k] _).mono ?_
      rintro e w' ⟨rfl, rfl⟩
      go_wp2
      go_round
      case rel => exact ⟨k + 1, by omega, by rw [HT.out, HS.out], by go_num⟩
      case measure => simp [intOf]; omega
    · have HT : Hid ((bytes s).take k = bytes s) := by
        show (bytes s).take k = bytes s
        exact List.take_of_length_le (by rw [bytes_len]; omega)
      have hn2 := num_not (stepL y ((bytes s).take k))
      go_wp2
      go_ret
      exact ⟨bx (by rw [HX.out, HT.out]), rfl⟩

theorem sum (s : ByteArray) (w : World) (hs : s.size ≤ maxLen) :
    Calls Try.prog 54 #[.string s] w fun e w' => e = .returned (.int .u32 (num (CrcP.sum (bytes s)))) ∧ w = w' := by
  go_enter Try.func54, Try.ntmps54
  go_wp2_with fail
  refine (more 0#32 s _ hs).mono ?_
  rintro e w' ⟨rfl, rfl⟩
  go_wp2
  go_ret
  exact ⟨rfl, rfl⟩
end Go.Proofs.Ytehojcocnndniaa.Crc
namespace Go.Proofs.Ytehojcocnndniaa.Img
open Go.RowKit Base Sp Flat Go.Proofs.YtehojcocnndniaaW.PrintWords Go.Proofs.YtehojcocnndniaaW.PrintLast Go.Proofs.YtehojcocnndniaaW.PrintMore Wd Al Buf
/-- The filled bytes, and with their sum. -/
def fil (P : List UInt8) : List UInt8 := P ++ List.replicate (gapv P.length 4).toNat 0
def iend (P : List UInt8) : List UInt8 := pto (fil P) (CrcP.num (CrcP.sum (Crc.bytes (tx (fil P))))) 4
def ilen (l : List (Int × ByteArray)) : Int := ((bod l 0).length : Int) + (gapv (bod l 0).length 4 + 4)
def ipt (l : List (Int × ByteArray)) : ByteArray × Int :=
  if kds 0 l ≠ 0 then (⟨#[]⟩, kds 0 l) else if 65536 < smz l then (⟨#[]⟩, 3) else if 65536 < ilen l then (⟨#[]⟩, 3) else (tx (iend (bod l (ilen l))), 0)
theorem mn_min (x : Int × ByteArray) : mn x = min ((x.2.size : Nat) : Int) 65537 := by
  unfold mn
  split <;> omega
set_option maxRecDepth 20000 in
set_option maxHeartbeats 2000000 in
theorem put (A : Option Addr) (cap : Nat) (l : List (Int × ByteArray)) (w : World) (hS : Secs w A l) (hl : l.length ≤ 1000) :
    Calls Try.prog 29 #[.slice A l.length cap] w fun e w' => e = .returned (.tuple #[.string (ipt l).1, .int .i64 (ipt l).2]) ∧ Below w.heap.size w w' := by
  have HLN := Lib.hid hl
  have HK := kinds A cap l w hS hl
  by_cases hk : kds 0 l = 0
  · rw [hk] at HK
    have HI : Hid (ipt l = if 65536 < smz l then (⟨#[]⟩, 3) else if 65536 < ilen l then (⟨#[]⟩, 3) else (tx (iend (bod l (ilen l))), 0)) := Lib.hid (by unfold ipt; rw [if_neg (fun h => h hk)])
    have HKO := Lib.hid (kds_ok l 0 hk)
    clear hk hl
    go_enter Try.func29, Try.ntmps29
    go_wp2_with fail
    refine HK.mono ?_
    rintro e w1 ⟨rfl, b1⟩
    clear HK
    go_wp2
    go_loopw [5, 17] (fun v i wr => ∃ (k : Nat) (acc : Int), k ≤ l.length ∧ v = .int .i64 acc ∧ i = .int .i64 (k : Int) ∧ Hid (acc = smz (l.take k)) ∧ Below w.heap.size w wr) (fun _ i _ => (l.length - (intOf i).toNat))
    case atStart => exact ⟨0, 0, Nat.zero_le _, rfl, rfl, Lib.hid (by rw [List.take_zero, smz]), b1⟩
    case round =>
      clear b1
      obtain ⟨k, acc, hkl, rfl, rfl, hacc, bb⟩ := hrel
      have k0 : (0 : Int) ≤ (k : Int) := by omega
      by_cases hlt : k < l.length
      · have k2 : (k : Int) < (l.length : Int) := by omega
        obtain ⟨ad, rfl, c0, c1⟩ := hS.below bb k hlt
        have hsn := Lib.hid (smz_snoc l k hlt)
        have hr := Lib.hid (smz_nn (l.take k))
        have hmr := Lib.hid (mn_range l[k])
        have hmd := Lib.hid (mn_min l[k])
        generalize l[k] = x at *
        obtain ⟨x0, x1⟩ := x
        dsimp only at c0 c1
        have b5 : Below w.heap.size w (wr.alloc (.cells #[.int .i64 x0, .string x1] 102)) := bb.alloc bb.size _
        have hwk : wrap64 ((k : Int) + 1) = ((k + 1 : Nat) : Int) := by have := HLN.out; unfold wrap64; omega
        have hacc2 : Hid (wrap64 (acc + mn (x0, x1)) = smz (l.take (k + 1))) := Lib.hid (by
          have h1 := hacc.out
          have h2 := hsn.out
          have h3 := hr.out
          have h4 := hmr.out
          have h5 := HLN.out
          rw [List.length_take] at h3
          rw [h2, ← h1]
          rw [← h1] at h3
          unfold wrap64
          omega)
        rw [hmd.out] at hacc2
        dsimp only at hacc2
        clear hsn hr hmr hmd hacc
        go_wp2
        refine ⟨⟨k + 1, _, hlt, rfl, by rw [hwk], hacc2, b5⟩, ?_⟩
        rw [hwk]
        show l.length - ((k + 1 : Nat) : Int).toNat < l.length - ((k : Nat) : Int).toNat
        rw [Int.toNat_natCast, Int.toNat_natCast]
        omega
      · have hkl2 : k = l.length := by omega
        subst hkl2
        have ha := hacc.out
        rw [List.take_length] at ha
        rw [← ha] at HI
        by_cases p1 : 65536 < acc
        · have HJ := Lib.hid (HI.out.trans (if_pos p1))
          clear HI ha hacc HKO
          go_wp2
          go_ret2
          exact ⟨by rw [HJ.out]; rfl, bb⟩
        · have HJ := Lib.hid (HI.out.trans (if_neg p1))
          have HX : ∀ x ∈ l, x.2.size ≤ 65536 := fun x hx => mn_size (by have := smz_mem l x hx; omega)
          have HY : ∀ x ∈ l, 0 ≤ x.1 ∧ x.1 < 9223372036854775808 ∧ x.2.size ≤ 100000 := fun x hx => by have := HX x hx; have := HKO.out x hx; omega
          have hB := body A cap l 0 wr (hS.below bb) HY HLN.out (by decide) (by decide)
          have hb0 := Lib.hid (bod_len l 0 HX)
          have HY2 := Lib.hid HY
          have HX2 := Lib.hid HX
          clear HI ha hacc HKO HX HY
          go_wp2_with fail
          refine hB.mono ?_
          rintro e w2 ⟨rfl, b2⟩
          have bb2 := bstep bb b2
          clear hB b2 bb
          have hil : Hid (ilen l = ((tx (bod l 0)).size : Int) + (gapv ((tx (bod l 0)).size : Int) 4 + 4)) := Lib.hid rfl
          have hg := Lib.hid (gapv_le ((tx (bod l 0)).size : Int) 4)
          have hb1 : Hid ((tx (bod l 0)).size ≤ 34 + l.length * 65566) := hb0
          clear hb0
          generalize tx (bod l 0) = s0 at *
          have HG := fun w => gap (s0.size : Int) 4 (by omega) (by have := hb1.out; have := HLN.out; omega) w
          have hw1 : wrap64 (gapv (s0.size : Int) 4 + 4) = gapv (s0.size : Int) 4 + 4 := by have := hg.out; unfold wrap64; omega
          have hw2 : wrap64 ((s0.size : Int) + (gapv (s0.size : Int) 4 + 4)) = ilen l := by have := hg.out; have := hil.out; have := hb1.out; have := HLN.out; unfold wrap64; omega
          have hn0 : Hid (0 ≤ ilen l ∧ ilen l < 9223372036854775808) := Lib.hid (by have := hg.out; have := hil.out; have := hb1.out; have := HLN.out; omega)
          clear hil hg hb1
          generalize gapv (s0.size : Int) 4 = G at *
          generalize ilen l = N at *
          go_wp2_with fail
          refine (HG _).mono ?_
          rintro e w3 ⟨rfl, b3⟩
          have bb3 := bstep bb2 b3
          clear bb2 b3 HG
          by_cases p2 : 65536 < N
          · have HJ2 := Lib.hid (HJ.out.trans (if_pos p2))
            go_wp2
            rw [hw1, hw2]
            go_ret2
            exact ⟨by rw [HJ2.out]; rfl, bb3⟩
          · have HJ2 := Lib.hid (HJ.out.trans (if_neg p2))
            clear HJ
            go_wp2_with fail
            refine (Buf.new w3).mono ?_
            rintro e w4 ⟨rfl, n4, b4⟩
            have bb4 := bstep bb3 b4
            have hB2 := body A cap l N w4 (hS.below bb4) HY2.out HLN.out hn0.out.1 hn0.out.2
            have hbl := Lib.hid (bod_len l N HX2.out)
            go_wp2_with fail
            refine hB2.mono ?_
            rintro e w5 ⟨rfl, b5⟩
            have n5 := n4.below b5
            have bb5 := bstep bb4 b5
            have hlow : w.heap.size ≤ w3.heap.size := bb3.size
            clear hB2 n4 b4 b5 bb4 bb3 HX2 HY2 hw1 hw2
            generalize bod l N = P at *
            have hPl : Hid (P.length ≤ 70000000) := Lib.hid (by have := hbl.out; have := HLN.out; omega)
            clear hbl
            have hT := Buf.text _ w3.heap.size [] (tx P) w5 n5 (by have := hPl.out; show 0 + P.length ≤ _; omega)
            go_wp2_with fail
            refine hT.mono ?_
            rintro e w6 ⟨rfl, F6, HB6, m6, g6⟩
            rw [show ([] : List UInt8) ++ (tx P).data.toList = P from rfl] at HB6
            have hF0 : ∀ k, k = w3.heap.size → w.heap.size ≤ k := fun k hk => by omega
            have hF6 : ∀ k, F6 k → w.heap.size ≤ k := grow_up g6 hF0 bb5.size
            have bb6 := m6.below bb5 bb5.size hF0
            clear hT n5 m6 g6 bb5 hF0
            have hLn := Buf.len_ F6 w3.heap.size P w6 HB6
            go_wp2_with fail
            refine hLn.mono ?_
            rintro e w7 ⟨rfl, rfl⟩
            clear hLn
            have HG := fun w => gap (P.length : Int) 4 (by omega) (by have := hPl.out; omega) w
            have hg := gapv_le (P.length : Int) 4
            have hfil : Hid (fil P = P ++ List.replicate (gapv P.length 4).toNat 0) := Lib.hid rfl
            obtain ⟨g, hgv⟩ : ∃ g : Nat, gapv (P.length : Int) 4 = (g : Int) := ⟨(gapv (P.length : Int) 4).toNat, by omega⟩
            rw [hgv] at HG hfil hg
            rw [Int.toNat_natCast] at hfil
            have HR := fun w => Try.strings_Repeat ⟨#[0]⟩ g w (by omega) (by have : (⟨#[0]⟩ : ByteArray).size = 1 := rfl; rw [this]; omega)
            have hg7 := Lib.hid hg.2
            clear hg hgv
            go_wp2_with fail
            refine (HG _).mono ?_
            rintro e w8 ⟨rfl, b8⟩
            have HB8 := HB6.below b8
            have bb8 := bstep bb6 b8
            clear HB6 bb6 b8 HG
            go_wp2_with fail
            refine (HR _).mono ?_
            rintro e w9 ⟨rfl, b9⟩
            have HB9 := HB8.below b9
            have bb9 := bstep bb8 b9
            clear HB8 bb8 b9 HR
            obtain ⟨Z, hZe⟩ : ∃ Z : ByteArray, Z = ⟨(Lib.repeatL (⟨#[0]⟩ : ByteArray).data.toList g).toArray⟩ := ⟨_, rfl⟩
            rw [← hZe]
            have hz : Hid (Z.data.toList = List.replicate g 0) := Lib.hid (by rw [hZe]; exact zeros_str g)
            clear hZe
            have hZl : Z.size = g := by
              have : Z.data.toList.length = g := by rw [hz.out, List.length_replicate]
              exact this
            have hT := Buf.text F6 w3.heap.size P Z w9 HB9 (by have := hPl.out; have := hg7.out; omega)
            have hZ2 := Lib.hid hZl
            clear hZl
            go_wp2_with fail
            refine hT.mono ?_
            rintro e v1 ⟨rfl, F7, HB7, m7, g7⟩
            have hF7 : ∀ k, F7 k → w.heap.size ≤ k := grow_up g7 hF6 bb9.size
            have bb7 := m7.below bb9 bb9.size hF6
            rw [hz.out, ← hfil.out] at HB7
            have hfl : Hid ((fil P).length ≤ 70000007) := Lib.hid (by rw [hfil.out, List.length_append, List.length_replicate]; have := hPl.out; have := hg7.out; omega)
            clear hT HB9 m7 g7 bb9 hF6 hz hZ2 hfil
            have hJ3 : Hid (ipt l = (tx (pto (fil P) (CrcP.num (CrcP.sum (Crc.bytes (tx (fil P))))) 4), 0)) := HJ2
            clear HJ2
            generalize fil P = Q at *
            have hBy := Buf.bytes F7 w3.heap.size Q v1 HB7
            go_wp2_with fail
            refine hBy.mono ?_
            rintro e v2 ⟨rfl, HB8, m8⟩
            have bb8 := m8.below bb7 bb7.size hF7
            clear hBy HB7 m8 bb7
            have hC := Crc.sum (tx Q) v2 (by have := hfl.out; show Q.length ≤ _; unfold maxLen; omega)
            have hn1 := CrcP.num_lo (CrcP.sum (Crc.bytes (tx Q)))
            have hn2 := CrcP.num_hi (CrcP.sum (Crc.bytes (tx Q)))
            generalize CrcP.num (CrcP.sum (Crc.bytes (tx Q))) = C at *
            have hcv : IntKind.u64.wrap C = C := wrapu64 hn1 (by omega)
            go_wp2_with fail
            refine hC.mono ?_
            rintro e v3 ⟨rfl, rfl⟩
            clear hC
            have hP := aput F7 w3.heap.size Q C 4 v2 HB8 (by have := hfl.out; omega) hn1 (by omega)
            clear hn1 hn2
            go_wp2_with fail
            refine hP.mono ?_
            rintro e v4 ⟨rfl, F9, HB9, m9, g9⟩
            have hF9 : ∀ k, F9 k → w.heap.size ≤ k := grow_up g9 hF7 bb8.size
            have bb9 := m9.below bb8 bb8.size hF7
            have hBy := Buf.bytes F9 w3.heap.size (pto Q C 4) v4 HB9
            clear hP HB8 m9 g9 bb8 hF7
            go_wp2_with fail
            refine hBy.mono ?_
            rintro e v5 ⟨rfl, _, m10⟩
            go_wp2
            go_ret2
            exact ⟨by rw [hJ3.out]; rfl, m10.below bb9 bb9.size hF9⟩
  · have HI : Hid (ipt l = (⟨#[]⟩, kds 0 l)) := Lib.hid (by unfold ipt; rw [if_pos hk])
    have h1 : (kds 0 l != 0) = true := by simpa using hk
    generalize kds 0 l = q at *
    go_enter Try.func29, Try.ntmps29
    go_wp2_with fail
    refine HK.mono ?_
    rintro e w1 ⟨rfl, b1⟩
    go_wp2
    go_ret2
    exact ⟨by rw [HI.out]; rfl, b1⟩
end Go.Proofs.Ytehojcocnndniaa.Img
namespace Go.Proofs.Ytehojcocnndniaa.Wd
open Go.RowKit Base Go.Proofs.YtehojcocnndniaaW.PrintWords Go.Proofs.YtehojcocnndniaaW.PrintLast Go.Proofs.YtehojcocnndniaaW.PrintMore Go.Proofs.Ytehojcocnndniaa.PImageTakes
theorem take_loop (b : ByteArray) (at_ s : Int) (hs : s ≤ 8) (ha : 0 ≤ at_) (hb : at_ + s ≤ b.size) (hz : b.size ≤ 9223372036854775807) : ∀ (j i : Nat) (k : Nat), ((i + j : Nat) : Int) = s →
    word_Take.l0 (j + 1 + k) b at_ (lev (fun i => bt b (at_ + i)) i) s (i : Int) = some (lev (fun i => bt b (at_ + i)) s.toNat, 0)
  | 0, i, k, h => by
    rw [show 0 + 1 + k = k + 1 from by omega]
    simp only [word_Take.l0]
    rw [if_neg (by omega), show s.toNat = i from by omega]
  | j + 1, i, k, h => by
    rw [show j + 1 + 1 + k = (j + 1 + k) + 1 from by omega]
    simp only [word_Take.l0]
    have e0 : (0 : Int) ≤ IntKind.u64.wrap (wrap64 (8 * (i : Int))) := by
      rw [u64_mod]
      omega
    have ew : wrap64 ((i : Int) + 1) = ((i + 1 : Nat) : Int) := by unfold wrap64; omega
    have ea : wrap64 (at_ + (i : Int)) = at_ + i := by unfold wrap64; omega
    have hr := bt_range b (at_ + i)
    rw [ea, if_pos (by omega), if_pos (by omega), if_pos (by omega), if_pos e0, ew, or_add _ _ i (by omega) (lev_lo _ (fun i => bt_range b _) i) (lev_hi _ (fun i => bt_range b _) i) hr.1 hr.2,
      ← lev_snoc (fun i => bt b (at_ + i)) i]
    exact take_loop b at_ s hs ha hb hz j (i + 1) k (by omega)
theorem take_eq (b : ByteArray) (at_ s : Int) (k : Nat) (hk : 12 ≤ k) (hz : b.size ≤ 9223372036854775807) (h0 : -9223372036854775808 ≤ at_) (h1 : at_ < 9223372036854775808) : word_Take.f k b at_ s = some (if sz s then takev b at_ s else (0, 4)) := by
  unfold word_Take.f
  rw [sized_eq, Option.bind_some]
  cases h : sz s with
  | false => rfl
  | true =>
    have hs := sz_cases h
    obtain ⟨k, rfl⟩ : ∃ m, k = m + 1 := ⟨k - 1, by omega⟩
    rw [if_pos rfl, if_pos rfl]
    unfold takev
    by_cases hn : at_ < 0
    · rw [if_pos hn, if_pos (Or.inl hn)]
      simp [word_Take.j0]
    · rw [if_neg hn]
      by_cases hg : (b.size : Int) < at_
      · rw [show decide (at_ > (b.size : Int)) = true from decide_eq_true hg, if_pos (Or.inr hg)]
        simp [word_Take.j0]
      · rw [show decide (at_ > (b.size : Int)) = false from decide_eq_false hg, if_neg (by omega)]
        simp only [word_Take.j0]
        have ew : wrap64 ((b.size : Int) - at_) = (b.size : Int) - at_ := by unfold wrap64; omega
        rw [if_neg (by decide), ew]
        by_cases hq : (b.size : Int) - at_ < s
        · rw [if_pos hq, if_pos hq]
        · rw [if_neg hq, if_neg hq]
          obtain ⟨n, rfl⟩ : ∃ n : Nat, s = (n : Int) := ⟨s.toNat, by omega⟩
          have := take_loop b at_ n (by omega) (by omega) (by omega) hz n 0 (k - n - 1) (by omega)
          rw [show n + 1 + (k - n - 1) = k from by omega] at this
          exact this
theorem take (b : ByteArray) (at_ s : Int) (hz : b.size ≤ 9223372036854775807) (h0 : -9223372036854775808 ≤ at_) (h1 : at_ < 9223372036854775808) (w : World) :
    Calls Try.prog 77 #[.string b, .int .i64 at_, .int .i64 s] w fun e w' => e = .returned (.tuple #[.int .u64 (if sz s then takev b at_ s else (0, 4)).1, .int .i64 (if sz s then takev b at_ s else (0, 4)).2]) ∧ Below w.heap.size w w' :=
  (word_Take.calls 12 b at_ s _ _ w (take_eq b at_ s 12 (by decide) hz h0 h1)).mono fun _ _ h => ⟨h.1, drawn_below h.2⟩
end Go.Proofs.Ytehojcocnndniaa.Wd
namespace Go.Proofs.Ytehojcocnndniaa.Cur
open Go.RowKit Base Go.Proofs.YtehojcocnndniaaW.PrintWords Go.Proofs.YtehojcocnndniaaW.PrintLast Go.Proofs.YtehojcocnndniaaW.PrintMore Wd Al
/-- What is wrong with bytes between others: how many, and where. -/
def pad (b : ByteArray) : Nat → Nat → Int
  | 0, _ => 0
  | g + 1, a => if h : a < b.size then (if b[a] = 0 then pad b g (a + 1) else 12) else 2
/-- What Take answers: the number, the place and the error behind. -/
def ctake (b : ByteArray) (a : Nat) (e s : Int) : Int × Int × Int :=
  if e ≠ 0 then (0, a, e) else if sz s = false then (0, a, 4) else if pad b (gapv a s).toNat a ≠ 0 then (0, a, pad b (gapv a s).toNat a)
  else if (takev b ((a : Int) + gapv a s) s).2 ≠ 0 then (0, a, 2) else ((takev b ((a : Int) + gapv a s) s).1, (a : Int) + gapv a s + s, 0)
theorem takev_err (b : ByteArray) (a s : Int) (hs : 0 < s) (h0 : 0 ≤ a) : (takev b a s).2 ≠ 0 ↔ (b.size : Int) < a + s := by
  unfold takev
  split
  · constructor
    · intro _; omega
    · intro _; show (7 : Int) ≠ 0; decide
  · split
    · constructor
      · intro _; omega
      · intro _; show (2 : Int) ≠ 0; decide
    · constructor
      · intro h; exact absurd rfl h
      · intro h; omega
theorem bt_get (b : ByteArray) (a : Nat) (h : a < b.size) : bt b (a : Int) = (b[a].toNat : Int) := by
  unfold bt
  rw [Int.toNat_natCast, dif_pos h]
/-- What Text answers. -/
def ctext (b : ByteArray) (a : Nat) (e n : Int) : ByteArray × Int × Int :=
  if e = 0 then (if n < 0 then (⟨#[]⟩, a, 7) else if (b.size : Int) - a < n then (⟨#[]⟩, a, 2) else (b.extract a (a + n.toNat), a + n, 0)) else (⟨#[]⟩, a, e)
/-- What Done answers. -/
def cdone (b : ByteArray) (a : Nat) (e : Int) : Int := if e = 0 ∧ a < b.size then 1 else e
end Go.Proofs.Ytehojcocnndniaa.Cur
namespace Go.Proofs.Ytehojcocnndniaa.Cur
open Go.RowKit Base Sp Flat Go.Proofs.YtehojcocnndniaaW.PrintWords Go.Proofs.YtehojcocnndniaaW.PrintLast Wd Al Buf
/-- A cursor in block c. -/
def CB (w : World) (c : Nat) (a : Nat) (b : ByteArray) (e : Int) : Prop := w.heap[c]? = some (.cells #[.int .i64 (a : Int), .string b, .int .i64 e] 132 (0, 0))
theorem three {w : World} {c a : Nat} {b : ByteArray} {e : Int} (h : CB w c a b e) :
    (w.cell? ⟨c, 0, none⟩ = some (.int .i64 (a : Int)) ∧ w.cell? ⟨c, 1, none⟩ = some (.string b) ∧ w.cell? ⟨c, 2, none⟩ = some (.int .i64 e)) ∧ w.frozen? ⟨c, 0, none⟩ = false ∧ w.frozen? ⟨c, 2, none⟩ = false :=
  ⟨⟨blk_cell h 0, blk_cell h 1, blk_cell h 2⟩, blk_frozen h 0, blk_frozen h 2⟩
theorem CB.lt {w : World} {c a : Nat} {b : ByteArray} {e : Int} (h : CB w c a b e) : c < w.heap.size := blk_lt h
theorem CB.below {w w' : World} {c a : Nat} {b : ByteArray} {e : Int} (h : CB w c a b e) (hb : Below w.heap.size w w') : CB w' c a b e := (hb.block c h.lt).trans h
theorem CB.far {w w' : World} {c a : Nat} {b : ByteArray} {e : Int} {F : Nat → Prop} (h : CB w c a b e) (hm : Mod F w w') (hF : ¬ F c) : CB w' c a b e := (hm.block c h.lt hF).trans h
theorem CB.err {w : World} {c a : Nat} {b : ByteArray} {e : Int} (h : CB w c a b e) (x : Int) : CB (w.setCell ⟨c, 2, none⟩ (.int .i64 x)) c a b x := by simpa [CB] using blk_set h 2 (.int .i64 x)
theorem CB.place {w : World} {c a : Nat} {b : ByteArray} {e : Int} (h : CB w c a b e) (x : Nat) : CB (w.setCell ⟨c, 0, none⟩ (.int .i64 (x : Int))) c x b e := by simpa [CB] using blk_set h 0 (.int .i64 (x : Int))
theorem fresh (b : ByteArray) (w : World) : CB (w.alloc (.cells #[.int .i64 0, .string b, .int .i64 0] 132)) w.heap.size 0 b 0 := heap_alloc_new _ _
theorem read (b : ByteArray) (w : World) : Calls Try.prog 50 #[.string b] w fun e w' => e = .returned (.pointer (some ⟨w.heap.size, 0, none⟩)) ∧ CB w' w.heap.size 0 b 0 ∧ Below w.heap.size w w' := by
  have H := Lib.hid (fresh b w)
  go_enter Try.func50, Try.ntmps50
  go_wp2
  go_ret
  exact ⟨rfl, H.out, (Below.refl _ _).alloc (Nat.le_refl _) _⟩
theorem fail_ (c a : Nat) (b : ByteArray) (e x : Int) (w : World) (h : CB w c a b e) : Calls Try.prog 76 #[.pointer (some ⟨c, 0, none⟩), .int .i64 x] w fun e w' => e = .returned (.tuple #[]) ∧ CB w' c a b x ∧ Mod (At c) w w' := by
  obtain ⟨⟨c0, c1, c2⟩, g0, g2⟩ := three h
  have H := Lib.hid h
  clear h
  go_enter Try.func76, Try.ntmps76
  go_wp2
  go_end0
  exact ⟨rfl, H.out.err x, at_set (Mod.refl _ _) _ _⟩
theorem at_ (c a : Nat) (b : ByteArray) (e : Int) (w : World) (h : CB w c a b e) : Calls Try.prog 81 #[.pointer (some ⟨c, 0, none⟩)] w fun e w' => e = .returned (.int .i64 (a : Int)) ∧ w = w' := by
  obtain ⟨⟨c0, c1, c2⟩, g0, g2⟩ := three h
  clear h
  go_enter Try.func81, Try.ntmps81
  go_wp2
  go_ret
  exact ⟨rfl, rfl⟩
theorem err (c a : Nat) (b : ByteArray) (e : Int) (w : World) (h : CB w c a b e) : Calls Try.prog 80 #[.pointer (some ⟨c, 0, none⟩)] w fun e' w' => e' = .returned (.int .i64 e) ∧ w = w' := by
  obtain ⟨⟨c0, c1, c2⟩, g0, g2⟩ := three h
  clear h
  go_enter Try.func80, Try.ntmps80
  go_wp2
  go_ret
  exact ⟨rfl, rfl⟩
theorem at_nil (w : World) : Calls Try.prog 81 #[.pointer none] w fun e w' => e = .returned (.int .i64 0) ∧ w = w' := by
  go_enter Try.func81, Try.ntmps81
  go_wp2
  go_ret
  exact ⟨rfl, rfl⟩
theorem err_nil (w : World) : Calls Try.prog 80 #[.pointer none] w fun e w' => e = .returned (.int .i64 0) ∧ w = w' := by
  go_enter Try.func80, Try.ntmps80
  go_wp2
  go_ret
  exact ⟨rfl, rfl⟩
theorem take_nil (s : Int) (w : World) : Calls Try.prog 51 #[.pointer none, .int .i64 s] w fun e w' => e = .returned (.int .u64 0) ∧ w = w' := by
  go_enter Try.func51, Try.ntmps51
  go_wp2
  go_ret
  exact ⟨rfl, rfl⟩
theorem text_nil (n : Int) (w : World) : Calls Try.prog 79 #[.pointer none, .int .i64 n] w fun e w' => e = .returned (.string ⟨#[]⟩) ∧ w = w' := by
  go_enter Try.func79, Try.ntmps79
  go_wp2
  go_ret
  exact ⟨rfl, rfl⟩
theorem done_nil (w : World) : Calls Try.prog 86 #[.pointer none] w fun e w' => e = .returned (.int .i64 0) ∧ w = w' := by
  go_enter Try.func86, Try.ntmps86
  go_wp2_with fail
  refine (err_nil w).mono ?_
  rintro e w' ⟨rfl, rfl⟩
  go_wp2
  go_ret
  exact ⟨rfl, rfl⟩
theorem done (c a : Nat) (b : ByteArray) (e : Int) (w : World) (h : CB w c a b e) : Calls Try.prog 86 #[.pointer (some ⟨c, 0, none⟩)] w fun e' w' => e' = .returned (.int .i64 (cdone b a e)) ∧ Below w.heap.size w w' := by
  have HE := err c a b e w h
  obtain ⟨⟨c0, c1, c2⟩, g0, g2⟩ := three h
  clear h
  by_cases he : e = 0
  · subst he
    by_cases hb : a < b.size
    · rw [show cdone b a 0 = 1 from if_pos ⟨rfl, hb⟩]
      have hb2 : (a : Int) < (b.size : Int) := by omega
      go_enter Try.func86, Try.ntmps86
      go_wp2
      go_quiet (fail)
      go_wp2
      go_ret
      exact ⟨rfl, pw_below_drewN (Below.refl _ _) _⟩
    · rw [show cdone b a 0 = 0 from if_neg (fun h => hb h.2)]
      have hb2 : ¬ (a : Int) < (b.size : Int) := by omega
      go_enter Try.func86, Try.ntmps86
      go_wp2
      go_quiet (fail)
      go_wp2
      go_ret
      exact ⟨rfl, pw_below_drewN (Below.refl _ _) _⟩
  · have e1 : (e == 0) = false := by simpa using he
    rw [show cdone b a e = e from if_neg (fun h => he h.1)]
    go_enter Try.func86, Try.ntmps86
    go_wp2_with fail
    refine HE.mono ?_
    rintro e' w' ⟨rfl, rfl⟩
    go_wp2
    go_ret
    exact ⟨rfl, Below.refl _ _⟩
end Go.Proofs.Ytehojcocnndniaa.Cur
namespace Go.Proofs.Ytehojcocnndniaa.Cur
open Go.RowKit Base Sp Flat Go.Proofs.YtehojcocnndniaaW.PrintWords Go.Proofs.YtehojcocnndniaaW.PrintLast Wd Al Buf
/-- What Take leaves. -/
def Tk (c : Nat) (b : ByteArray) (r : Int × Int × Int) (w : World) (e : Ending) (w' : World) : Prop := e = .returned (.int .u64 r.1) ∧ CB w' c r.2.1.toNat b r.2.2 ∧ Mod (At c) w w'
theorem pad_step {b : ByteArray} {g k : Nat} (h : k < b.size) (h0 : b[k] = 0) : pad b (g + 1) k = pad b g (k + 1) := by
  rw [pad, dif_pos h, if_pos h0]
theorem pad_bad {b : ByteArray} {g k : Nat} (h : k < b.size) (h0 : b[k] ≠ 0) : pad b (g + 1) k = 12 := by
  rw [pad, dif_pos h, if_neg h0]
theorem pad_end {b : ByteArray} {g k : Nat} (h : ¬ k < b.size) : pad b (g + 1) k = 2 := by
  rw [pad, dif_neg h]
theorem pcode_zero (s : Int) : pcode 0 s = if sz s then 0 else 4 := by
  unfold pcode
  cases h : sz s with
  | false => rfl
  | true =>
    rw [if_pos rfl, if_pos rfl]
    rcases sz_cases h with rfl | rfl | rfl | rfl <;> rfl
set_option maxRecDepth 20000 in
set_option maxHeartbeats 1000000 in
theorem take (c a : Nat) (b : ByteArray) (e s : Int) (w : World) (h : CB w c a b e) (ha : a ≤ b.size) (hz : b.size ≤ 140737488355328) :
    Calls Try.prog 51 #[.pointer (some ⟨c, 0, none⟩), .int .i64 s] w (Tk c b (ctake b a e s) w) := by
  unfold ctake
  by_cases he : e = 0
  · rw [if_neg (fun h => h he)]
    subst he
    have HP := fun w => Wd.put 0 s (by decide) (by decide) w
    rw [put_res, pcode_zero] at HP
    generalize (if sz s then putv 0 s else (⟨#[]⟩, 4)).1 = pr at HP
    cases hs : sz s with
    | false =>
      rw [hs] at HP
      replace HP : ∀ w, Calls Try.prog 68 #[.int .u64 0, .int .i64 s] w fun e w' => e = .returned (.tuple #[.string pr, .int .i64 4]) ∧ Below w.heap.size w w' := HP
      rw [if_pos rfl]
      obtain ⟨⟨c0, c1, c2⟩, g0, g2⟩ := three h
      have H := Lib.hid h
      clear h hs ha hz
      go_enter Try.func51, Try.ntmps51
      go_wp2_with fail
      refine (HP _).mono ?_
      rintro e w1 ⟨rfl, b1⟩
      have h1 := H.out.below b1
      have m1 := Mod.of (F := At c) b1
      clear b1 HP
      go_wp2_with fail
      refine (fail_ c a b 0 4 w1 h1).mono ?_
      rintro e w2 ⟨rfl, h2, m2⟩
      go_wp2
      go_ret
      exact ⟨rfl, h2, m1.trans m2 (fun k hk => .inl hk)⟩
    | true =>
      rw [hs] at HP
      replace HP : ∀ w, Calls Try.prog 68 #[.int .u64 0, .int .i64 s] w fun e w' => e = .returned (.tuple #[.string pr, .int .i64 0]) ∧ Below w.heap.size w w' := HP
      rw [if_neg (by decide)]
      have hsc := sz_cases hs
      have hG := gapv_le a s
      have HG := fun w h => gap_ c (a : Int) s w h (by omega) (by omega)
      obtain ⟨g, hg⟩ : ∃ g : Nat, gapv a s = (g : Int) := ⟨(gapv a s).toNat, by omega⟩
      rw [hg] at HG hG ⊢
      rw [Int.toNat_natCast]
      have HT := fun w => Wd.take b ((a : Int) + (g : Int)) s (by omega) (by omega) (by omega) w
      rw [hs] at HT
      replace HT : ∀ w, Calls Try.prog 77 #[.string b, .int .i64 ((a : Int) + (g : Int)), .int .i64 s] w fun e w' => e = .returned (.tuple #[.int .u64 (takev b ((a : Int) + (g : Int)) s).1, .int .i64 (takev b ((a : Int) + (g : Int)) s).2]) ∧ Below w.heap.size w w' := HT
      have hB : Hid (0 ≤ s ∧ s ≤ 8 ∧ g ≤ 7 ∧ a ≤ b.size ∧ b.size ≤ 140737488355328) := Lib.hid ⟨by omega, by omega, by omega, ha, hz⟩
      have hag : a + g ≤ 9223372036854775000 := by omega
      generalize hr : (if pad b g a ≠ 0 then ((0 : Int), (a : Int), pad b g a) else if (takev b ((a : Int) + (g : Int)) s).2 ≠ 0 then (0, (a : Int), 2) else ((takev b ((a : Int) + (g : Int)) s).1, (a : Int) + (g : Int) + s, 0)) = r
      have HR := Lib.hid hr
      clear hr
      obtain ⟨⟨c0, c1, c2⟩, g0, g2⟩ := three h
      have H := Lib.hid h
      clear h hs ha hz hG hg hsc
      go_enter Try.func51, Try.ntmps51
      go_wp2_with fail
      refine (HP _).mono ?_
      rintro e w1 ⟨rfl, b1⟩
      have h1 := H.out.below b1
      have m1 := Mod.of (F := At c) b1
      clear b1 HP H c0 c1 c2 g0 g2
      obtain ⟨⟨c0, c1, c2⟩, g0, g2⟩ := three h1
      have hlt := h1.lt
      go_wp2_with fail
      refine Reg.wp_plan (S := fun w' => w'.cell? ⟨c, 0, none⟩ = some (.int .i64 (a : Int))) 12 (.fl 0 (.fl 1 (.fl 2 (.fl 3 (.fl 4 (.fl 5 (.fl 6 (.fl 7 (.fl 8 (.one 9 (.fl 10 (.fl 11 .done)))))))))))) (by kernel_rfl) (by kernel_rfl) (by kernel_rfl) (by kernel_rfl) (fun _ _ _ d _ h => by cases d <;> exact h) ?_ (fun hHeld => ?_)
      · simpa using c0
      refine Reg.G_on (o := { dst := some 30, op := Op.move (Operand.tmp 0), type := 91, pos := "align.go:98", after := #[], guard := Option.none }) (v := ?_) (by rfl) ?_ (fun wS hSw => ?_) ?_
      rotate_left
      · kernel_rfl
      · (try dsimp only at hSw); go_simp; (try with_reducible rfl)
      try simp only [Act.put, List.setIfInBounds_toArray, List.set_cons_zero, List.set_cons_succ]
      refine Reg.G_on (o := { dst := some 31, op := Op.nilCheck (Operand.tmp 30), type := 0, pos := "align.go:98", after := #[{ on := 0, ground := Ground.data }], guard := Option.none }) (v := ?_) (by rfl) ?_ (fun wS hSw => ?_) ?_
      rotate_left
      · kernel_rfl
      · (try dsimp only at hSw); go_simp; (try with_reducible rfl)
      try simp only [Act.put, List.setIfInBounds_toArray, List.set_cons_zero, List.set_cons_succ]
      refine Reg.G_on (o := { dst := some 32, op := Op.fieldAddr 132 (Operand.tmp 31) 0, type := 0, pos := "align.go:98", after := #[{ on := 1, ground := Ground.data }], guard := Option.none }) (v := ?_) (by rfl) ?_ (fun wS hSw => ?_) ?_
      rotate_left
      · kernel_rfl
      · (try dsimp only at hSw); go_simp; (try with_reducible rfl)
      try simp only [Act.put, List.setIfInBounds_toArray, List.set_cons_zero, List.set_cons_succ]
      refine Reg.G_on (o := { dst := some 33, op := Op.fieldAddr 121 (Operand.tmp 32) 0, type := 0, pos := "align.go:98", after := #[{ on := 2, ground := Ground.data }], guard := Option.none }) (v := ?_) (by rfl) ?_ (fun wS hSw => ?_) ?_
      rotate_left
      · kernel_rfl
      · (try dsimp only at hSw); go_simp; (try with_reducible rfl)
      try simp only [Act.put, List.setIfInBounds_toArray, List.set_cons_zero, List.set_cons_succ]
      refine Reg.G_on (o := { dst := some 34, op := Op.load 3 (Operand.tmp 33), type := 3, pos := "align.go:98", after := #[{ on := 3, ground := Ground.data }], guard := Option.none }) (v := ?_) (by rfl) ?_ (fun wS hSw => ?_) ?_
      rotate_left
      · kernel_rfl
      · (try dsimp only at hSw); go_simp; (try with_reducible rfl)
      try simp only [Act.put, List.setIfInBounds_toArray, List.set_cons_zero, List.set_cons_succ]
      refine Reg.G_on (o := { dst := some 35, op := Op.move (Operand.tmp 0), type := 91, pos := "align.go:98", after := #[], guard := Option.none }) (v := ?_) (by rfl) ?_ (fun wS hSw => ?_) ?_
      rotate_left
      · kernel_rfl
      · (try dsimp only at hSw); go_simp; (try with_reducible rfl)
      try simp only [Act.put, List.setIfInBounds_toArray, List.set_cons_zero, List.set_cons_succ]
      refine Reg.G_on (o := { dst := some 36, op := Op.nilCheck (Operand.tmp 35), type := 0, pos := "align.go:98", after := #[{ on := 5, ground := Ground.data }], guard := Option.none }) (v := ?_) (by rfl) ?_ (fun wS hSw => ?_) ?_
      rotate_left
      · kernel_rfl
      · (try dsimp only at hSw); go_simp; (try with_reducible rfl)
      try simp only [Act.put, List.setIfInBounds_toArray, List.set_cons_zero, List.set_cons_succ]
      refine Reg.G_on (o := { dst := some 37, op := Op.fieldAddr 132 (Operand.tmp 36) 0, type := 0, pos := "align.go:98", after := #[{ on := 6, ground := Ground.data }], guard := Option.none }) (v := ?_) (by rfl) ?_ (fun wS hSw => ?_) ?_
      rotate_left
      · kernel_rfl
      · (try dsimp only at hSw); go_simp; (try with_reducible rfl)
      try simp only [Act.put, List.setIfInBounds_toArray, List.set_cons_zero, List.set_cons_succ]
      refine Reg.G_on (o := { dst := some 38, op := Op.move (Operand.tmp 1), type := 3, pos := "align.go:98", after := #[], guard := Option.none }) (v := ?_) (by rfl) ?_ (fun wS hSw => ?_) ?_
      rotate_left
      · kernel_rfl
      · (try dsimp only at hSw); go_simp; (try with_reducible rfl)
      try simp only [Act.put, List.setIfInBounds_toArray, List.set_cons_zero, List.set_cons_succ]
      refine Reg.G_step (o := { dst := some 39, op := Op.call { callee := Callee.value (Operand.func 69), args := #[Operand.tmp 37, Operand.tmp 38], argTypes := #[121, 3] }, type := 3, pos := "align.go:98", after := #[{ on := 7, ground := Ground.data }, { on := 8, ground := Ground.data }], guard := Option.none }) (by rfl) ?_ (fun K hK => ?_)
      · kernel_rfl
      go_simp
      refine (HG w1.drew hHeld).mono ?_
      rintro e w' ⟨rfl, hb⟩
      refine hK.out _ _ ?_ (fun hHeld => ?_)
      · exact argb hb hHeld
      clear hK K
      try simp only [Act.put, List.setIfInBounds_toArray, List.set_cons_zero, List.set_cons_succ]
      refine Reg.G_on (o := { dst := some 40, op := Op.binOp BinOp.add 3 (Operand.tmp 34) (Operand.tmp 39) 3, type := 3, pos := "align.go:98", after := #[{ on := 4, ground := Ground.data }, { on := 9, ground := Ground.data }], guard := Option.none }) (v := ?_) (by rfl) ?_ (fun wS hSw => ?_) ?_
      rotate_left
      · kernel_rfl
      · (try dsimp only at hSw); go_simp; (try with_reducible rfl)
      try simp only [Act.put, List.setIfInBounds_toArray, List.set_cons_zero, List.set_cons_succ]
      refine Reg.G_on (o := { dst := some 7, op := Op.assign (Operand.tmp 40), type := 3, pos := "align.go:98", after := #[{ on := 10, ground := Ground.data }, { on := 9, ground := Ground.chain }, { on := 0, ground := Ground.phase }, { on := 1, ground := Ground.phase }, { on := 2, ground := Ground.phase }, { on := 3, ground := Ground.phase }, { on := 4, ground := Ground.phase }, { on := 5, ground := Ground.phase }, { on := 6, ground := Ground.phase }, { on := 7, ground := Ground.phase }, { on := 8, ground := Ground.phase }, { on := 9, ground := Ground.phase }, { on := 10, ground := Ground.phase }], guard := Option.none }) (v := ?_) (by rfl) ?_ (fun wS hSw => ?_) ?_
      rotate_left
      · kernel_rfl
      · (try dsimp only at hSw); go_simp; (try with_reducible rfl)
      try simp only [Act.put, List.setIfInBounds_toArray, List.set_cons_zero, List.set_cons_succ]
      refine Reg.G_done ?_
      rename World => w2
      have hb := (Below.refl w1.heap.size w1).drew.trans hb
      have h2 := h1.below hb
      have m2 := m1.trans (Mod.of (F := At c) hb) (fun k hk => .inl hk)
      clear hb h1 m1 HG hHeld c0 c1 c2 g0 g2
      obtain ⟨⟨c0, c1, c2⟩, g0, g2⟩ := three h2
      go_wp2
      go_loop [8] (fun i => ∃ k : Nat, a ≤ k ∧ k ≤ a + g ∧ i = .int .i64 (k : Int) ∧ pad b g a = pad b (a + g - k) k) (fun i => (a + g - (intOf i).toNat))
      case atStart => exact ⟨a, by omega, by omega, rfl, by rw [Nat.add_sub_cancel_left]⟩
      case round =>
        obtain ⟨k, hk1, hk2, rfl, hpd⟩ := hrel
        have HPD := Lib.hid hpd
        clear hpd
        have k0 : (0 : Int) ≤ (k : Int) := by omega
        by_cases hkg : k < a + g
        · have hkg2 : (k : Int) < (a : Int) + (g : Int) := by omega
          have he : a + g - k = (a + g - (k + 1)) + 1 := by omega
          rw [he] at HPD
          clear he
          by_cases hkb : k < b.size
          · have hkb2 : (k : Int) < (b.size : Int) := by omega
            by_cases hb0 : b[k] = 0
            · have HS := Lib.hid (HPD.out.trans (pad_step hkb hb0))
              have hz0 : ((b[k].toNat : Int) != 0) = false := by rw [hb0]; rfl
              clear HPD hb0
              go_wp2
              go_round
              case rel => exact ⟨k + 1, by omega, by omega, by go_num, HS.out⟩
              case measure => simp [intOf]; omega
            · have HS := Lib.hid (HPD.out.trans (pad_bad hkb hb0))
              have hz0 : ((b[k].toNat : Int) != 0) = true := by
                rw [bne_iff_ne]
                intro h
                apply hb0
                apply UInt8.toNat_inj.1
                show b[k].toNat = 0
                omega
              clear HPD hb0
              go_wp2_with fail
              refine (fail_ c a b 0 12 w2 h2).mono ?_
              rintro e w3 ⟨rfl, h3, m3⟩
              go_wp2
              go_ret
              obtain rfl := HR.out
              rw [HS.out, if_pos (by decide)]
              exact ⟨rfl, by rw [Int.toNat_natCast]; exact h3, m2.trans m3 (fun k hk => .inl hk)⟩
          · have hkb2 : ¬ ((k : Int) < (b.size : Int)) := by omega
            have hkb3 : (b.size : Int) ≤ (k : Int) := by omega
            have HS := Lib.hid (HPD.out.trans (pad_end hkb))
            clear HPD
            go_wp2_with fail
            refine (fail_ c a b 0 2 w2 h2).mono ?_
            rintro e w3 ⟨rfl, h3, m3⟩
            go_wp2
            go_ret
            obtain rfl := HR.out
            rw [HS.out, if_pos (by decide)]
            exact ⟨rfl, by rw [Int.toNat_natCast]; exact h3, m2.trans m3 (fun k hk => .inl hk)⟩
        · have hkg2 : ¬ ((k : Int) < (a : Int) + (g : Int)) := by omega
          have HS : Hid (pad b g a = 0) := Lib.hid (HPD.out.trans (by rw [show a + g - k = 0 from by omega]; rfl))
          clear HPD
          by_cases ht : (takev b ((a : Int) + (g : Int)) s).2 = 0
          · have hv : (takev b ((a : Int) + (g : Int)) s).1 = (takev b ((a : Int) + (g : Int)) s).1 := rfl
            rw [ht] at HT
            have HE := Lib.hid ht
            clear ht hv
            have hw : IntKind.i64.wrap ((a : Int) + (g : Int) + s) = (a : Int) + (g : Int) + s := wrapi64 (by have := hB.out; omega) (by have := hB.out; omega)
            have hw2 : wrap64 ((a : Int) + (g : Int) + s) = (a : Int) + (g : Int) + s := by have := hB.out; unfold wrap64; omega
            go_wp2_with fail
            refine (HT _).mono ?_
            rintro e w3 ⟨rfl, b3⟩
            have h3 := h2.below b3
            have m3 := m2.trans (Mod.of (F := At c) b3) (fun k hk => .inl hk)
            clear b3 HT c0 c1 c2 g0 g2 h2 m2
            obtain ⟨⟨c0, c1, c2⟩, g0, g2⟩ := three h3
            have H3 := Lib.hid h3
            clear h3
            go_wp2
            go_ret
            obtain rfl := HR.out
            rw [HS.out, if_neg (by decide), HE.out, if_neg (by decide)]
            refine ⟨rfl, ?_, at_set m3 _ _⟩
            have hh := H3.out.place ((a : Int) + (g : Int) + s).toNat
            rw [show ((((a : Int) + (g : Int) + s).toNat : Nat) : Int) = (a : Int) + (g : Int) + s from by have := hB.out; omega] at hh
            exact hh
          · have HE := Lib.hid ht
            have hne : ((takev b ((a : Int) + (g : Int)) s).2 != 0) = true := by simpa using ht
            generalize hq : (takev b ((a : Int) + (g : Int)) s).2 = q at *
            clear ht hq
            go_wp2_with fail
            refine (HT _).mono ?_
            rintro e w3 ⟨rfl, b3⟩
            have h3 := h2.below b3
            have m3 := m2.trans (Mod.of (F := At c) b3) (fun k hk => .inl hk)
            clear b3 HT c0 c1 c2 g0 g2 h2 m2
            go_wp2_with fail
            refine (fail_ c a b 0 2 w3 h3).mono ?_
            rintro e w4 ⟨rfl, h4, m4⟩
            go_wp2
            go_ret
            obtain rfl := HR.out
            rw [HS.out, if_neg (by decide), if_pos HE.out]
            exact ⟨rfl, by rw [Int.toNat_natCast]; exact h4, m3.trans m4 (fun k hk => .inl hk)⟩
  · rw [if_pos he]
    have e1 : (e != 0) = true := by simpa using he
    obtain ⟨⟨c0, c1, c2⟩, g0, g2⟩ := three h
    have H := Lib.hid h
    clear h
    go_enter Try.func51, Try.ntmps51
    go_wp2
    go_ret
    exact ⟨rfl, H.out, Mod.refl _ _⟩
/-- What Text leaves. -/
def Tt (c : Nat) (b : ByteArray) (r : ByteArray × Int × Int) (w : World) (e : Ending) (w' : World) : Prop := e = .returned (.string r.1) ∧ CB w' c r.2.1.toNat b r.2.2 ∧ Mod (At c) w w'
set_option maxRecDepth 20000 in
set_option maxHeartbeats 1000000 in
theorem text (c a : Nat) (b : ByteArray) (e n : Int) (w : World) (h : CB w c a b e) (ha : a ≤ b.size) (hz : b.size ≤ 140737488355328) (hn1 : n < 9223372036854775808) :
    Calls Try.prog 79 #[.pointer (some ⟨c, 0, none⟩), .int .i64 n] w (Tt c b (ctext b a e n) w) := by
  unfold ctext
  by_cases he : e = 0
  · rw [if_pos he]
    subst he
    by_cases hn0 : n < 0
    · rw [if_pos hn0]
      obtain ⟨⟨c0, c1, c2⟩, g0, g2⟩ := three h
      have HF := fun x => fail_ c a b 0 x w h
      clear h ha hz hn1
      go_enter Try.func79, Try.ntmps79
      go_wp2_with fail
      refine (HF 7).mono ?_
      rintro e w3 ⟨rfl, h3, m3⟩
      go_wp2
      go_ret
      exact ⟨rfl, h3, m3⟩
    · rw [if_neg hn0]
      by_cases hlt : (b.size : Int) - a < n
      · rw [if_pos hlt]
        have hw : IntKind.i64.wrap ((b.size : Int) - (a : Int)) = (b.size : Int) - (a : Int) := wrapi64 (by omega) (by omega)
        have hw2 : wrap64 ((b.size : Int) - (a : Int)) = (b.size : Int) - (a : Int) := by unfold wrap64; omega
        have HF := fun w h x => fail_ c a b 0 x w h
        obtain ⟨⟨c0, c1, c2⟩, g0, g2⟩ := three h
        have H := Lib.hid h
        clear h ha hz hn1
        go_enter Try.func79, Try.ntmps79
        go_wp2
        go_quiet (fail)
        go_wp2_with fail
        refine (HF _ (CB.below H.out (pw_below_drewN (Below.refl _ _) _)) 2).mono ?_
        rintro e w3 ⟨rfl, h3, m3⟩
        go_wp2
        go_ret
        exact ⟨rfl, h3, (Mod.of (pw_below_drewN (Below.refl _ _) _)).trans m3 (fun k hk => .inl hk)⟩
      · rw [if_neg hlt]
        obtain ⟨m, rfl⟩ : ∃ m : Nat, n = (m : Int) := ⟨n.toNat, by omega⟩
        rw [Int.toNat_natCast]
        have hw : IntKind.i64.wrap ((b.size : Int) - (a : Int)) = (b.size : Int) - (a : Int) := wrapi64 (by omega) (by omega)
        have hw2 : wrap64 ((b.size : Int) - (a : Int)) = (b.size : Int) - (a : Int) := by unfold wrap64; omega
        have hB : Hid (a + m ≤ b.size ∧ b.size ≤ 140737488355328) := Lib.hid ⟨by omega, hz⟩
        have HM := fun w (h : CB w c a b 0) => move_ c (a : Int) (m : Int) _ _ w h rfl (by omega)
        obtain ⟨⟨c0, c1, c2⟩, g0, g2⟩ := three h
        have H := Lib.hid h
        clear h ha hz hn1
        go_enter Try.func79, Try.ntmps79
        go_wp2
        go_quiet (fail)
        rename World => w0
        generalize hq : World.drewN _ _ = w1
        have b1 : Below w0.heap.size w0 w1 := by rw [← hq]; exact pw_below_drewN (Below.refl _ _) _
        clear hq c0 c1 c2 g0 g2 hw hw2
        have h1 := H.out.below b1
        obtain ⟨⟨c0, c1, c2⟩, g0, g2⟩ := three h1
        go_wp2_with fail
        refine (HM w1 h1).mono ?_
        rintro e w2 ⟨rfl, rfl⟩
        have h2 : CB (w1.setCell ⟨c, 0, none⟩ (.int .i64 ((a : Int) + (m : Int)))) c (a + m) b 0 := h1.place (a + m)
        have m2 : Mod (At c) w0 (w1.setCell ⟨c, 0, none⟩ (.int .i64 ((a : Int) + (m : Int)))) := at_set (Mod.of b1) _ _
        have he : ((a : Int) + (m : Int)) = ((a + m : Nat) : Int) := by omega
        rw [he] at h2 m2 ⊢
        clear he
        generalize w1.setCell ⟨c, 0, none⟩ (.int .i64 ((a + m : Nat) : Int)) = w2 at *
        clear c0 c1 c2 g0 g2 h1 b1 HM
        obtain ⟨⟨c0, c1, c2⟩, g0, g2⟩ := three h2
        have H2 := Lib.hid h2
        have hlo : a ≤ a + m := by omega
        have hhi : a + m ≤ b.size := hB.out.1
        clear h2 H hn0 hlt
        generalize hx : a + m = x at *
        have HX := Lib.hid hx
        clear hx
        go_wp2
        go_quiet (fail)
        go_wp2
        go_ret
        refine ⟨rfl, ?_, m2.trans (Mod.of (F := At c) (pw_below_drewN (Below.refl _ _) _)) (fun k hk => .inl hk)⟩
        show CB _ c ((a : Int) + (m : Int)).toNat b 0
        rw [show ((a : Int) + (m : Int)).toNat = x from by have := HX.out; omega]
        exact CB.below H2.out (pw_below_drewN (Below.refl _ _) _)
  · rw [if_neg he]
    have e1 : (e != 0) = true := by simpa using he
    obtain ⟨⟨c0, c1, c2⟩, g0, g2⟩ := three h
    have H := Lib.hid h
    clear h ha hz hn1
    go_enter Try.func79, Try.ntmps79
    go_wp2
    go_ret
    exact ⟨rfl, H.out, Mod.refl _ _⟩
end Go.Proofs.Ytehojcocnndniaa.Cur
namespace Go.Proofs.Ytehojcocnndniaa.Cur
open Go.RowKit Base Sp Flat Go.Proofs.YtehojcocnndniaaW.PrintWords Go.Proofs.YtehojcocnndniaaW.PrintLast Wd Al Buf
theorem ctake_at (b : ByteArray) (a : Nat) (e s : Int) (ha : a ≤ b.size) : ∃ a2 : Nat, (ctake b a e s).2.1 = (a2 : Int) ∧ a2 ≤ b.size := by
  unfold ctake
  by_cases h1 : e ≠ 0
  · rw [if_pos h1]; exact ⟨a, rfl, ha⟩
  · rw [if_neg h1]
    by_cases h2 : sz s = false
    · rw [if_pos h2]; exact ⟨a, rfl, ha⟩
    · rw [if_neg h2]
      by_cases h3 : pad b (gapv a s).toNat a ≠ 0
      · rw [if_pos h3]; exact ⟨a, rfl, ha⟩
      · rw [if_neg h3]
        by_cases h4 : (takev b ((a : Int) + gapv a s) s).2 ≠ 0
        · rw [if_pos h4]; exact ⟨a, rfl, ha⟩
        · rw [if_neg h4]
          have hs : sz s = true := by simpa using h2
          have hc := sz_cases hs
          have hg := gapv_le a s
          have h5 : ¬ ((b.size : Int) < (a : Int) + gapv a s + s) := fun h => h4 ((takev_err b _ s (by omega) (by omega)).2 h)
          exact ⟨((a : Int) + gapv a s + s).toNat, by show (a : Int) + gapv a s + s = _; omega, by omega⟩
theorem ctext_at (b : ByteArray) (a : Nat) (e n : Int) (ha : a ≤ b.size) : ∃ a2 : Nat, (ctext b a e n).2.1 = (a2 : Int) ∧ a2 ≤ b.size := by
  unfold ctext
  by_cases h1 : e = 0
  · rw [if_pos h1]
    by_cases h2 : n < 0
    · rw [if_pos h2]; exact ⟨a, rfl, ha⟩
    · rw [if_neg h2]
      by_cases h3 : (b.size : Int) - a < n
      · rw [if_pos h3]; exact ⟨a, rfl, ha⟩
      · rw [if_neg h3]
        exact ⟨((a : Int) + n).toNat, by show (a : Int) + n = _; omega, by omega⟩
  · rw [if_neg h1]; exact ⟨a, rfl, ha⟩
theorem ctext_ex (b : ByteArray) (a : Nat) (e n : Int) (ha : a ≤ b.size) : ∃ (sv : ByteArray) (a2 : Nat) (e2 : Int), ctext b a e n = (sv, (a2 : Int), e2) ∧ a2 ≤ b.size := by
  obtain ⟨a2, h, h2⟩ := ctext_at b a e n ha
  exact ⟨_, a2, _, by rw [← h], h2⟩
theorem ctake_ex (b : ByteArray) (a : Nat) (e n : Int) (ha : a ≤ b.size) : ∃ (sv : Int) (a2 : Nat) (e2 : Int), ctake b a e n = (sv, (a2 : Int), e2) ∧ a2 ≤ b.size := by
  obtain ⟨a2, h, h2⟩ := ctake_at b a e n ha
  exact ⟨_, a2, _, by rw [← h], h2⟩
theorem text_at (c a : Nat) (b : ByteArray) (e n : Int) (w : World) (h : CB w c a b e) (ha : a ≤ b.size) (hz : b.size ≤ 140737488355328) (hn : n < 9223372036854775808) {sv : ByteArray} {a2 : Nat} {e2 : Int} (hr : ctext b a e n = (sv, (a2 : Int), e2)) :
    Calls Try.prog 79 #[.pointer (some ⟨c, 0, none⟩), .int .i64 n] w fun e' w' => e' = .returned (.string sv) ∧ CB w' c a2 b e2 ∧ Mod (At c) w w' := by
  have := text c a b e n w h ha hz hn
  rw [hr] at this
  exact this
theorem take_at (c a : Nat) (b : ByteArray) (e n : Int) (w : World) (h : CB w c a b e) (ha : a ≤ b.size) (hz : b.size ≤ 140737488355328) {sv : Int} {a2 : Nat} {e2 : Int} (hr : ctake b a e n = (sv, (a2 : Int), e2)) :
    Calls Try.prog 51 #[.pointer (some ⟨c, 0, none⟩), .int .i64 n] w fun e' w' => e' = .returned (.int .u64 sv) ∧ CB w' c a2 b e2 ∧ Mod (At c) w w' := by
  have := take c a b e n w h ha hz
  rw [hr] at this
  exact this
end Go.Proofs.Ytehojcocnndniaa.Cur
namespace Go.Proofs.Ytehojcocnndniaa.Img
open Go.RowKit Base Sp Flat Go.Proofs.YtehojcocnndniaaW.PrintWords Go.Proofs.YtehojcocnndniaaW.PrintLast Go.Proofs.YtehojcocnndniaaW.PrintMore Wd Al Buf Cur
/-- The three steps of an image's head, and what it answers. -/
def h1 (b : ByteArray) : ByteArray × Int × Int := ctext b 0 0 4
def h2 (b : ByteArray) : Int × Int × Int := ctake b (h1 b).2.1.toNat (h1 b).2.2 4
def h3 (b : ByteArray) : Int × Int × Int := ctake b (h2 b).2.1.toNat (h2 b).2.2 4
def ihd (b : ByteArray) : Int × Int := if (h3 b).2.2 ≠ 0 then (0, (h3 b).2.2) else if (h2 b).1 ≠ b.size then (0, 7) else ((h3 b).1, 0)
set_option maxRecDepth 20000 in
set_option maxHeartbeats 2000000 in
theorem head (c : Nat) (b : ByteArray) (w : World) (h : CB w c 0 b 0) (hz : b.size ≤ 140737488355328) :
    Calls Try.prog 62 #[.pointer (some ⟨c, 0, none⟩), .string b] w fun e w' => e = .returned (.tuple #[.int .u64 (ihd b).1, .int .i64 (ihd b).2]) ∧ (∃ a : Nat, (h3 b).2.1 = (a : Int) ∧ a ≤ b.size ∧ CB w' c a b (h3 b).2.2) ∧ Mod (At c) w w' := by
  obtain ⟨s1, a1, e1, r1, l1⟩ := ctext_ex b 0 0 4 (Nat.zero_le _)
  obtain ⟨n2, a2, e2, r2, l2⟩ := ctake_ex b a1 e1 4 l1
  obtain ⟨n3, a3, e3, r3, l3⟩ := ctake_ex b a2 e2 4 l2
  have q1 : h1 b = (s1, (a1 : Int), e1) := r1
  have q2 : h2 b = (n2, (a2 : Int), e2) := by unfold h2; rw [q1]; exact r2
  have q3 : h3 b = (n3, (a3 : Int), e3) := by unfold h3; rw [q2]; exact r3
  have HI : Hid (ihd b = if e3 ≠ 0 then (0, e3) else if n2 ≠ b.size then (0, 7) else (n3, 0)) := Lib.hid (by unfold ihd; rw [q2, q3])
  rw [q3]
  have HZ := Lib.hid hz
  have T1 := text_at c 0 b 0 4 w h (Nat.zero_le _) hz (by decide) r1
  clear hz q1 q2 q3
  have hw : IntKind.u64.wrap (b.size : Int) = (b.size : Int) := wrapu64 (by omega) (by have := HZ.out; omega)
  go_enter Try.func62, Try.ntmps62
  go_wp2_with fail
  refine T1.mono ?_
  rintro e w1 ⟨rfl, c1, m1⟩
  have T2 := take_at c a1 b e1 4 w1 c1 l1 HZ.out r2
  go_wp2_with fail
  refine T2.mono ?_
  rintro e w2 ⟨rfl, c2, m2⟩
  have T3 := take_at c a2 b e2 4 w2 c2 l2 HZ.out r3
  have m2 := m1.trans m2 (fun _ h => .inl h)
  clear T1 T2 c1 m1
  go_wp2_with fail
  refine T3.mono ?_
  rintro e w3 ⟨rfl, c3, m3⟩
  have m3 := m2.trans m3 (fun _ h => .inl h)
  have hE := fun W (h : CB W c a3 b e3) => err c a3 b e3 W h
  clear T3 c2 m2 r1 r2 r3
  go_wp2_with fail
  refine (hE _ c3).mono ?_
  rintro e w4 ⟨rfl, rfl⟩
  by_cases p : e3 = 0
  · subst p
    by_cases p2 : n2 = b.size
    · have HJ : Hid (ihd b = (n3, 0)) := Lib.hid (by rw [HI.out, if_neg (fun h => h rfl), if_neg (fun h => h p2)])
      have p3 : (n2 != (b.size : Int)) = false := by simpa using p2
      clear HI
      go_wp2
      go_ret2
      exact ⟨by rw [HJ.out]; rfl, ⟨a3, rfl, l3, c3⟩, m3⟩
    · have HJ : Hid (ihd b = (0, 7)) := Lib.hid (by rw [HI.out, if_neg (fun h => h rfl), if_pos p2])
      have p3 : (n2 != (b.size : Int)) = true := by simpa using p2
      clear HI
      go_wp2
      go_ret2
      exact ⟨by rw [HJ.out]; rfl, ⟨a3, rfl, l3, c3⟩, m3⟩
  · have HJ : Hid (ihd b = (0, e3)) := Lib.hid (by rw [HI.out, if_pos p])
    have p3 : (e3 != 0) = true := by simpa using p
    clear HI
    go_wp2_with fail
    refine (hE _ c3).mono ?_
    rintro e w4 ⟨rfl, rfl⟩
    go_wp2
    go_ret2
    exact ⟨by rw [HJ.out]; rfl, ⟨a3, rfl, l3, c3⟩, m3⟩
end Go.Proofs.Ytehojcocnndniaa.Img
