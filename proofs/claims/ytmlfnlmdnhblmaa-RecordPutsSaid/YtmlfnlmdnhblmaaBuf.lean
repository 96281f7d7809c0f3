import Derived.Test.YtmlfnlmdnhblmaaBuilder
import Derived.Test.YtmlfnlmdnhblmaaAl
import Derived.Test.YtmlfnlmdnhblmaaWdPutAlignTakes
import Derived.Test.YtmlfnlmdnhblmaaShelf
set_option linter.unusedVariables false
set_option linter.unusedSimpArgs false
namespace Go.Proofs.Ytmlfnlmdnhblmaa.Buf
open Go.RowKit Base Sp Flat Go.Proofs.YtmlfnlmdnhblmaaW.PrintWords Go.Lib Wd Al
/-- A buffer in block b that holds bytes. -/
def BB (w : World) (F : Nat → Prop) (b : Nat) (l : List UInt8) : Prop := uB w F b (l.length : Int) l
theorem BB.lt {w : World} {F : Nat → Prop} {b : Nat} {l : List UInt8} (h : BB w F b l) : ∀ k, F k → k < w.heap.size := uB.lt h
theorem BB.at_ {w : World} {F : Nat → Prop} {b : Nat} {l : List UInt8} (h : BB w F b l) : F b := uB.at_ h
theorem BB.far {w w' : World} {F G : Nat → Prop} {b : Nat} {l : List UInt8} (h : BB w F b l) (hm : Mod G w w') (hd : ∀ k, F k → ¬ G k) : BB w' F b l := uB.far h hm hd
theorem BB.below {w w' : World} {F : Nat → Prop} {b : Nat} {l : List UInt8} (h : BB w F b l) (hb : Below w.heap.size w w') : BB w' F b l := uB.below h hb
theorem BB.drew {w : World} {F : Nat → Prop} {b : Nat} {l : List UInt8} (h : BB w F b l) : BB w.drew F b l := h
/-- What lies below the blocks that may turn stays. -/
theorem arg {w W : World} {F : Nat → Prop} {B : Nat} {a : Addr} {u : Value} (hm : Mod F w W) (hF : ∀ k, F k → B ≤ k) (ha : a.block < B) (hc : w.cell? a = some u) : W.cell? a = some u :=
  hm.cell hc (fun h => by have := hF _ h; omega)
theorem argc {w W : World} {F : Nat → Prop} {B b o : Nat} {u : Value} (hm : Mod F w W) (hF : ∀ k, F k → B ≤ k) (ha : b < B) (hc : w.cell? ⟨b, o, none⟩ = some u) : W.cell? ⟨b, o, none⟩ = some u := arg hm hF ha hc
theorem argb {w W : World} {b o : Nat} {u : Value} (hb : Below w.heap.size w W) (hc : w.cell? ⟨b, o, none⟩ = some u) : W.cell? ⟨b, o, none⟩ = some u := cbel hb hc (World.block_lt_of_cell? w ⟨b, o, none⟩ hc)
theorem grow_up {w : World} {F F' : Nat → Prop} {B : Nat} (h : Grow F F' w) (hF : ∀ k, F k → B ≤ k) (hB : B ≤ w.heap.size) : ∀ k, F' k → B ≤ k :=
  fun k hk => (h k hk).elim (hF k) (fun h => Nat.le_trans hB h)
/-- What a write makes: the bytes, and where they are. -/
def Wr (w : World) (F : Nat → Prop) (b : Nat) (l : List UInt8) (w' : World) : Prop := ∃ F', BB w' F' b l ∧ Mod F w w' ∧ Grow F F' w
theorem Wr.trans {w w1 w2 : World} {F : Nat → Prop} {b : Nat} {l l2 : List UInt8} (h : ∃ F', BB w1 F' b l ∧ Mod F w w1 ∧ Grow F F' w ∧ Wr w1 F' b l2 w2) : Wr w F b l2 w2 := by
  obtain ⟨F1, h1, m1, g1, F2, h2, m2, g2⟩ := h
  exact ⟨F2, h2, m1.trans m2 (fun k hk => g1 k hk), fun k hk => (g2 k hk).elim (g1 k) (fun h => .inr (Nat.le_trans m1.size h))⟩
theorem fresh (w : World) : BB (w.alloc (.cells #[.int .i64 0, .pointer none, .slice none 0 0] 65)) (fun k => k = w.heap.size) w.heap.size [] :=
  ⟨_, _, heap_alloc_new _ _, .inl rfl, World.ownsRowF_nil _ _ _ _, by simp [Value.ownBlock], rfl, fun k hk => by simp [Value.ownBlock] at hk, fun k hk => by subst hk; simp⟩
theorem new (w : World) : Calls Try.prog 15 #[] w fun e w' => e = .returned (.pointer (some ⟨w.heap.size, 0, none⟩)) ∧ BB w' (fun k => k = w.heap.size) w.heap.size [] ∧ Below w.heap.size w w' := by
  have H := Lib.hid (fresh w)
  go_enter Try.func15, Try.ntmps15
  go_wp2
  go_ret
  exact ⟨rfl, H.out, (Below.refl _ _).alloc (Nat.le_refl _) _⟩
theorem len_ (F : Nat → Prop) (b : Nat) (l : List UInt8) (w : World) (h : BB w F b l) : Calls Try.prog 20 #[.pointer (some ⟨b, 0, none⟩)] w fun e w' => e = .returned (.int .i64 (l.length : Int)) ∧ w = w' := by
  obtain ⟨p, v, h1, -⟩ := h
  have c0 : w.cell? ⟨b, 0, none⟩ = some (.int .i64 (l.length : Int)) := blk_cell h1 0
  clear h1
  go_enter Try.func20, Try.ntmps20
  go_wp2
  go_ret
  exact ⟨rfl, rfl⟩
theorem len_nil (w : World) : Calls Try.prog 20 #[.pointer none] w fun e w' => e = .returned (.int .i64 0) ∧ w = w' := by
  go_enter Try.func20, Try.ntmps20
  go_wp2
  go_ret
  exact ⟨rfl, rfl⟩
theorem bytes (F : Nat → Prop) (b : Nat) (l : List UInt8) (w : World) (h : BB w F b l) : Calls Try.prog 21 #[.pointer (some ⟨b, 0, none⟩)] w fun e w' => e = .returned (.string ⟨l.toArray⟩) ∧ BB w' F b l ∧ Mod F w w' := by
  have H := ustring F b (l.length : Int) l w h
  obtain ⟨p, v, h1, -⟩ := h
  clear h1
  go_enter Try.func21, Try.ntmps21
  go_wp2_with fail
  refine H.mono ?_
  rintro e w' ⟨rfl, hb, hm⟩
  go_wp2
  go_ret
  exact ⟨rfl, hb, hm⟩
theorem bytes_nil (w : World) : Calls Try.prog 21 #[.pointer none] w fun e w' => e = .returned (.string ⟨#[]⟩) ∧ w = w' := by
  go_enter Try.func21, Try.ntmps21
  go_wp2
  go_ret
  exact ⟨rfl, rfl⟩
theorem gap_ (b : Nat) (a s : Int) (w : World) (h : w.cell? ⟨b, 0, none⟩ = some (.int .i64 a)) (h0 : -9223372036854775808 ≤ a) (h1 : a < 9223372036854775808) :
    Calls Try.prog 29 #[.pointer (some ⟨b, 0, none⟩), .int .i64 s] w fun e w' => e = .returned (.int .i64 (gapv a s)) ∧ Below w.heap.size w w' := by
  have H := fun w => Al.gap a s h0 h1 w
  clear h0 h1
  go_enter Try.func29, Try.ntmps29
  go_wp2_with fail
  refine (H _).mono ?_
  rintro e w' ⟨rfl, hb⟩
  go_wp2
  go_ret
  exact ⟨rfl, hb⟩
theorem move_ (b : Nat) (a n : Int) (cs : Array Value) (T : TypeId) (w : World) (h : w.heap[b]? = some (.cells cs T (0, 0))) (hc : cs[0]? = some (.int .i64 a)) (hw : -9223372036854775808 ≤ a + n ∧ a + n < 9223372036854775808) :
    Calls Try.prog 30 #[.pointer (some ⟨b, 0, none⟩), .int .i64 n] w fun e w' => e = .returned (.tuple #[]) ∧ w' = w.setCell ⟨b, 0, none⟩ (.int .i64 (a + n)) := by
  have c0 : w.cell? ⟨b, 0, none⟩ = some (.int .i64 a) := (Lib.cell_of_heap h 0).trans hc
  have f0 : w.frozen? ⟨b, 0, none⟩ = false := Lib.frozen_of_heap h 0
  have hv : IntKind.i64.wrap (a + n) = a + n := wrapi64 hw.1 hw.2
  have hv2 : wrap64 (a + n) = a + n := by unfold wrap64; omega
  clear hw h hc
  go_enter Try.func30, Try.ntmps30
  go_wp2
  go_end0
  exact ⟨rfl, rfl⟩
theorem BB.move {w : World} {F : Nat → Prop} {b : Nat} {a : Int} {l : List UInt8} (h : uB w F b a l) : BB (w.setCell ⟨b, 0, none⟩ (.int .i64 (l.length : Int))) F b l := by
  obtain ⟨p, v, h1, h2, h3, h4, h5, h6, h7⟩ := h
  refine ⟨p, v, by have := blk_set h1 0 (.int .i64 (l.length : Int)); simpa using this, h2, ?_, h4, h5, h6, fun k hk => by simpa using h7 k hk⟩
  exact ownF_same h3 (fun k hk => Below.heap_setCell _ _ _ _ (fun e => h4 (by rw [hk]; exact congrArg _ e)))
set_option maxHeartbeats 1000000 in
theorem text (F : Nat → Prop) (b : Nat) (l : List UInt8) (s : ByteArray) (w : World) (h : BB w F b l) (hl : l.length + s.size ≤ 140737488355328) :
    Calls Try.prog 17 #[.pointer (some ⟨b, 0, none⟩), .string s] w fun e w' => e = .returned (.tuple #[]) ∧ Wr w F b (l ++ s.data.toList) w' := by
  have H := uwrite F b (l.length : Int) l s w h hl
  have HL := Lib.hid hl
  have hF := h.at_
  clear h hl
  go_enter Try.func17, Try.ntmps17
  go_wp2_with fail
  refine H.mono ?_
  rintro e w1 ⟨rfl, F1, h1, m1, g1⟩
  have hM := fun cs T (h : w1.heap[b]? = some (.cells cs T (0, 0))) hc => move_ b (l.length : Int) (s.size : Int) cs T w1 h hc (by have := HL.out; omega)
  have h1' := h1
  obtain ⟨p, v, hb, -⟩ := h1'
  have hM2 := hM _ _ hb rfl
  clear hM hb
  go_wp2_with fail
  refine hM2.mono ?_
  rintro e w2 ⟨rfl, rfl⟩
  go_wp2
  go_end0
  have e1 : ((l.length : Int) + (s.size : Int)) = ((l ++ s.data.toList).length : Int) := by
    rw [List.length_append]
    show _ = ((l.length + s.size : Nat) : Int)
    omega
  rw [e1]
  exact ⟨rfl, F1, BB.move h1, Mod.set m1 (.inl hF) _, g1⟩
theorem text_nil (s : ByteArray) (w : World) : Calls Try.prog 17 #[.pointer none, .string s] w fun e w' => e = .returned (.tuple #[]) ∧ w = w' := by
  go_enter Try.func17, Try.ntmps17
  go_wp2
  go_end0
  exact ⟨rfl, rfl⟩
/-- What Put answers, and what the bytes are then. -/
def pcode (n s : Int) : Int := if sz s then (if n < pw s then 0 else 7) else 4
def nbytes (n s : Int) : List UInt8 := (strOfNums (le n s.toNat)).data.toList
def pbytes (l : List UInt8) (n s : Int) : List UInt8 := l ++ List.replicate (gapv l.length s).toNat 0 ++ nbytes n s
theorem put_res (n s : Int) : (if sz s then putv n s else (⟨#[]⟩, 4)).2 = pcode n s := by
  unfold pcode putv
  repeat' split
  all_goals rfl
theorem put_str (n s : Int) (h : pcode n s = 0) : (if sz s then putv n s else (⟨#[]⟩, 4)).1 = ⟨(nbytes n s).toArray⟩ := by
  unfold pcode at h
  unfold putv nbytes
  split at h
  · split at h
    · rw [if_pos (by assumption), if_pos (by assumption)]
    · cases h
  · cases h
theorem nbytes_len (n s : Int) : (nbytes n s).length = s.toNat := by
  unfold nbytes
  have : (strOfNums (le n s.toNat)).data.toList.length = (strOfNums (le n s.toNat)).size := rfl
  rw [this, strOfNums_size, le_len]
theorem zeros_str (k : Nat) : (Lib.repeatL (⟨#[0]⟩ : ByteArray).data.toList k) = List.replicate k 0 := by
  induction k with
  | zero => rfl
  | succ k ih => rw [List.replicate_succ, ← ih]; rfl
theorem put_bad (b : Nat) (n s : Int) (w : World) (h0 : 0 ≤ n) (h1 : n < 18446744073709551616) (hc : pcode n s ≠ 0) :
    Calls Try.prog 16 #[.pointer (some ⟨b, 0, none⟩), .int .u64 n, .int .i64 s] w fun e w' => e = .returned (.int .i64 (pcode n s)) ∧ Below w.heap.size w w' := by
  have H := fun w => Wd.put n s h0 h1 w
  rw [put_res] at H
  generalize (if sz s then putv n s else (⟨#[]⟩, 4)).1 = r at H
  generalize pcode n s = q at *
  have e : (q == 0) = false := by simpa using hc
  clear h0 h1
  go_enter Try.func16, Try.ntmps16
  go_wp2_with fail
  refine (H _).mono ?_
  rintro e w' ⟨rfl, hb⟩
  go_wp2
  go_ret
  exact ⟨rfl, hb⟩
set_option maxHeartbeats 1000000 in
theorem put_good (F : Nat → Prop) (b : Nat) (l : List UInt8) (n s : Int) (w : World) (h : BB w F b l) (hl : l.length ≤ 140737488355200) (h0 : 0 ≤ n) (h1 : n < 18446744073709551616) (hc : pcode n s = 0) :
    Calls Try.prog 16 #[.pointer (some ⟨b, 0, none⟩), .int .u64 n, .int .i64 s] w fun e w' => e = .returned (.int .i64 0) ∧ Wr w F b (pbytes l n s) w' := by
  have hs8 : s ≤ 8 := by
    unfold pcode at hc
    split at hc
    · rename_i h
      have := sz_cases h
      omega
    · cases hc
  have H := fun w => Wd.put n s h0 h1 w
  rw [put_res, put_str n s hc, hc] at H
  have hG := gapv_le l.length s
  have HG := fun w h => gap_ b (l.length : Int) s w h (by omega) (by omega)
  unfold pbytes
  have hnl := nbytes_len n s
  obtain ⟨g, hg⟩ : ∃ g : Nat, gapv l.length s = (g : Int) := ⟨(gapv l.length s).toNat, by omega⟩
  rw [hg] at HG hG ⊢
  rw [Int.toNat_natCast]
  have HR := fun w => Try.strings_Repeat ⟨#[0]⟩ g w (by omega) (by have : (⟨#[0]⟩ : ByteArray).size = 1 := rfl; rw [this]; omega)
  rw [zeros_str] at HR
  have hB : Hid (l.length ≤ 140737488355200 ∧ g ≤ 7 ∧ (nbytes n s).length ≤ 8) := Lib.hid ⟨hl, by omega, by omega⟩
  generalize nbytes n s = m at *
  clear hnl hg hG hs8 hl hc h0 h1
  go_enter Try.func16, Try.ntmps16
  go_wp2_with fail
  refine (H _).mono ?_
  rintro e w1 ⟨rfl, b1⟩
  have k1 := h.below b1
  have m1 := Mod.of (F := F) b1
  clear h b1 H
  have c0 : w1.cell? ⟨b, 0, none⟩ = some (.int .i64 (l.length : Int)) := by
    obtain ⟨p, v, hb, -⟩ := k1
    exact blk_cell hb 0
  go_wp2_with fail
  refine (HG _ c0).mono ?_
  rintro e w2 ⟨rfl, b2⟩
  have k2 := k1.below b2
  have m2 := m1.trans (Mod.of (F := F) b2) (fun k hk => .inl hk)
  clear k1 m1 b2 HG c0
  go_wp2_with fail
  refine (HR _).mono ?_
  rintro e w3 ⟨rfl, b3⟩
  have k3 := k2.below b3
  have m3 := m2.trans (Mod.of (F := F) b3) (fun k hk => .inl hk)
  clear k2 m2 b3 HR
  go_wp2_with fail
  refine (text F b l ⟨(List.replicate g 0).toArray⟩ w3 k3 (by have := hB.out; show l.length + (List.replicate g (0 : UInt8)).toArray.size ≤ _; simp; omega)).mono ?_
  rintro e w4 ⟨rfl, F4, k4, m4, g4⟩
  go_wp2_with fail
  refine (text F4 b _ ⟨m.toArray⟩ w4 k4 (by have := hB.out; show (l ++ (List.replicate g (0 : UInt8)).toArray.toList).length + m.toArray.size ≤ _; simp; omega)).mono ?_
  rintro e w5 ⟨rfl, F5, k5, m5, g5⟩
  go_wp2
  go_ret
  have mm4 := m3.trans m4 (fun k hk => .inl hk)
  refine ⟨rfl, F5, k5, mm4.trans m5 (fun k hk => (g4 k hk).imp id (fun h => Nat.le_trans m3.size h)), fun k hk => ?_⟩
  rcases g5 k hk with h | h
  · exact (g4 k h).imp id (fun h => Nat.le_trans m3.size h)
  · exact .inr (Nat.le_trans mm4.size h)
theorem put_nil (n s : Int) (w : World) : Calls Try.prog 16 #[.pointer none, .int .u64 n, .int .i64 s] w fun e w' => e = .returned (.int .i64 20) ∧ w = w' := by
  go_enter Try.func16, Try.ntmps16
  go_wp2
  go_ret
  exact ⟨rfl, rfl⟩
end Go.Proofs.Ytmlfnlmdnhblmaa.Buf
