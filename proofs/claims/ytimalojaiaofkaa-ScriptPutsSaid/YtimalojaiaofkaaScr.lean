import Derived.Test.YtimalojaiaofkaaScA
import Derived.Test.YtimalojaiaofkaaScW
import Derived.Test.YtimalojaiaofkaaWdPutScriptPuts
import Derived.Test.YtimalojaiaofkaaBldS
set_option linter.unusedVariables false
set_option linter.unusedSimpArgs false
namespace Go.Proofs.Ytimalojaiaofkaa.Scr
open Go.RowKit Base Sp Flat Go.Proofs.YtimalojaiaofkaaW.PrintWords Go.Proofs.YtimalojaiaofkaaW.PrintLast Go.Proofs.YtimalojaiaofkaaW.PrintMore Wd Buf
theorem grow_up {w : World} {F F' : Nat → Prop} {B : Nat} (h : Grow F F' w) (hF : ∀ k, F k → B ≤ k) (hB : B ≤ w.heap.size) : ∀ k, F' k → B ≤ k :=
  fun k hk => (h k hk).elim (hF k) (fun h => Nat.le_trans hB h)
/-- Bytes as a text. -/
def tx (l : List UInt8) : ByteArray := ⟨l.toArray⟩
/-- Numbers put behind bytes. -/
def nbl (n s : Int) : List UInt8 := (nby (IntKind.u64.wrap n) s).data.toList
theorem u64_range (n : Int) : 0 ≤ IntKind.u64.wrap n ∧ IntKind.u64.wrap n < 18446744073709551616 := by rw [u64_mod]; omega
theorem number (F : Nat → Prop) (b : Nat) (L : List UInt8) (n s : Int) (w : World) (h : sB w F b L) (hs : s ≤ 8) (hl : L.length ≤ 100000000000000) :
    Calls Try.prog 61 #[.pointer (some ⟨b, 0, none⟩), .int .i64 n, .int .i64 s] w fun e w' => e = .returned (.tuple #[]) ∧ sWrote w F b L (nbl n s) w' := by
  have hu := u64_range n
  have HP := fun W => Wd.put (IntKind.u64.wrap n) s hu.1 hu.2 W
  have hsz := nby_size (IntKind.u64.wrap n) s hs
  have hn : nbl n s = (nby (IntKind.u64.wrap n) s).data.toList := rfl
  have hput : ∃ T e, (if sz s then putv (IntKind.u64.wrap n) s else (⟨#[]⟩, 4)) = (T, e) ∧ nby (IntKind.u64.wrap n) s = T := ⟨_, _, rfl, rfl⟩
  obtain ⟨T, e2, hT, hT2⟩ := hput
  rw [hT] at HP
  rw [hT2] at hn hsz
  have HN := Lib.hid hn
  clear hn hT hT2 hu
  go_enter Try.func61, Try.ntmps61
  go_wp2_with fail
  refine (HP _).mono ?_
  rintro e w1 ⟨rfl, b1⟩
  have h1 := h.below b1
  have HW := swrite F b L T w1 h1 (by omega)
  clear HP
  go_wp2_with fail
  refine HW.mono ?_
  rintro e w2 ⟨rfl, F2, h2, m2, g2⟩
  go_wp2
  go_end0
  exact ⟨rfl, F2, by rw [HN.out]; exact h2, (Mod.of b1).trans m2 (fun _ h => .inl h), fun k hk => (g2 k hk).elim .inl (fun h => .inr (Nat.le_trans b1.size h))⟩
/-- What an action puts. -/
def abl (k a : Int) (s : ByteArray) : List UInt8 := (if k = 1 then nbl k 1 ++ nbl (bitv a 4).1 4 else nbl k 1) ++ nbl (s.size : Int) 2 ++ s.data.toList
theorem nbl_len (n s : Int) (hs : s ≤ 8) : (nbl n s).length ≤ 8 := nby_size _ s hs
theorem bits (n : Int) (h0 : -9223372036854775808 ≤ n) (h1 : n < 9223372036854775808) (w : World) : Calls Try.prog 86 #[.int .i64 n, .int .i64 4] w fun e w' => e = .returned (.tuple #[.int .u64 (bitv n 4).1, .int .i64 (bitv n 4).2]) ∧ Below w.heap.size w w' :=
  (Go.Proofs.Ytimalojaiaofkaa.PScriptPuts.word_Bits.calls n 4 (bitv n 4).1 (bitv n 4).2 w (ScW.bits_eq n 4 h0 h1)).mono fun _ _ hh => ⟨hh.1, (drawn_below hh.2)⟩
/-- An action put: what is told, what stands behind. -/
def Act1 (w : World) (F : Nat → Prop) (b : Nat) (L : List UInt8) (k a : Int) (s : ByteArray) (e : Ending) (w' : World) : Prop :=
  e = .returned (.int .i64 (actE k a s)) ∧ ∃ F', sB w' F' b (if actE k a s ≠ 0 then L else L ++ abl k a s) ∧ Mod F w w' ∧ Grow F F' w
set_option maxRecDepth 20000 in
set_option maxHeartbeats 4000000 in
theorem act (F : Nat → Prop) (b : Nat) (L : List UInt8) (k a : Int) (s : ByteArray) (w : World) (h : sB w F b L) (hl : L.length ≤ 50000000000000) (h0 : -9223372036854775808 ≤ a) (h1 : a < 9223372036854775808) :
    Calls Try.prog 62 #[.pointer (some ⟨b, 0, none⟩), .agg #[.int .i64 k, .int .i64 a, .string s]] w fun e w' => Act1 w F b L k a s e w' := by
  have b0 : Below w.heap.size w (w.alloc (.cells #[.int .i64 k, .int .i64 a, .string s] 43)) := (Below.refl _ _).alloc (Nat.le_refl _) _
  have g0 : (w.alloc (.cells #[.int .i64 k, .int .i64 a, .string s] 43)).heap[w.heap.size]? = some (.cells #[.int .i64 k, .int .i64 a, .string s] 43 (0, 0)) := heap_alloc_new _ _
  obtain ⟨W0, hW0⟩ : ∃ W0, W0 = w.alloc (.cells #[.int .i64 k, .int .i64 a, .string s] 43) := ⟨_, rfl⟩
  rw [← hW0] at b0 g0
  have B1 := fun W => bits a h0 h1 W
  have HS := h
  by_cases hk : k ≠ 1 ∧ k ≠ 2
  · have HJ : Hid (actE k a s = 4) := Lib.hid (by unfold actE; rw [if_pos hk])
    have q1 : (k != 1) = true := by simpa using hk.1
    have q2 : (k != 2) = true := by simpa using hk.2
    clear hk
    unfold Act1
    rw [HJ.out]
    clear HS
    go_enter Try.func62, Try.ntmps62
    go_wp2_with fail
    rw [← hW0]
    refine (B1 _).mono ?_
    rintro e w1 ⟨rfl, b1⟩
    have bb1 := bstep b0 b1
    have g1 := (b1.block _ (blk_lt g0)).trans g0
    have c0 : w1.cell? ⟨w.heap.size, 0, none⟩ = some (.int .i64 k) := blk_cell g1 0
    have c2 : w1.cell? ⟨w.heap.size, 2, none⟩ = some (.string s) := blk_cell g1 2
    have HB := h.below bb1
    go_wp2
    go_ret
    exact ⟨rfl, F, HB, Mod.of bb1, fun _ h => .inl h⟩
  · have hbr := bitv_range a
    have habl : ∀ k, abl k a s = (if k = 1 then nbl k 1 ++ nbl (bitv a 4).1 4 else nbl k 1) ++ nbl (s.size : Int) 2 ++ s.data.toList := fun _ => rfl
    have hact : ∀ k, actE k a s = if k ≠ 1 ∧ k ≠ 2 then 4 else if k = 1 ∧ (bitv a 4).2 ≠ 0 then 7 else if 65535 < s.size then 3 else 0 := fun _ => rfl
    have HAB := Lib.hid habl
    have HAE := Lib.hid hact
    clear habl hact
    have n1 := nbl_len 1 1 (by decide)
    have n2 := nbl_len 2 1 (by decide)
    have n3 := nbl_len (bitv a 4).1 4 (by decide)
    have n4 := nbl_len (s.size : Int) 2 (by decide)
    generalize bitv a 4 = V at *
    obtain ⟨V1, V2⟩ := V
    dsimp only at HAB HAE hbr B1 n3
    have hw : wrap64 V1 = V1 := by unfold wrap64; omega
    by_cases hk1 : k = 1
    · subst hk1
      by_cases hv : V2 = 0
      · subst hv
        by_cases hs : 65535 < s.size
        · have HJ : Hid (actE 1 a s = 3) := Lib.hid (by rw [HAE.out, if_neg (by decide), if_neg (fun h => h.2 rfl), if_pos hs])
          have q1 : (65535 : Int) < (s.size : Int) := by omega
          unfold Act1
          rw [HJ.out]
          clear n1 n2 n3 n4 hbr hs hl hw
          clear HS
          go_enter Try.func62, Try.ntmps62
          go_wp2_with fail
          rw [← hW0]
          refine (B1 _).mono ?_
          rintro e w1 ⟨rfl, b1⟩
          have bb1 := bstep b0 b1
          have g1 := (b1.block _ (blk_lt g0)).trans g0
          have c0 : w1.cell? ⟨w.heap.size, 0, none⟩ = some (.int .i64 1) := blk_cell g1 0
          have c2 : w1.cell? ⟨w.heap.size, 2, none⟩ = some (.string s) := blk_cell g1 2
          have HB := h.below bb1
          go_wp2
          go_ret
          exact ⟨rfl, F, HB, Mod.of bb1, fun _ h => .inl h⟩
        · have HJ : Hid (actE 1 a s = 0) := Lib.hid (by rw [HAE.out, if_neg (by decide), if_neg (fun h => h.2 rfl), if_neg hs])
          have HL : Hid (abl 1 a s = nbl 1 1 ++ nbl V1 4 ++ nbl (s.size : Int) 2 ++ s.data.toList) := Lib.hid (by rw [HAB.out, if_pos rfl])
          have q1 : ¬ (65535 : Int) < (s.size : Int) := by omega
          unfold Act1
          rw [HJ.out]
          clear HS hs hk HAE HAB
          have HNN := Lib.hid (And.intro n1 (And.intro n3 (And.intro n4 hl)))
          have HSZ := Lib.hid q1
          clear n1 n2 n3 n4 hl hbr
          go_enter Try.func62, Try.ntmps62
          go_wp2_with fail
          rw [← hW0]
          clear hW0
          refine (B1 _).mono ?_
          rintro e w1 ⟨rfl, b1⟩
          have bb1 := bstep b0 b1
          have g1 := (b1.block _ (blk_lt g0)).trans g0
          have c0 : w1.cell? ⟨w.heap.size, 0, none⟩ = some (.int .i64 1) := blk_cell g1 0
          have c2 : w1.cell? ⟨w.heap.size, 2, none⟩ = some (.string s) := blk_cell g1 2
          have HB := h.below bb1
          have HF : ∀ k, F k → k < w.heap.size := h.lt
          have P1 := number F b L 1 1 w1 HB (by decide) (by have := HNN.out; omega)
          clear b0 b1 g0 B1 HB
          go_wp2_with fail
          refine P1.mono ?_
          rintro e w2 ⟨rfl, F2, h2, m2, r2⟩
          have hb1 := bb1.size
          have hlt1 := blk_lt g1
          have nF : ¬ F w.heap.size := fun hh => Nat.lt_irrefl _ (HF _ hh)
          have nF2 : ¬ F2 w.heap.size := fun hh => (r2 _ hh).elim nF (fun h => by omega)
          have g2 := (m2.block _ hlt1 nF).trans g1
          have d0 : w2.cell? ⟨w.heap.size, 0, none⟩ = some (.int .i64 1) := blk_cell g2 0
          have M2 := (Mod.of (F := F) bb1).trans m2 (fun _ h => .inl h)
          have G2 : Grow F F2 w := fun k hk => (r2 k hk).elim .inl (fun h => .inr (Nat.le_trans hb1 h))
          have P2 := number F2 b (L ++ nbl 1 1) V1 4 w2 h2 (by decide) (by have := HNN.out; rw [List.length_append]; omega)
          have hlt2 := blk_lt g2
          clear P1 m2 r2 c0 c2 g1 bb1 hb1 hlt1
          go_wp2_with fail
          refine P2.mono ?_
          rintro e w3 ⟨rfl, F3, h3, m3, r3⟩
          have nF3 : ¬ F3 w.heap.size := fun hh => (r3 _ hh).elim nF2 (fun h => by omega)
          have g3 := (m3.block _ hlt2 nF2).trans g2
          have d2 : w3.cell? ⟨w.heap.size, 2, none⟩ = some (.string s) := blk_cell g3 2
          have M3 := M2.trans m3 G2
          have G3 : Grow F F3 w := fun k hk => (r3 k hk).elim (G2 k) (fun h => .inr (Nat.le_trans M2.size h))
          have P3 := number F3 b (L ++ nbl 1 1 ++ nbl V1 4) (s.size : Int) 2 w3 h3 (by decide) (by have := HNN.out; rw [List.length_append, List.length_append]; omega)
          have hlt3 := blk_lt g3
          clear P2 m3 r3 d0 g2 h2 M2 G2 hlt2
          go_wp2_with fail
          refine P3.mono ?_
          rintro e w4 ⟨rfl, F4, h4, m4, r4⟩
          have g4 := (m4.block _ hlt3 nF3).trans g3
          have e2 : w4.cell? ⟨w.heap.size, 2, none⟩ = some (.string s) := blk_cell g4 2
          have M4 := M3.trans m4 G3
          have G4 : Grow F F4 w := fun k hk => (r4 k hk).elim (G3 k) (fun h => .inr (Nat.le_trans M3.size h))
          have P4 := swrite F4 b (L ++ nbl 1 1 ++ nbl V1 4 ++ nbl (s.size : Int) 2) s w4 h4 (by have := HNN.out; have := HSZ.out; rw [List.length_append, List.length_append, List.length_append]; omega)
          clear P3 m4 r4 d2 g3 h3 M3 G3 hlt3
          go_wp2_with fail
          refine P4.mono ?_
          rintro e w5 ⟨rfl, F5, h5, m5, r5⟩
          have M5 := M4.trans m5 G4
          have G5 : Grow F F5 w := fun k hk => (r5 k hk).elim (G4 k) (fun h => .inr (Nat.le_trans M4.size h))
          go_wp2
          go_ret
          refine ⟨rfl, F5, ?_, M5, G5⟩
          rw [HL.out]
          simp only [List.append_assoc] at h5 ⊢
          exact h5
      · have HJ : Hid (actE 1 a s = 7) := Lib.hid (by rw [HAE.out, if_neg (by decide), if_pos ⟨rfl, hv⟩])
        have q1 : (V2 != 0) = true := by simpa using hv
        unfold Act1
        rw [HJ.out]
        clear n1 n2 n3 n4 hbr hl hw
        clear HS
        go_enter Try.func62, Try.ntmps62
        go_wp2_with fail
        rw [← hW0]
        refine (B1 _).mono ?_
        rintro e w1 ⟨rfl, b1⟩
        have bb1 := bstep b0 b1
        have g1 := (b1.block _ (blk_lt g0)).trans g0
        have c0 : w1.cell? ⟨w.heap.size, 0, none⟩ = some (.int .i64 1) := blk_cell g1 0
        have c2 : w1.cell? ⟨w.heap.size, 2, none⟩ = some (.string s) := blk_cell g1 2
        have HB := h.below bb1
        go_wp2
        go_ret
        exact ⟨rfl, F, HB, Mod.of bb1, fun _ h => .inl h⟩
    · have hk2 : k = 2 := by omega
      subst hk2
      by_cases hs : 65535 < s.size
      · have HJ : Hid (actE 2 a s = 3) := Lib.hid (by rw [HAE.out, if_neg (by decide), if_neg (fun h => absurd h.1 (by decide)), if_pos hs])
        have q1 : (65535 : Int) < (s.size : Int) := by omega
        unfold Act1
        rw [HJ.out]
        clear n1 n2 n3 n4 hbr hs hl hw
        clear HS
        go_enter Try.func62, Try.ntmps62
        go_wp2_with fail
        rw [← hW0]
        refine (B1 _).mono ?_
        rintro e w1 ⟨rfl, b1⟩
        have bb1 := bstep b0 b1
        have g1 := (b1.block _ (blk_lt g0)).trans g0
        have c0 : w1.cell? ⟨w.heap.size, 0, none⟩ = some (.int .i64 2) := blk_cell g1 0
        have c2 : w1.cell? ⟨w.heap.size, 2, none⟩ = some (.string s) := blk_cell g1 2
        have HB := h.below bb1
        go_wp2
        go_ret
        exact ⟨rfl, F, HB, Mod.of bb1, fun _ h => .inl h⟩
      · have HJ : Hid (actE 2 a s = 0) := Lib.hid (by rw [HAE.out, if_neg (by decide), if_neg (fun h => absurd h.1 (by decide)), if_neg hs])
        have HL : Hid (abl 2 a s = nbl 2 1 ++ nbl (s.size : Int) 2 ++ s.data.toList) := Lib.hid (by rw [HAB.out, if_neg (by decide)])
        have q1 : ¬ (65535 : Int) < (s.size : Int) := by omega
        unfold Act1
        rw [HJ.out]
        clear HS hs hk HAE HAB
        have HNN := Lib.hid (And.intro n2 (And.intro n4 hl))
        have HSZ := Lib.hid q1
        clear n1 n2 n3 n4 hl hbr
        go_enter Try.func62, Try.ntmps62
        go_wp2_with fail
        rw [← hW0]
        clear hW0
        refine (B1 _).mono ?_
        rintro e w1 ⟨rfl, b1⟩
        have bb1 := bstep b0 b1
        have g1 := (b1.block _ (blk_lt g0)).trans g0
        have c0 : w1.cell? ⟨w.heap.size, 0, none⟩ = some (.int .i64 2) := blk_cell g1 0
        have c2 : w1.cell? ⟨w.heap.size, 2, none⟩ = some (.string s) := blk_cell g1 2
        have HB := h.below bb1
        have HF : ∀ k, F k → k < w.heap.size := h.lt
        have P1 := number F b L 2 1 w1 HB (by decide) (by have := HNN.out; omega)
        clear b0 b1 g0 B1 HB
        go_wp2_with fail
        refine P1.mono ?_
        rintro e w2 ⟨rfl, F2, h2, m2, r2⟩
        have hb1 := bb1.size
        have hlt1 := blk_lt g1
        have nF : ¬ F w.heap.size := fun hh => Nat.lt_irrefl _ (HF _ hh)
        have nF2 : ¬ F2 w.heap.size := fun hh => (r2 _ hh).elim nF (fun h => by omega)
        have g2 := (m2.block _ hlt1 nF).trans g1
        have d0 : w2.cell? ⟨w.heap.size, 0, none⟩ = some (.int .i64 2) := blk_cell g2 0
        have d2 : w2.cell? ⟨w.heap.size, 2, none⟩ = some (.string s) := blk_cell g2 2
        have M2 := (Mod.of (F := F) bb1).trans m2 (fun _ h => .inl h)
        have G2 : Grow F F2 w := fun k hk => (r2 k hk).elim .inl (fun h => .inr (Nat.le_trans hb1 h))
        have P3 := number F2 b (L ++ nbl 2 1) (s.size : Int) 2 w2 h2 (by decide) (by have := HNN.out; rw [List.length_append]; omega)
        have hlt2 := blk_lt g2
        clear P1 m2 r2 c0 c2 g1 bb1 hb1 hlt1
        go_wp2_with fail
        refine P3.mono ?_
        rintro e w4 ⟨rfl, F4, h4, m4, r4⟩
        have g4 := (m4.block _ hlt2 nF2).trans g2
        have e2 : w4.cell? ⟨w.heap.size, 2, none⟩ = some (.string s) := blk_cell g4 2
        have M4 := M2.trans m4 G2
        have G4 : Grow F F4 w := fun k hk => (r4 k hk).elim (G2 k) (fun h => .inr (Nat.le_trans M2.size h))
        have P4 := swrite F4 b (L ++ nbl 2 1 ++ nbl (s.size : Int) 2) s w4 h4 (by have := HNN.out; have := HSZ.out; rw [List.length_append, List.length_append]; omega)
        clear P3 m4 r4 d2 g2 h2 M2 G2 hlt2 d0
        go_wp2_with fail
        refine P4.mono ?_
        rintro e w5 ⟨rfl, F5, h5, m5, r5⟩
        have M5 := M4.trans m5 G4
        have G5 : Grow F F5 w := fun k hk => (r5 k hk).elim (G4 k) (fun h => .inr (Nat.le_trans M4.size h))
        go_wp2
        go_ret
        refine ⟨rfl, F5, ?_, M5, G5⟩
        rw [HL.out]
        simp only [List.append_assoc] at h5 ⊢
        exact h5
end Go.Proofs.Ytimalojaiaofkaa.Scr
