import Derived.Test.YtimalojaiaofkaaPScriptPutsx0
import Derived.Test.YtimalojaiaofkaaPScriptPutsx1
import Derived.Test.YtimalojaiaofkaaSqScriptBack5
set_option linter.unusedVariables false
set_option linter.unusedSimpArgs false
namespace Go.Proofs.Ytimalojaiaofkaa.Scr
open Go.RowKit Base Sp Flat Go.Proofs.YtimalojaiaofkaaW.PrintWords Go.Proofs.YtimalojaiaofkaaW.PrintLast Go.Proofs.YtimalojaiaofkaaW.PrintMore Wd Buf
theorem grow_up {w : World} {F F' : Nat → Prop} {B : Nat} (h : Grow F F' w) (hF : ∀ k, F k → B ≤ k) (hB : B ≤ w.heap.size) : ∀ k, F' k → B ≤ k :=
  fun k hk => (h k hk).elim (hF k) (fun h => Nat.le_trans hB h)
/-- Bytes as a text. -/
def tx (l : List UInt8) : ByteArray := ⟨l.toArray⟩
/-- Numbers put behind bytes. -/
def nbl (n s : Int) : List UInt8 := (nby (IntKind.u64.wrap n) s).data.toList
theorem u64_range (n : Int) : 0 ≤ IntKind.u64.wrap n ∧ IntKind.u64.wrap n < 18446744073709551616 := by rw [u64_mod]; omega
theorem number (F : Nat → Prop) (b : Nat) (L : List UInt8) (n s : Int) (w : World) (h : sB w F b L) (hs : s ≤ 8) (hl : L.length ≤ 100000000000000) :
    Calls Try.prog 61 #[.pointer (some ⟨b, 0, none⟩), .int .i64 n, .int .i64 s] w fun e w' => e = .returned (.tuple #[]) ∧ sWrote w F b L (nbl n s) w' := by
  have hu := u64_range n
  have HP := fun W => Wd.put (IntKind.u64.wrap n) s hu.1 hu.2 W
  have hsz := nby_size (IntKind.u64.wrap n) s hs
  have hn : nbl n s = (nby (IntKind.u64.wrap n) s).data.toList := rfl
  have hput : ∃ T e, (if sz s then putv (IntKind.u64.wrap n) s else (⟨#[]⟩, 4)) = (T, e) ∧ nby (IntKind.u64.wrap n) s = T := ⟨_, _, rfl, rfl⟩
  obtain ⟨T, e2, hT, hT2⟩ := hput
  rw [hT] at HP
  rw [hT2] at hn hsz
  have HN := Lib.hid hn
  clear hn hT hT2 hu
  go_enter Try.func61, Try.ntmps61
  go_wp2_with fail
  refine (HP _).mono ?_
  rintro e w1 ⟨rfl, b1⟩
  have h1 := h.below b1
  have HW := swrite F b L T w1 h1 (by omega)
  clear HP
  go_wp2_with fail
  refine HW.mono ?_
  rintro e w2 ⟨rfl, F2, h2, m2, g2⟩
  go_wp2
  go_end0
  exact ⟨rfl, F2, by rw [HN.out]; exact h2, (Mod.of b1).trans m2 (fun _ h => .inl h), fun k hk => (g2 k hk).elim .inl (fun h => .inr (Nat.le_trans b1.size h))⟩
/-- What an action puts. -/
def abl (k a : Int) (s : ByteArray) : List UInt8 := (if k = 1 then nbl k 1 ++ nbl (bitv a 4).1 4 else nbl k 1) ++ nbl (s.size : Int) 2 ++ s.data.toList
theorem nbl_len (n s : Int) (hs : s ≤ 8) : (nbl n s).length ≤ 8 := nby_size _ s hs
theorem bits (n : Int) (h0 : -9223372036854775808 ≤ n) (h1 : n < 9223372036854775808) (w : World) : Calls Try.prog 86 #[.int .i64 n, .int .i64 4] w fun e w' => e = .returned (.tuple #[.int .u64 (bitv n 4).1, .int .i64 (bitv n 4).2]) ∧ Below w.heap.size w w' :=
  (Go.Proofs.Ytimalojaiaofkaa.PScriptPuts.word_Bits.calls n 4 (bitv n 4).1 (bitv n 4).2 w (ScW.bits_eq n 4 h0 h1)).mono fun _ _ hh => ⟨hh.1, (drawn_below hh.2)⟩
/-- An action put: what is told, what stands behind. -/
def Act1 (w : World) (F : Nat → Prop) (b : Nat) (L : List UInt8) (k a : Int) (s : ByteArray) (e : Ending) (w' : World) : Prop :=
  e = .returned (.int .i64 (actE k a s)) ∧ ∃ F', sB w' F' b (if actE k a s ≠ 0 then L else L ++ abl k a s) ∧ Mod F w w' ∧ Grow F F' w
set_option maxRecDepth 20000 in
set_option maxHeartbeats 4000000 in
theorem act (F : Nat → Prop) (b : Nat) (L : List UInt8) (k a : Int) (s : ByteArray) (w : World) (h : sB w F b L) (hl : L.length ≤ 50000000000000) (h0 : -9223372036854775808 ≤ a) (h1 : a < 9223372036854775808) :
    Calls Try.prog 62 #[.pointer (some ⟨b, 0, none⟩), .agg #[.int .i64 k, .int .i64 a, .string s]] w fun e w' => Act1 w F b L k a s e w' := by
  have b0 : Below w.heap.size w (w.alloc (.cells #[.int .i64 k, .int .i64 a, .string s] 43)) := (Below.refl _ _).alloc (Nat.le_refl _) _
  have g0 : (w.alloc (.cells #[.int .i64 k, .int .i64 a, .string s] 43)).heap[w.heap.size]? = some (.cells #[.int .i64 k, .int .i64 a, .string s] 43 (0, 0)) := heap_alloc_new _ _
  obtain ⟨W0, hW0⟩ : ∃ W0, W0 = w.alloc (.cells #[.int .i64 k, .int .i64 a, .string s] 43) := ⟨_, rfl⟩
  rw [← hW0] at b0 g0
  have B1 := fun W => bits a h0 h1 W
  have HS := h
  by_cases hk : k ≠ 1 ∧ k ≠ 2
  · have HJ : Hid (actE k a s = 4) := Lib.hid (by unfold actE; rw [if_pos hk])
    have q1 : (k != 1) = true := by simpa using hk.1
    have q2 : (k != 2) = true := by simpa using hk.2
    clear hk
    unfold Act1
    rw [HJ.out]
    clear HS
    go_enter Try.func62, Try.ntmps62
    go_wp2_with fail
    rw [← hW0]
    refine (B1 _).mono ?_
    rintro e w1 ⟨rfl, b1⟩
    have bb1 := bstep b0 b1
    have g1 := (b1.block _ (blk_lt g0)).trans g0
    have c0 : w1.cell? ⟨w.heap.size, 0, none⟩ = some (.int .i64 k) := blk_cell g1 0
    have c2 : w1.cell? ⟨w.heap.size, 2, none⟩ = some (.string s) := blk_cell g1 2
    have HB := h.below bb1
    go_wp2
    go_ret
    exact ⟨rfl, F, HB, Mod.of bb1, fun _ h => .inl h⟩
  · have hbr := bitv_range a
    have habl : ∀ k, abl k a s = (if k = 1 then nbl k 1 ++ nbl (bitv a 4).1 4 else nbl k 1) ++ nbl (s.size : Int) 2 ++ s.data.toList := fun _ => rfl
    have hact : ∀ k, actE k a s = if k ≠ 1 ∧ k ≠ 2 then 4 else if k = 1 ∧ (bitv a 4).2 ≠ 0 then 7 else if 65535 < s.size then 3 else 0 := fun _ => rfl
    have HAB := Lib.hid habl
    have HAE := Lib.hid hact
    clear habl hact
    have n1 := nbl_len 1 1 (by decide)
    have n2 := nbl_len 2 1 (by decide)
    have n3 := nbl_len (bitv a 4).1 4 (by decide)
    have n4 := nbl_len (s.size : Int) 2 (by decide)
    generalize bitv a 4 = V at *
    obtain ⟨V1, V2⟩ := V
    dsimp only at HAB HAE hbr B1 n3
    have hw : wrap64 V1 = V1 := by unfold wrap64; omega
    by_cases hk1 : k = 1
    · subst hk1
      by_cases hv : V2 = 0
      · subst hv
        by_cases hs : 65535 < s.size
        · have HJ : Hid (actE 1 a s = 3) := Lib.hid (by rw [HAE.out, if_neg (by decide), if_neg (fun h => h.2 rfl), if_pos hs])
          have q1 : (65535 : Int) < (s.size : Int) := by omega
          unfold Act1
          rw [HJ.out]
          clear n1 n2 n3 n4 hbr hs hl hw
          clear HS
          go_enter Try.func62, Try.ntmps62
          go_wp2_with fail
          rw [← hW0]
          refine (B1 _).mono ?_
          rintro e w1 ⟨rfl, b1⟩
          have bb1 := bstep b0 b1
          have g1 := (b1.block _ (blk_lt g0)).trans g0
          have c0 : w1.cell? ⟨w.heap.size, 0, none⟩ = some (.int .i64 1) := blk_cell g1 0
          have c2 : w1.cell? ⟨w.heap.size, 2, none⟩ = some (.string s) := blk_cell g1 2
          have HB := h.below bb1
          go_wp2
          go_ret
          exact ⟨rfl, F, HB, Mod.of bb1, fun _ h => .inl h⟩
        · have HJ : Hid (actE 1 a s = 0) := Lib.hid (by rw [HAE.out, if_neg (by decide), if_neg (fun h => h.2 rfl), if_neg hs])
          have HL : Hid (abl 1 a s = nbl 1 1 ++ nbl V1 4 ++ nbl (s.size : Int) 2 ++ s.data.toList) := Lib.hid (by rw [HAB.out, if_pos rfl])
          have q1 : ¬ (65535 : Int) < (s.size : Int) := by omega
          unfold Act1
          rw [HJ.out]
          clear HS hs hk HAE HAB
          have HNN := Lib.hid (And.intro n1 (And.intro n3 (And.intro n4 hl)))
          have HSZ := Lib.hid q1
          clear n1 n2 n3 n4 hl hbr
          go_enter Try.func62, Try.ntmps62
          go_wp2_with fail
          rw [← hW0]
          clear hW0
          refine (B1 _).mono ?_
          rintro e w1 ⟨rfl, b1⟩
          have bb1 := bstep b0 b1
          have g1 := (b1.block _ (blk_lt g0)).trans g0
          have c0 : w1.cell? ⟨w.heap.size, 0, none⟩ = some (.int .i64 1) := blk_cell g1 0
          have c2 : w1.cell? ⟨w.heap.size, 2, none⟩ = some (.string s) := blk_cell g1 2
          have HB := h.below bb1
          have HF : ∀ k, F k → k < w.heap.size := h.lt
          have P1 := number F b L 1 1 w1 HB (by decide) (by have := HNN.out; omega)
          clear b0 b1 g0 B1 HB
          go_wp2_with fail
          refine P1.mono ?_
          rintro e w2 ⟨rfl, F2, h2, m2, r2⟩
          have hb1 := bb1.size
          have hlt1 := blk_lt g1
          have nF : ¬ F w.heap.size := fun hh => Nat.lt_irrefl _ (HF _ hh)
          have nF2 : ¬ F2 w.heap.size := fun hh => (r2 _ hh).elim nF (fun h => by omega)
          have g2 := (m2.block _ hlt1 nF).trans g1
          have d0 : w2.cell? ⟨w.heap.size, 0, none⟩ = some (.int .i64 1) := blk_cell g2 0
          have M2 := (Mod.of (F := F) bb1).trans m2 (fun _ h => .inl h)
          have G2 : Grow F F2 w := fun k hk => (r2 k hk).elim .inl (fun h => .inr (Nat.le_trans hb1 h))
          have P2 := number F2 b (L ++ nbl 1 1) V1 4 w2 h2 (by decide) (by have := HNN.out; rw [List.length_append]; omega)
          have hlt2 := blk_lt g2
          clear P1 m2 r2 c0 c2 g1 bb1 hb1 hlt1
          go_wp2_with fail
          refine P2.mono ?_
          rintro e w3 ⟨rfl, F3, h3, m3, r3⟩
          have nF3 : ¬ F3 w.heap.size := fun hh => (r3 _ hh).elim nF2 (fun h => by omega)
          have g3 := (m3.block _ hlt2 nF2).trans g2
          have d2 : w3.cell? ⟨w.heap.size, 2, none⟩ = some (.string s) := blk_cell g3 2
          have M3 := M2.trans m3 G2
          have G3 : Grow F F3 w := fun k hk => (r3 k hk).elim (G2 k) (fun h => .inr (Nat.le_trans M2.size h))
          have P3 := number F3 b (L ++ nbl 1 1 ++ nbl V1 4) (s.size : Int) 2 w3 h3 (by decide) (by have := HNN.out; rw [List.length_append, List.length_append]; omega)
          have hlt3 := blk_lt g3
          clear P2 m3 r3 d0 g2 h2 M2 G2 hlt2
          go_wp2_with fail
          refine P3.mono ?_
          rintro e w4 ⟨rfl, F4, h4, m4, r4⟩
          have g4 := (m4.block _ hlt3 nF3).trans g3
          have e2 : w4.cell? ⟨w.heap.size, 2, none⟩ = some (.string s) := blk_cell g4 2
          have M4 := M3.trans m4 G3
          have G4 : Grow F F4 w := fun k hk => (r4 k hk).elim (G3 k) (fun h => .inr (Nat.le_trans M3.size h))
          have P4 := swrite F4 b (L ++ nbl 1 1 ++ nbl V1 4 ++ nbl (s.size : Int) 2) s w4 h4 (by have := HNN.out; have := HSZ.out; rw [List.length_append, List.length_append, List.length_append]; omega)
          clear P3 m4 r4 d2 g3 h3 M3 G3 hlt3
          go_wp2_with fail
          refine P4.mono ?_
          rintro e w5 ⟨rfl, F5, h5, m5, r5⟩
          have M5 := M4.trans m5 G4
          have G5 : Grow F F5 w := fun k hk => (r5 k hk).elim (G4 k) (fun h => .inr (Nat.le_trans M4.size h))
          go_wp2
          go_ret
          refine ⟨rfl, F5, ?_, M5, G5⟩
          rw [HL.out]
          simp only [List.append_assoc] at h5 ⊢
          exact h5
      · have HJ : Hid (actE 1 a s = 7) := Lib.hid (by rw [HAE.out, if_neg (by decide), if_pos ⟨rfl, hv⟩])
        have q1 : (V2 != 0) = true := by simpa using hv
        unfold Act1
        rw [HJ.out]
        clear n1 n2 n3 n4 hbr hl hw
        clear HS
        go_enter Try.func62, Try.ntmps62
        go_wp2_with fail
        rw [← hW0]
        refine (B1 _).mono ?_
        rintro e w1 ⟨rfl, b1⟩
        have bb1 := bstep b0 b1
        have g1 := (b1.block _ (blk_lt g0)).trans g0
        have c0 : w1.cell? ⟨w.heap.size, 0, none⟩ = some (.int .i64 1) := blk_cell g1 0
        have c2 : w1.cell? ⟨w.heap.size, 2, none⟩ = some (.string s) := blk_cell g1 2
        have HB := h.below bb1
        go_wp2
        go_ret
        exact ⟨rfl, F, HB, Mod.of bb1, fun _ h => .inl h⟩
    · have hk2 : k = 2 := by omega
      subst hk2
      by_cases hs : 65535 < s.size
      · have HJ : Hid (actE 2 a s = 3) := Lib.hid (by rw [HAE.out, if_neg (by decide), if_neg (fun h => absurd h.1 (by decide)), if_pos hs])
        have q1 : (65535 : Int) < (s.size : Int) := by omega
        unfold Act1
        rw [HJ.out]
        clear n1 n2 n3 n4 hbr hs hl hw
        clear HS
        go_enter Try.func62, Try.ntmps62
        go_wp2_with fail
        rw [← hW0]
        refine (B1 _).mono ?_
        rintro e w1 ⟨rfl, b1⟩
        have bb1 := bstep b0 b1
        have g1 := (b1.block _ (blk_lt g0)).trans g0
        have c0 : w1.cell? ⟨w.heap.size, 0, none⟩ = some (.int .i64 2) := blk_cell g1 0
        have c2 : w1.cell? ⟨w.heap.size, 2, none⟩ = some (.string s) := blk_cell g1 2
        have HB := h.below bb1
        go_wp2
        go_ret
        exact ⟨rfl, F, HB, Mod.of bb1, fun _ h => .inl h⟩
      · have HJ : Hid (actE 2 a s = 0) := Lib.hid (by rw [HAE.out, if_neg (by decide), if_neg (fun h => absurd h.1 (by decide)), if_neg hs])
        have HL : Hid (abl 2 a s = nbl 2 1 ++ nbl (s.size : Int) 2 ++ s.data.toList) := Lib.hid (by rw [HAB.out, if_neg (by decide)])
        have q1 : ¬ (65535 : Int) < (s.size : Int) := by omega
        unfold Act1
        rw [HJ.out]
        clear HS hs hk HAE HAB
        have HNN := Lib.hid (And.intro n2 (And.intro n4 hl))
        have HSZ := Lib.hid q1
        clear n1 n2 n3 n4 hl hbr
        go_enter Try.func62, Try.ntmps62
        go_wp2_with fail
        rw [← hW0]
        clear hW0
        refine (B1 _).mono ?_
        rintro e w1 ⟨rfl, b1⟩
        have bb1 := bstep b0 b1
        have g1 := (b1.block _ (blk_lt g0)).trans g0
        have c0 : w1.cell? ⟨w.heap.size, 0, none⟩ = some (.int .i64 2) := blk_cell g1 0
        have c2 : w1.cell? ⟨w.heap.size, 2, none⟩ = some (.string s) := blk_cell g1 2
        have HB := h.below bb1
        have HF : ∀ k, F k → k < w.heap.size := h.lt
        have P1 := number F b L 2 1 w1 HB (by decide) (by have := HNN.out; omega)
        clear b0 b1 g0 B1 HB
        go_wp2_with fail
        refine P1.mono ?_
        rintro e w2 ⟨rfl, F2, h2, m2, r2⟩
        have hb1 := bb1.size
        have hlt1 := blk_lt g1
        have nF : ¬ F w.heap.size := fun hh => Nat.lt_irrefl _ (HF _ hh)
        have nF2 : ¬ F2 w.heap.size := fun hh => (r2 _ hh).elim nF (fun h => by omega)
        have g2 := (m2.block _ hlt1 nF).trans g1
        have d0 : w2.cell? ⟨w.heap.size, 0, none⟩ = some (.int .i64 2) := blk_cell g2 0
        have d2 : w2.cell? ⟨w.heap.size, 2, none⟩ = some (.string s) := blk_cell g2 2
        have M2 := (Mod.of (F := F) bb1).trans m2 (fun _ h => .inl h)
        have G2 : Grow F F2 w := fun k hk => (r2 k hk).elim .inl (fun h => .inr (Nat.le_trans hb1 h))
        have P3 := number F2 b (L ++ nbl 2 1) (s.size : Int) 2 w2 h2 (by decide) (by have := HNN.out; rw [List.length_append]; omega)
        have hlt2 := blk_lt g2
        clear P1 m2 r2 c0 c2 g1 bb1 hb1 hlt1
        go_wp2_with fail
        refine P3.mono ?_
        rintro e w4 ⟨rfl, F4, h4, m4, r4⟩
        have g4 := (m4.block _ hlt2 nF2).trans g2
        have e2 : w4.cell? ⟨w.heap.size, 2, none⟩ = some (.string s) := blk_cell g4 2
        have M4 := M2.trans m4 G2
        have G4 : Grow F F4 w := fun k hk => (r4 k hk).elim (G2 k) (fun h => .inr (Nat.le_trans M2.size h))
        have P4 := swrite F4 b (L ++ nbl 2 1 ++ nbl (s.size : Int) 2) s w4 h4 (by have := HNN.out; have := HSZ.out; rw [List.length_append, List.length_append]; omega)
        clear P3 m4 r4 d2 g2 h2 M2 G2 hlt2 d0
        go_wp2_with fail
        refine P4.mono ?_
        rintro e w5 ⟨rfl, F5, h5, m5, r5⟩
        have M5 := M4.trans m5 G4
        have G5 : Grow F F5 w := fun k hk => (r5 k hk).elim (G4 k) (fun h => .inr (Nat.le_trans M4.size h))
        go_wp2
        go_ret
        refine ⟨rfl, F5, ?_, M5, G5⟩
        rw [HL.out]
        simp only [List.append_assoc] at h5 ⊢
        exact h5
end Go.Proofs.Ytimalojaiaofkaa.Scr
namespace Go.Proofs.Ytimalojaiaofkaa.Scr
open Go.RowKit Base Sp Flat Go.Proofs.YtimalojaiaofkaaW.PrintWords Go.Proofs.YtimalojaiaofkaaW.PrintLast Go.Proofs.YtimalojaiaofkaaW.PrintMore Wd Buf Go.Proofs.Ytimalojaiaofkaa.PScriptPuts
def ae (a : S43) : Int := actE a.f0 a.f1 a.f2
def al (a : S43) : List UInt8 := abl a.f0 a.f1 a.f2
/-- What is wrong first with actions, and what they put; then turns, and a script. -/
def acE : List S43 → Int
  | [] => 0
  | a :: l => if ae a ≠ 0 then ae a else acE l
def acL : List S43 → List UInt8
  | [] => []
  | a :: l => al a ++ acL l
def tE (x : S41) : Int := if 255 < x.f0.length then 3 else acE x.f0
def tL (x : S41) : List UInt8 := nbl (x.f0.length : Int) 1 ++ acL x.f0
def sE : List S41 → Int
  | [] => 0
  | x :: l => if tE x ≠ 0 then tE x else sE l
def sL : List S41 → List UInt8
  | [] => []
  | x :: l => tL x ++ sL l
def sput (l : List S41) : ByteArray × Int := if 1024 < l.length then (⟨#[]⟩, 3) else if sE l ≠ 0 then (⟨#[]⟩, sE l) else (tx (sL l), 0)
def St (l : List S43) (L X : List UInt8) (E : Int) (i : Nat) : Prop := L ++ acL (l.drop i) = X ∧ acE (l.drop i) = E
theorem St.start (l : List S43) (L : List UInt8) : St l L (L ++ acL l) (acE l) 0 := ⟨by rw [List.drop_zero], by rw [List.drop_zero]⟩
theorem St.fin {l : List S43} {L X : List UInt8} {E : Int} (h : St l L X E l.length) : L = X ∧ E = 0 := by
  obtain ⟨h1, h2⟩ := h
  rw [List.drop_length] at h1 h2
  exact ⟨by rw [← h1]; show L = L ++ []; rw [List.append_nil], h2.symm⟩
theorem St.ok {l : List S43} {L X : List UInt8} {E : Int} {i : Nat} (h : St l L X E i) (hi : i < l.length) (h0 : ae l[i] = 0) : St l (L ++ al l[i]) X E (i + 1) := by
  obtain ⟨h1, h2⟩ := h
  rw [List.drop_eq_getElem_cons hi] at h1 h2
  rw [acE, if_neg (fun h => h h0)] at h2
  rw [acL, ← List.append_assoc] at h1
  exact ⟨h1, h2⟩
theorem St.bad {l : List S43} {L X : List UInt8} {E : Int} {i : Nat} (h : St l L X E i) (hi : i < l.length) (h0 : ae l[i] ≠ 0) : ae l[i] = E := by
  obtain ⟨h1, h2⟩ := h
  rw [List.drop_eq_getElem_cons hi] at h2
  rw [acE, if_pos h0] at h2
  exact h2
def So (l : List S41) (L X : List UInt8) (E : Int) (i : Nat) : Prop := L ++ sL (l.drop i) = X ∧ sE (l.drop i) = E
theorem So.start (l : List S41) : So l [] (sL l) (sE l) 0 := ⟨by rw [List.drop_zero]; rfl, by rw [List.drop_zero]⟩
theorem So.fin {l : List S41} {L X : List UInt8} {E : Int} (h : So l L X E l.length) : L = X ∧ E = 0 := by
  obtain ⟨h1, h2⟩ := h
  rw [List.drop_length] at h1 h2
  exact ⟨by rw [← h1]; show L = L ++ []; rw [List.append_nil], h2.symm⟩
theorem So.ok {l : List S41} {L X : List UInt8} {E : Int} {i : Nat} (h : So l L X E i) (hi : i < l.length) (h0 : tE l[i] = 0) : So l (L ++ nbl (l[i].f0.length : Int) 1 ++ acL l[i].f0) X E (i + 1) := by
  obtain ⟨h1, h2⟩ := h
  rw [List.drop_eq_getElem_cons hi] at h1 h2
  rw [sE, if_neg (fun h => h h0)] at h2
  rw [sL, tL] at h1
  exact ⟨by rw [← h1, List.append_assoc, List.append_assoc, List.append_assoc], h2⟩
theorem So.bad {l : List S41} {L X : List UInt8} {E : Int} {i : Nat} (h : So l L X E i) (hi : i < l.length) (h0 : tE l[i] ≠ 0) : tE l[i] = E := by
  obtain ⟨h1, h2⟩ := h
  rw [List.drop_eq_getElem_cons hi] at h2
  rw [sE, if_pos h0] at h2
  exact h2
theorem rd43 (l : List S43) (i : Nat) (hi : i < l.length) : rd_T43 l (i : Int) = l[i] := by
  unfold rd_T43
  rw [Int.toNat_natCast, List.getD_eq_getElem?_getD, List.getElem?_eq_getElem hi]
  rfl
theorem rd41 (l : List S41) (i : Nat) (hi : i < l.length) : rd_T41 l (i : Int) = l[i] := by
  unfold rd_T41
  rw [Int.toNat_natCast, List.getD_eq_getElem?_getD, List.getElem?_eq_getElem hi]
  rfl
theorem al_len {a : S43} (h : ae a = 0) : (al a).length ≤ 70000 := by
  have n1 := nbl_len a.f0 1 (by decide)
  have n3 := nbl_len (bitv a.f1 4).1 4 (by decide)
  have n4 := nbl_len (a.f2.size : Int) 2 (by decide)
  have hs : a.f2.size ≤ 65535 := by
    unfold ae actE at h
    by_cases h1 : a.f0 ≠ 1 ∧ a.f0 ≠ 2
    · rw [if_pos h1] at h; exact absurd h (by decide)
    · rw [if_neg h1] at h
      by_cases h2 : a.f0 = 1 ∧ (bitv a.f1 4).2 ≠ 0
      · rw [if_pos h2] at h; exact absurd h (by decide)
      · rw [if_neg h2] at h
        by_cases h3 : 65535 < a.f2.size
        · rw [if_pos h3] at h; exact absurd h (by decide)
        · omega
  have he : a.f2.data.toList.length = a.f2.size := rfl
  unfold al abl
  rw [List.length_append, List.length_append, he]
  split
  · rw [List.length_append]; omega
  · omega
theorem meas (T b : Nat) (h : b < T) : T - (intOf (.int .i64 (((b + 1 : Nat) : Int)))).toNat < T - (intOf (.int .i64 (b : Int))).toNat := by
  show T - (((b + 1 : Nat) : Int)).toNat < T - ((b : Int)).toNat
  rw [Int.toNat_natCast, Int.toNat_natCast]
  omega
theorem sfresh (w : World) : sB (w.alloc (.cells #[.pointer none, .slice none 0 0] 106)) (fun k => k = w.heap.size) w.heap.size [] :=
  ⟨_, _, heap_alloc_new _ _, .inl rfl, World.ownsRowF_nil _ _ _ _, by simp [Value.ownBlock], rfl, fun k hk => by simp [Value.ownBlock] at hk, fun k hk => by subst hk; simp⟩
theorem addm {B n k x : Nat} (h : n ≤ B + k * 70000) (hx : x ≤ 70000) : n + x ≤ B + (k + 1) * 70000 := by omega
end Go.Proofs.Ytimalojaiaofkaa.Scr
namespace Go.Proofs.Ytimalojaiaofkaa.Scr
open Go.RowKit Base Sp Flat Go.Proofs.YtimalojaiaofkaaW.PrintWords Go.Proofs.YtimalojaiaofkaaW.PrintLast Go.Proofs.YtimalojaiaofkaaW.PrintMore Wd Buf Go.Proofs.Ytimalojaiaofkaa.PScriptPuts
theorem w_up {k n : Nat} (h : k < n) (h2 : n ≤ 2000) : wrap64 ((k : Int) + 1) = ((k + 1 : Nat) : Int) := by unfold wrap64; omega
theorem b3_ {n k j : Nat} (h : n ≤ k * 20000000 + 8 + j * 70000) (hk : k < 1024) (hj : j ≤ 255) : n ≤ (k + 1) * 20000000 := by omega
set_option maxRecDepth 20000 in
set_option maxHeartbeats 4000000 in
theorem put (A : Option Addr) (cap : Nat) (l : List S41) (w : World) (hS : Kd.C k41 w A l.length l) (hr : ∀ x ∈ l, ∀ a ∈ x.f0, -9223372036854775808 ≤ a.f1 ∧ a.f1 < 9223372036854775808) :
    Calls Try.prog 22 #[.slice A l.length cap] w fun e w' => e = .returned (.tuple #[.string (sput l).1, .int .i64 (sput l).2]) ∧ Below w.heap.size w w' := by
  by_cases h1 : 1024 < l.length
  · have HI : Hid (sput l = (⟨#[]⟩, 3)) := Lib.hid (by unfold sput; rw [if_pos h1])
    have q1 : (1024 : Int) < (l.length : Int) := by omega
    clear h1
    go_enter Try.func22, Try.ntmps22
    go_wp2
    go_ret2
    exact ⟨by rw [HI.out]; rfl, Below.refl _ _⟩
  · have HI : Hid (sput l = if sE l ≠ 0 then (⟨#[]⟩, sE l) else (tx (sL l), 0)) := Lib.hid (by unfold sput; rw [if_neg h1])
    have q1 : ¬ (1024 : Int) < (l.length : Int) := by omega
    have HLN : Hid (l.length ≤ 1024) := Lib.hid (by omega)
    have hs0 := sfresh w
    have b0 : Below w.heap.size w (w.alloc (.cells #[.pointer none, .slice none 0 0] 106)) := (Below.refl _ _).alloc (Nat.le_refl _) _
    have hso := Lib.hid (So.start l)
    clear h1
    go_enter Try.func22, Try.ntmps22
    go_wp2
    go_loopw [15] (fun i wr => ∃ (k : Nat) (L : List UInt8) (F : Nat → Prop), i = .int .i64 (k : Int) ∧ k ≤ l.length ∧ sB wr F w.heap.size L ∧ Hid (So l L (sL l) (sE l) k) ∧ Hid (L.length ≤ k * 20000000) ∧ Below w.heap.size w wr ∧ (∀ k, F k → w.heap.size ≤ k)) (fun i _ => (l.length - (intOf i).toNat))
    case atStart => exact ⟨0, [], _, rfl, Nat.zero_le _, hs0, hso, Lib.hid (Nat.le_refl _), b0, fun k hk => Nat.le_of_eq (id hk).symm⟩
    case round =>
      clear hs0 b0 hso
      obtain ⟨k, L, F, rfl, hkl, hB, hso, hbd, bb, hF⟩ := hrel
      have k0 : (0 : Int) ≤ (k : Int) := by omega
      by_cases hlt : k < l.length
      · have k2 : (k : Int) < (l.length : Int) := by omega
        obtain ⟨ad, A0, c0, rfl, hc, hlc, hA⟩ := at_T41 hS (k : Int) k0 k2
        rw [rd41 l k hlt] at hc hlc hA
        rw [Int.toNat_natCast] at hc
        replace hc := cbel bb hc (World.block_lt_of_cell? w _ hc)
        have hwk := w_up hlt (by have := HLN.out; omega)
        have hra := Lib.hid (hr _ (List.getElem_mem hlt))
        have hbad := Lib.hid (fun h0 => hso.out.bad hlt h0)
        have hok := Lib.hid (fun h0 => hso.out.ok hlt h0)
        have hte : Hid (tE l[k] = if 255 < l[k].f0.length then 3 else acE l[k].f0) := Lib.hid rfl
        have hms := Lib.hid (meas l.length k hlt)
        have hlt2 := Lib.hid hlt
        generalize l[k] = x at *
        obtain ⟨x⟩ := x
        dsimp only at hc hlc hA hra hbad hok hte
        have HS := Lib.hid hS
        have HR := Lib.hid hr
        have HLC := Lib.hid hlc
        clear hS hr hlc hlt hso hkl
        by_cases p1 : 255 < x.length
        · have q2 : (255 : Int) < (x.length : Int) := by omega
          have HJ : Hid (sput l = (⟨#[]⟩, 3)) := Lib.hid (by
            have ht := hte.out
            rw [if_pos p1] at ht
            have he := hbad.out (by rw [ht]; decide)
            rw [HI.out, ← he, ht, if_pos (by decide)])
          clear hA hra hbad hok hte p1
          have b5 : Below w.heap.size w (wr.alloc (.cells #[.slice A0 x.length c0] 41)) := bb.alloc bb.size _
          go_wp2
          go_ret2
          exact ⟨by rw [HJ.out]; rfl, b5⟩
        · have q2 : ¬ (255 : Int) < (x.length : Int) := by omega
          have hxl : Hid (x.length ≤ 255) := Lib.hid (by omega)
          have hte2 := Lib.hid (hte.out.trans (if_neg p1))
          have b5 : Below wr.heap.size wr (wr.alloc (.cells #[.slice A0 x.length c0] 41)) := (Below.refl _ _).alloc (Nat.le_refl _) _
          have g5 : (wr.alloc (.cells #[.slice A0 x.length c0] 41)).heap[wr.heap.size]? = some (.cells #[.slice A0 x.length c0] 41 (0, 0)) := heap_alloc_new _ _
          have bb5 := bstep bb b5
          have hB5 := hB.below b5
          have hN := number F w.heap.size L (x.length : Int) 1 _ hB5 (by decide) (by have := hbd.out; have := HLN.out; have := hlt2.out; omega)
          have nF : ¬ F wr.heap.size := fun hh => Nat.lt_irrefl _ (hB.lt _ hh)
          clear hte p1 hB
          go_wp2_with fail
          refine hN.mono ?_
          rintro e w2 ⟨rfl, F2, h2, m2, g2⟩
          have gg2 := (m2.block _ (blk_lt g5) nF).trans g5
          have cc2 : w2.cell? ⟨wr.heap.size, 0, none⟩ = some (.slice A0 x.length c0) := blk_cell gg2 0
          have bb2 := m2.below bb5 bb5.size hF
          have hF2 : ∀ k, F2 k → w.heap.size ≤ k := grow_up g2 hF bb5.size
          have hb2 : Hid ((L ++ nbl (x.length : Int) 1).length ≤ k * 20000000 + 8) := Lib.hid (by have := hbd.out; have := nbl_len (x.length : Int) 1 (by decide); rw [List.length_append]; omega)
          clear hN m2 g2 g5 gg2 b5 hB5 bb5 hF nF bb hbd
          clear hms
          go_wp2
          go_loopw [30] (fun i w3 => ∃ (j : Nat) (L3 : List UInt8) (F3 : Nat → Prop), i = .int .i64 (j : Int) ∧ j ≤ x.length ∧ sB w3 F3 w.heap.size L3 ∧ Hid (St x L3 (L ++ nbl (x.length : Int) 1 ++ acL x) (acE x) j) ∧ Hid (L3.length ≤ k * 20000000 + 8 + j * 70000) ∧ Below w.heap.size w w3 ∧ (∀ k, F3 k → w.heap.size ≤ k)) (fun i _ => (x.length - (intOf i).toNat))
          case atStart => exact ⟨0, _, _, rfl, Nat.zero_le _, h2, Lib.hid (St.start x _), Lib.hid (by have := hb2.out; omega), bb2, hF2⟩
          case round =>
            rename World => w3
            clear cc2 h2 bb2 hF2 hb2
            obtain ⟨j, L3, F3, rfl, hjl, hB3, hst, hb3, bb3, hF3⟩ := hrel
            have j0 : (0 : Int) ≤ (j : Int) := by omega
            by_cases hjt : j < x.length
            · have j2 : (j : Int) < (x.length : Int) := by omega
              obtain ⟨ad2, rfl, d0, d1, d2⟩ := at_T43 (Kd.C_below hA bb3) (j : Int) j0 j2
              rw [rd43 x j hjt] at d0 d1 d2
              rw [Int.toNat_natCast] at d0 d1 d2
              have hwj := w_up hjt (by have := hxl.out; omega)
              have hra2 := hra.out _ (List.getElem_mem hjt)
              have hbad2 := Lib.hid (fun h0 => hst.out.bad hjt h0)
              have hok2 := Lib.hid (fun h0 => hst.out.ok hjt h0)
              have hal := Lib.hid (fun (h0 : ae x[j] = 0) => al_len h0)
              have hms2 := Lib.hid (meas x.length j hjt)
              have hjt2 := Lib.hid hjt
              generalize x[j] = a at *
              obtain ⟨a0, a1, a2⟩ := a
              dsimp only [ae, al] at d0 d1 d2 hra2 hbad2 hok2 hal
              have b6 : Below w3.heap.size w3 (w3.alloc (.cells #[.int .i64 a0, .int .i64 a1, .string a2] 43)) := (Below.refl _ _).alloc (Nat.le_refl _) _
              have bb6 := bstep bb3 b6
              have hAct := act F3 w.heap.size L3 a0 a1 a2 _ (hB3.below b6) (by have := hb3.out; have := hxl.out; have := hlt2.out; have := HLN.out; have := hjt2.out; omega) hra2.1 hra2.2
              unfold Act1 at hAct
              have HA := Lib.hid hA
              clear hA hjl hjt hra2 hB3 b6
              generalize actE a0 a1 a2 = q at *
              go_wp2_with fail
              refine hAct.mono ?_
              rintro e w4 ⟨rfl, F4, h4, m4, g4⟩
              have bb4 := m4.below bb6 bb6.size hF3
              have hF4 : ∀ k, F4 k → w.heap.size ≤ k := grow_up g4 hF3 bb6.size
              clear hAct m4 g4 bb6 hF3 bb3 d0 d1 d2
              by_cases hq : q = 0
              · subst hq
                rw [if_neg (fun h => h rfl)] at h4
                have hl4 : Hid ((L3 ++ abl a0 a1 a2).length ≤ k * 20000000 + 8 + (j + 1) * 70000) := Lib.hid (by rw [List.length_append]; exact addm hb3.out (hal.out rfl))
                have hst4 := Lib.hid (hok2.out rfl)
                clear hb3 hbad2 hok2 hal hst
                go_wp2
                exact ⟨⟨j + 1, _, F4, rfl, hjt2.out, h4, hst4, hl4, bb4, hF4⟩, meas x.length j hjt2.out⟩
              · have qq : (q != 0) = true := by simpa using hq
                have HJ : Hid (sput l = (⟨#[]⟩, q)) := Lib.hid (by
                  have h7 := hbad2.out hq
                  have h8 := hte2.out
                  rw [← h7] at h8
                  have h9 := hbad.out (by rw [h8]; exact hq)
                  rw [HI.out, ← h9, h8, if_pos hq])
                clear hbad2 hok2 hal hst h4 hb3 hq
                go_wp2
                go_ret2
                exact ⟨by rw [HJ.out]; rfl, bb4⟩
            · have hj : j = x.length := by omega
              subst hj
              have hE := hst.out.fin
              have hl4 : Hid (L3.length ≤ (k + 1) * 20000000) := Lib.hid (b3_ hb3.out (by have := HLN.out; have := hlt2.out; omega) hxl.out)
              have hso4 : Hid (So l L3 (sL l) (sE l) (k + 1)) := Lib.hid (by rw [hE.1]; exact hok.out (by rw [hte2.out]; exact hE.2))
              clear hE hst hb3 hjt hjl
              go_wp2
              exact ⟨⟨k + 1, L3, F3, rfl, hlt2.out, hB3, hso4, hl4, bb3, hF3⟩, meas l.length k hlt2.out⟩
      · have hk : k = l.length := by omega
        subst hk
        have hE := hso.out.fin
        have HJ : Hid (sput l = (tx L, 0)) := Lib.hid (by rw [HI.out, hE.2, if_neg (fun h => h rfl), hE.1])
        have hT := sstring F w.heap.size L wr hB
        clear hE hso hbd hB hS hr hlt hkl
        go_wp2_with fail
        refine hT.mono ?_
        rintro e w2 ⟨rfl, _, m2⟩
        have bb2 := m2.below bb bb.size hF
        clear hT
        go_wp2
        go_ret2
        exact ⟨by rw [HJ.out]; rfl, bb2⟩
end Go.Proofs.Ytimalojaiaofkaa.Scr
namespace Go.Proofs.Ytimalojaiaofkaa.PScriptPuts
open Go.RowKit Go.Proofs.YtimalojaiaofkaaW.PrintWords Go.Proofs.YtimalojaiaofkaaW.PrintLast Go.Proofs.YtimalojaiaofkaaW.PrintMore
attribute [local go_sem] max2_int min2_int max_two min_two max_three min_three max_four min_four   -- for this text's walks alone

/-! ### broadsheetref45_number: function 64 -/
def broadsheetref45_number.f (k : Nat) (a0 : Int) (a1 : Int) : Option (ByteArray) := (broadsheetref01_Put.f k a0 a1).bind fun bt126 => (some bt126.1)
theorem broadsheetref45_number.mono : ∀ a0 a1 k, LeO (broadsheetref45_number.f k a0 a1) (broadsheetref45_number.f (k + 1) a0 a1) := by
  intro a0 a1 k
  unfold broadsheetref45_number.f
  repeat' first
      | (with_reducible exact broadsheetref01_Put.mono _ _ _)
      | (with_reducible exact LeO.refl _)
      | (with_reducible exact LeO.none _)
      | (with_reducible refine LeO.ite ?_ ?_)
      | (with_reducible refine LeO.bind ?_ (fun _ => ?_))
      | exact broadsheetref01_Put.mono _ _ _
      | exact LeO.none _
      | refine LeO.ite ?_ ?_
      | refine LeO.bind ?_ (fun _ => ?_)
set_option maxHeartbeats 8000000 in
set_option maxRecDepth 100000 in
theorem broadsheetref45_number.calls (k : Nat) (a0 : Int) (a1 : Int) (r : ByteArray) (w : World) (h : broadsheetref45_number.f k a0 a1 = some r) :
    Calls Try.prog 64 #[.int .u64 a0, .int .i64 a1] w fun e w' => e = .returned (.string r) ∧ Below w.heap.size w w' := by
  have HB := Aside0.mk (Below.refl w.heap.size w)
  have H : ((broadsheetref01_Put.f k a0 a1).bind fun bt126 => (some bt126.1)) = some r := h
  clear h
  replace H := Option.bind_eq_some_iff.mp H
  obtain ⟨⟨t126, t127⟩, A30, H⟩ := H
  replace H : (some t126) = some r := H
  have A3 := Aside0.mk A30
  clear A30
  obtain rfl := Option.some.inj H
  go_enter Try.func64, Try.ntmps64
  go_wp2_with (first | ((with_reducible refine gate_callee (f := 87) rfl ?_); refine goesL_ (some 10) rfl rfl Try.func87 (by kernel_rfl) rfl #[.int .u64 a0, .int .i64 a1] rfl (by (try simp only [List.map_toArray, List.map_cons, List.map_nil]); first | done | rfl | (simp only [List.length_drop, List.length_take]; rfl)) ?_; (with_reducible refine (broadsheetref01_Put.calls k a0 a1 t126 t127 _ A3.out).mono ?_); rintro e w4 ⟨rfl, hb⟩; refine ⟨_, rfl, ?_⟩; have n0_ := Aside0.mk (below_step (by repeat (first | (with_reducible first | exact HB.out | apply below_alloc | apply pw_below_drewN | apply below_drew1) | exact HB.out)) hb); clear HB; have HB := n0_; clear n0_; (try clear hb); (try clear hb2); (try clear hk); (try clear hi)))
  go_ret
  exact ⟨by first | rfl | (simp [errW_none, errW_some] <;> rfl) | (simp [*, errW_none, errW_some] <;> rfl), by repeat (first | (with_reducible first | exact HB.out | apply below_alloc | apply pw_below_drewN | apply below_drew1) | exact HB.out)⟩

/-! ### broadsheetref01_half: function 105 -/
def broadsheetref01_half.l0 : Nat → Int → Int → Int → Option (Int)
  | 0, _, _, _ => none
  | k + 1, x0, x3, x4 => if x4 < x0 then (broadsheetref01_half.l0 k x0 (IntKind.u64.wrap (x3 * 256)) (wrap64 (x4 + 1))) else (some x3)
def broadsheetref01_half.f (k : Nat) (a0 : Int) : Option (Int) := broadsheetref01_half.l0 k a0 128 1
theorem broadsheetref01_half.mono_l : ∀ k, (∀ y0 y1 y2, LeO (broadsheetref01_half.l0 k y0 y1 y2) (broadsheetref01_half.l0 (k + 1) y0 y1 y2))
  | 0 => fun _ _ _ r h => by simp [broadsheetref01_half.l0] at h
  | k + 1 => by
    have ih0 := broadsheetref01_half.mono_l k
    · intro y0 y1 y2
      unfold broadsheetref01_half.l0
      repeat' first
      | (with_reducible exact ih0 _ _ _)
      | (with_reducible exact LeO.refl _)
      | (with_reducible exact LeO.none _)
      | (with_reducible refine LeO.ite ?_ ?_)
      | (with_reducible refine LeO.bind ?_ (fun _ => ?_))
      | exact ih0 _ _ _
      | exact LeO.none _
      | refine LeO.ite ?_ ?_
      | refine LeO.bind ?_ (fun _ => ?_)
theorem broadsheetref01_half.mono : ∀ a0 k, LeO (broadsheetref01_half.f k a0) (broadsheetref01_half.f (k + 1) a0) := by
  intro a0 k
  have ih0 := broadsheetref01_half.mono_l k
  unfold broadsheetref01_half.f
  repeat' first
      | (with_reducible exact ih0 _ _ _)
      | (with_reducible exact LeO.refl _)
      | (with_reducible exact LeO.none _)
      | (with_reducible refine LeO.ite ?_ ?_)
      | (with_reducible refine LeO.bind ?_ (fun _ => ?_))
      | exact ih0 _ _ _
      | exact LeO.none _
      | refine LeO.ite ?_ ?_
      | refine LeO.bind ?_ (fun _ => ?_)
set_option maxHeartbeats 8000000 in
set_option maxRecDepth 100000 in
theorem broadsheetref01_half.calls (k : Nat) (a0 : Int) (r : Int) (w : World) (h : broadsheetref01_half.f k a0 = some r) :
    Calls Try.prog 105 #[.int .i64 a0] w fun e w' => e = .returned (.int .u64 r) ∧ Drawn0 w w' := by
  have H : (broadsheetref01_half.l0 k a0 128 1) = some r := h
  clear h
  have H' := Aside0.mk H
  clear H
  go_enter Try.func105, Try.ntmps105
  go_wp2
  go_loopg [3, 4] k (fun kq v3 v4 w' => ∃ (x3_1 : Int) (x4_1 : Int), v3 = .int .u64 x3_1 ∧ v4 = .int .i64 x4_1 ∧ Aside0 (broadsheetref01_half.l0 kq a0 x3_1 x4_1 = some r) ∧ Aside0 (kq ≤ k) ∧ Drawn0 w w')
  case atStart => exact ⟨(128), (1), (by first | rfl | (simp; done) | (simp [*]; done)), (by first | rfl | (simp; done) | (simp [*]; done)), H', ⟨Nat.le_refl _⟩, by repeat (first | exact Drawn0.refl _ | apply Drawn0.step)⟩
  case round =>
    clear H'
    try clear c1
    obtain ⟨x3_1, x4_1, rfl, rfl, HA, HK1, ⟨m1, rfl⟩⟩ := hrel
    cases gk with
    | zero => exact absurd HA.out (by simp [broadsheetref01_half.l0])
    | succ k1 =>
      have H := HA.out
      clear HA
      simp only [broadsheetref01_half.l0] at H
      by_cases c2 : x4_1 < a0
      · rw [if_pos c2] at H
        have c2b0 : decide (x4_1 < a0) = true := decide_eq_true c2
        clear c2
        have H' := Aside0.mk H
        clear H
        go_wp2
        go_roundg k1
        case measure => have := HK1.out; omega
        case rel => exact ⟨(IntKind.u64.wrap (x3_1 * 256)), (wrap64 (x4_1 + 1)), (by first | rfl | (simp; done) | (simp [*]; done)), (by first | rfl | (simp; done) | (simp [*]; done)), H', ⟨by have := HK1.out; omega⟩, by repeat (first | exact Drawn0.refl _ | apply Drawn0.step)⟩
      · rw [if_neg c2] at H
        have c2b0 : decide (x4_1 < a0) = false := decide_eq_false c2
        clear c2
        obtain rfl := Option.some.inj H
        go_wp2
        go_ret
        exact ⟨by first | rfl | (simp; done) | (simp [*]; done), by repeat (first | exact Drawn0.refl _ | apply Drawn0.step)⟩

/-! ### broadsheetref01_Bits: function 88 -/
def broadsheetref01_Bits.j0 : Nat → Int → Int → Bool → Option (Int × Int)
  | 0, _, _, _ => none
  | k + 1, x0, x6, x31 => if x31 = true then (some (0, 7)) else (if x0 ≥ 0 then (some (IntKind.u64.wrap (x0), 0)) else (some (IntKind.u64.wrap (x6 + (IntKind.u64.wrap ((IntKind.u64.wrap (x6 - 1)) - (IntKind.u64.wrap (wrap64 (-(wrap64 (x0 + 1)))))))), 0)))
def broadsheetref01_Bits.f (k : Nat) (a0 : Int) (a1 : Int) : Option (Int × Int) := (broadsheetref01_Sized.f a1).bind fun t128 => (if t128 = true then ((broadsheetref01_half.f k a1).bind fun t129 => (if a0 ≥ 0 then (if (IntKind.u64.wrap (a0)) ≥ t129 then (broadsheetref01_Bits.j0 k a0 t129 true) else (if a0 < 0 then (broadsheetref01_Bits.j0 k a0 t129 (decide ((IntKind.u64.wrap (wrap64 (-(wrap64 (a0 + 1))))) ≥ t129))) else (broadsheetref01_Bits.j0 k a0 t129 false))) else (if a0 < 0 then (broadsheetref01_Bits.j0 k a0 t129 (decide ((IntKind.u64.wrap (wrap64 (-(wrap64 (a0 + 1))))) ≥ t129))) else (broadsheetref01_Bits.j0 k a0 t129 false)))) else (some (0, 4)))
theorem broadsheetref01_Bits.mono_l : ∀ k, (∀ y0 y1 y2, LeO (broadsheetref01_Bits.j0 k y0 y1 y2) (broadsheetref01_Bits.j0 (k + 1) y0 y1 y2))
  | 0 => fun _ _ _ r h => by simp [broadsheetref01_Bits.j0] at h
  | k + 1 => by
    have ih0 := broadsheetref01_Bits.mono_l k
    · intro y0 y1 y2
      unfold broadsheetref01_Bits.j0
      repeat' first
      | (with_reducible exact ih0 _ _ _)
      | (with_reducible exact broadsheetref01_half.mono _ _)
      | (with_reducible exact LeO.refl _)
      | (with_reducible exact LeO.none _)
      | (with_reducible refine LeO.ite ?_ ?_)
      | (with_reducible refine LeO.bind ?_ (fun _ => ?_))
      | exact ih0 _ _ _
      | exact broadsheetref01_half.mono _ _
      | exact LeO.none _
      | refine LeO.ite ?_ ?_
      | refine LeO.bind ?_ (fun _ => ?_)
theorem broadsheetref01_Bits.mono : ∀ a0 a1 k, LeO (broadsheetref01_Bits.f k a0 a1) (broadsheetref01_Bits.f (k + 1) a0 a1) := by
  intro a0 a1 k
  have ih0 := broadsheetref01_Bits.mono_l k
  unfold broadsheetref01_Bits.f
  repeat' first
      | (with_reducible exact ih0 _ _ _)
      | (with_reducible exact broadsheetref01_half.mono _ _)
      | (with_reducible exact LeO.refl _)
      | (with_reducible exact LeO.none _)
      | (with_reducible refine LeO.ite ?_ ?_)
      | (with_reducible refine LeO.bind ?_ (fun _ => ?_))
      | exact ih0 _ _ _
      | exact broadsheetref01_half.mono _ _
      | exact LeO.none _
      | refine LeO.ite ?_ ?_
      | refine LeO.bind ?_ (fun _ => ?_)
set_option maxHeartbeats 8000000 in
set_option maxRecDepth 100000 in
theorem broadsheetref01_Bits.calls (k : Nat) (a0 : Int) (a1 : Int) (r1 : Int) (r2 : Int) (w : World) (h : broadsheetref01_Bits.f k a0 a1 = some (r1, r2)) :
    Calls Try.prog 88 #[.int .i64 a0, .int .i64 a1] w fun e w' => e = .returned (.tuple #[.int .u64 r1, .int .i64 r2]) ∧ Drawn0 w w' := by
  have H : ((broadsheetref01_Sized.f a1).bind fun t128 => (if t128 = true then ((broadsheetref01_half.f k a1).bind fun t129 => (if a0 ≥ 0 then (if (IntKind.u64.wrap (a0)) ≥ t129 then (broadsheetref01_Bits.j0 k a0 t129 true) else (if a0 < 0 then (broadsheetref01_Bits.j0 k a0 t129 (decide ((IntKind.u64.wrap (wrap64 (-(wrap64 (a0 + 1))))) ≥ t129))) else (broadsheetref01_Bits.j0 k a0 t129 false))) else (if a0 < 0 then (broadsheetref01_Bits.j0 k a0 t129 (decide ((IntKind.u64.wrap (wrap64 (-(wrap64 (a0 + 1))))) ≥ t129))) else (broadsheetref01_Bits.j0 k a0 t129 false)))) else (some (0, 4)))) = some (r1, r2) := h
  clear h
  replace H := Option.bind_eq_some_iff.mp H
  obtain ⟨t128, A30, H⟩ := H
  replace H : (if t128 = true then ((broadsheetref01_half.f k a1).bind fun t129 => (if a0 ≥ 0 then (if (IntKind.u64.wrap (a0)) ≥ t129 then (broadsheetref01_Bits.j0 k a0 t129 true) else (if a0 < 0 then (broadsheetref01_Bits.j0 k a0 t129 (decide ((IntKind.u64.wrap (wrap64 (-(wrap64 (a0 + 1))))) ≥ t129))) else (broadsheetref01_Bits.j0 k a0 t129 false))) else (if a0 < 0 then (broadsheetref01_Bits.j0 k a0 t129 (decide ((IntKind.u64.wrap (wrap64 (-(wrap64 (a0 + 1))))) ≥ t129))) else (broadsheetref01_Bits.j0 k a0 t129 false)))) else (some (0, 4))) = some (r1, r2) := H
  have A3 := Aside0.mk A30
  clear A30
  by_cases c4 : t128 = true
  · subst c4
    have H1 : ((broadsheetref01_half.f k a1).bind fun t129 => (if a0 ≥ 0 then (if (IntKind.u64.wrap (a0)) ≥ t129 then (broadsheetref01_Bits.j0 k a0 t129 true) else (if a0 < 0 then (broadsheetref01_Bits.j0 k a0 t129 (decide ((IntKind.u64.wrap (wrap64 (-(wrap64 (a0 + 1))))) ≥ t129))) else (broadsheetref01_Bits.j0 k a0 t129 false))) else (if a0 < 0 then (broadsheetref01_Bits.j0 k a0 t129 (decide ((IntKind.u64.wrap (wrap64 (-(wrap64 (a0 + 1))))) ≥ t129))) else (broadsheetref01_Bits.j0 k a0 t129 false)))) = some (r1, r2) := by rw [if_pos rfl] at H; exact H
    clear H
    have H := H1
    clear H1
    replace H := Option.bind_eq_some_iff.mp H
    obtain ⟨t129, A50, H⟩ := H
    replace H : (if a0 ≥ 0 then (if (IntKind.u64.wrap (a0)) ≥ t129 then (broadsheetref01_Bits.j0 k a0 t129 true) else (if a0 < 0 then (broadsheetref01_Bits.j0 k a0 t129 (decide ((IntKind.u64.wrap (wrap64 (-(wrap64 (a0 + 1))))) ≥ t129))) else (broadsheetref01_Bits.j0 k a0 t129 false))) else (if a0 < 0 then (broadsheetref01_Bits.j0 k a0 t129 (decide ((IntKind.u64.wrap (wrap64 (-(wrap64 (a0 + 1))))) ≥ t129))) else (broadsheetref01_Bits.j0 k a0 t129 false))) = some (r1, r2) := H
    have A5 := Aside0.mk A50
    clear A50
    have HC6 := Aside0.mk H
    clear H
    go_enter Try.func88, Try.ntmps88
    go_upto_region 4 with (first | ((with_reducible refine gate_callee (f := 103) rfl ?_); refine goesL_ (some 8) rfl rfl Try.func103 (by kernel_rfl) rfl #[.int .i64 a1] rfl (by (try simp only [List.map_toArray, List.map_cons, List.map_nil]); first | done | rfl | (simp only [List.length_drop, List.length_take]; rfl)) ?_; (with_reducible refine (broadsheetref01_Sized.calls a1 true _ A3.out).mono ?_); rintro e w' ⟨rfl, ⟨nd, rfl⟩⟩; refine ⟨_, rfl, ?_⟩) | ((with_reducible refine gate_callee (f := 105) rfl ?_); refine goesL_ (some 11) rfl rfl Try.func105 (by kernel_rfl) rfl #[.int .i64 a1] rfl (by (try simp only [List.map_toArray, List.map_cons, List.map_nil]); first | done | rfl | (simp only [List.length_drop, List.length_take]; rfl)) ?_; (with_reducible refine (broadsheetref01_half.calls k a1 t129 _ A5.out).mono ?_); rintro e w' ⟨rfl, ⟨nd, rfl⟩⟩; refine ⟨_, rfl, ?_⟩))
    (try simp only [Act.put, List.setIfInBounds_toArray, List.set_cons_zero, List.set_cons_succ])
    go_cut [31] (fun v31 wc => ∃ (kq : Nat) (x31_5 : Bool), v31 = .bool x31_5 ∧ Aside0 (broadsheetref01_Bits.j0 kq a0 t129 x31_5 = some (r1, r2)) ∧ Aside0 (kq ≤ k) ∧ Drawn0 w wc)
    case first =>
      have H := HC6.out
      clear HC6
      by_cases c7 : a0 ≥ 0
      · rw [if_pos c7] at H
        have c7b0 : decide (0 ≤ a0) = true := decide_eq_true c7
        clear c7
        (first | rw [c7b0] | (simp only [i64_w, i32_w]; rw [c7b0]) | skip)
        by_cases c8 : (IntKind.u64.wrap (a0)) ≥ t129
        · rw [if_pos c8] at H
          have c8b0 : decide (t129 ≤ (IntKind.u64.wrap (a0))) = true := decide_eq_true c8
          clear c8
          have H' := Aside0.mk H
          clear H
          go_wp2
          go_meet
          case rel => exact ⟨_, (true), (by first | rfl | (simp; done) | (simp [*]; done)), H', ⟨by first | omega | exact Nat.le_refl _⟩, by repeat (first | exact Drawn0.refl _ | apply Drawn0.step)⟩
        · rw [if_neg c8] at H
          have c8b0 : decide (t129 ≤ (IntKind.u64.wrap (a0))) = false := decide_eq_false c8
          clear c8
          by_cases c9 : a0 < 0
          · rw [if_pos c9] at H
            have c9b0 : decide (a0 < 0) = true := decide_eq_true c9
            clear c9
            have H' := Aside0.mk H
            clear H
            go_wp2
            go_meet
            case rel => exact ⟨_, (decide ((IntKind.u64.wrap (wrap64 (-(wrap64 (a0 + 1))))) ≥ t129)), (by first | rfl | (simp; done) | (simp [*]; done)), H', ⟨by first | omega | exact Nat.le_refl _⟩, by repeat (first | exact Drawn0.refl _ | apply Drawn0.step)⟩
          · rw [if_neg c9] at H
            have c9b0 : decide (a0 < 0) = false := decide_eq_false c9
            clear c9
            have H' := Aside0.mk H
            clear H
            go_wp2
            go_meet
            case rel => exact ⟨_, (false), (by first | rfl | (simp; done) | (simp [*]; done)), H', ⟨by first | omega | exact Nat.le_refl _⟩, by repeat (first | exact Drawn0.refl _ | apply Drawn0.step)⟩
      · rw [if_neg c7] at H
        have c7b0 : decide (0 ≤ a0) = false := decide_eq_false c7
        clear c7
        (first | rw [c7b0] | (simp only [i64_w, i32_w]; rw [c7b0]) | skip)
        by_cases c10 : a0 < 0
        · rw [if_pos c10] at H
          have c10b0 : decide (a0 < 0) = true := decide_eq_true c10
          clear c10
          have H' := Aside0.mk H
          clear H
          go_wp2
          go_meet
          case rel => exact ⟨_, (decide ((IntKind.u64.wrap (wrap64 (-(wrap64 (a0 + 1))))) ≥ t129)), (by first | rfl | (simp; done) | (simp [*]; done)), H', ⟨by first | omega | exact Nat.le_refl _⟩, by repeat (first | exact Drawn0.refl _ | apply Drawn0.step)⟩
        · rw [if_neg c10] at H
          have c10b0 : decide (a0 < 0) = false := decide_eq_false c10
          clear c10
          have H' := Aside0.mk H
          clear H
          go_wp2
          go_meet
          case rel => exact ⟨_, (false), (by first | rfl | (simp; done) | (simp [*]; done)), H', ⟨by first | omega | exact Nat.le_refl _⟩, by repeat (first | exact Drawn0.refl _ | apply Drawn0.step)⟩
    case rest =>
      clear HC6
      try clear c1
      try clear p2
      try clear c4
      try clear p6
      try clear c7
      try clear c7b0
      try clear c8
      try clear c8b0
      try clear c9
      try clear c9b0
      try clear c10
      try clear c10b0
      obtain ⟨kq, x31_5, rfl, HA, HJ5, ⟨mc5, rfl⟩⟩ := hcut
      cases kq with
      | zero => exact absurd HA.out (by simp [broadsheetref01_Bits.j0])
      | succ kj5 =>
        have H := HA.out
        clear HA
        simp only [broadsheetref01_Bits.j0] at H
        by_cases c11 : x31_5 = true
        · subst c11
          have H1 : (some (0, 7)) = some (r1, r2) := by rw [if_pos rfl] at H; exact H
          clear H
          have H := H1
          clear H1
          simp only [Option.some.injEq, Prod.mk.injEq] at H
          obtain ⟨rfl, rfl⟩ := H
          go_wp2
          go_ret2
          exact ⟨by first | rfl | (simp; done) | (simp [*]; done), by repeat (first | exact Drawn0.refl _ | apply Drawn0.step)⟩
        · replace c11 := Bool.eq_false_iff.mpr c11
          subst c11
          have H1 : (if a0 ≥ 0 then (some (IntKind.u64.wrap (a0), 0)) else (some (IntKind.u64.wrap (t129 + (IntKind.u64.wrap ((IntKind.u64.wrap (t129 - 1)) - (IntKind.u64.wrap (wrap64 (-(wrap64 (a0 + 1)))))))), 0))) = some (r1, r2) := by rw [if_neg (show ¬ (false = true) by decide)] at H; exact H
          clear H
          have H := H1
          clear H1
          by_cases c12 : a0 ≥ 0
          · rw [if_pos c12] at H
            have c12b0 : decide (0 ≤ a0) = true := decide_eq_true c12
            clear c12
            simp only [Option.some.injEq, Prod.mk.injEq] at H
            obtain ⟨rfl, rfl⟩ := H
            go_wp2
            go_ret2
            exact ⟨by first | rfl | (simp; done) | (simp [*]; done), by repeat (first | exact Drawn0.refl _ | apply Drawn0.step)⟩
          · rw [if_neg c12] at H
            have c12b0 : decide (0 ≤ a0) = false := decide_eq_false c12
            clear c12
            simp only [Option.some.injEq, Prod.mk.injEq] at H
            obtain ⟨rfl, rfl⟩ := H
            go_wp2
            go_ret2
            exact ⟨by first | rfl | (simp; done) | (simp [*]; done), by repeat (first | exact Drawn0.refl _ | apply Drawn0.step)⟩
  · replace c4 := Bool.eq_false_iff.mpr c4
    subst c4
    have H1 : (some (0, 4)) = some (r1, r2) := by rw [if_neg (show ¬ (false = true) by decide)] at H; exact H
    clear H
    have H := H1
    clear H1
    simp only [Option.some.injEq, Prod.mk.injEq] at H
    obtain ⟨rfl, rfl⟩ := H
    go_enter Try.func88, Try.ntmps88
    go_wp2_with (first | ((with_reducible refine gate_callee (f := 103) rfl ?_); refine goesL_ (some 8) rfl rfl Try.func103 (by kernel_rfl) rfl #[.int .i64 a1] rfl (by (try simp only [List.map_toArray, List.map_cons, List.map_nil]); first | done | rfl | (simp only [List.length_drop, List.length_take]; rfl)) ?_; (with_reducible refine (broadsheetref01_Sized.calls a1 false _ A3.out).mono ?_); rintro e w' ⟨rfl, ⟨nd, rfl⟩⟩; refine ⟨_, rfl, ?_⟩))
    go_ret2
    exact ⟨by first | rfl | (simp; done) | (simp [*]; done), by repeat (first | exact Drawn0.refl _ | apply Drawn0.step)⟩


end Go.Proofs.Ytimalojaiaofkaa.PScriptPuts
namespace Go.Proofs.Ytimalojaiaofkaa.Wd
open Go.RowKit Base Go.Proofs.YtimalojaiaofkaaW.PrintWords Go.Proofs.YtimalojaiaofkaaW.PrintLast Go.Proofs.YtimalojaiaofkaaW.PrintMore Go.Proofs.Ytimalojaiaofkaa.PScriptPuts
theorem rsized_p (s : Int) : broadsheetref01_Sized.f s = some (sz s) := by
  unfold broadsheetref01_Sized.f sz
  by_cases h1 : s = 1
  · simp [h1]
  · by_cases h2 : s = 2
    · simp [h2]
    · by_cases h4 : s = 4
      · simp [h4]
      · simp [h1, h2, h4]
theorem rput_loop (s : Int) (hs : s ≤ 8) : ∀ (j i : Nat) (x : Int) (t : ByteArray) (k : Nat), ((i + j : Nat) : Int) = s → 0 ≤ x → x < 18446744073709551616 → t.size ≤ 1000 + i →
    broadsheetref01_Put.l0 (j + 1 + k) x s t (i : Int) = some (if x / 256 ^ j = 0 then (t ++ strOfNums (le x j), 0) else (⟨#[]⟩, 7))
  | 0, i, x, t, k, h, h0, h1, ht => by
    rw [show 0 + 1 + k = k + 1 from by omega]
    simp only [broadsheetref01_Put.l0]
    rw [if_neg (by omega), le, app_empty]
    by_cases hx : x = 0
    · rw [if_pos hx, if_pos (by simpa using hx)]
    · rw [if_neg hx, if_neg (by simpa using hx)]
  | j + 1, i, x, t, k, h, h0, h1, ht => by
    rw [show j + 1 + 1 + k = (j + 1 + k) + 1 from by omega]
    simp only [broadsheetref01_Put.l0]
    have ew : wrap64 ((i : Int) + 1) = ((i + 1 : Nat) : Int) := by unfold wrap64; omega
    have em : wrap64 (Int.tmod x 256) = x % 256 := by
      rw [Int.tmod_eq_emod_of_nonneg h0]
      unfold wrap64
      omega
    have ed : IntKind.u64.wrap (Int.tdiv x 256) = x / 256 := by
      rw [Int.tdiv_eq_ediv_of_nonneg h0, u64_mod]
      omega
    unfold broadsheetref01_Byte.f
    rw [if_pos (by omega), em, Option.bind_some, if_pos (by rw [strOfNums_size]; simp; omega), ew, ed, show x % 256 % 256 = x % 256 from by omega,
      rput_loop s hs j (i + 1) (x / 256) _ k (by omega) (by omega) (by omega) (by rw [ByteArray.size_append, strOfNums_size]; simp; omega)]
    rw [le, Int.pow_succ, Int.mul_comm, ← Int.ediv_ediv_of_nonneg (by decide), app_assoc, str_app]
    rfl
theorem rput_eq (a s : Int) (k : Nat) (hk : 12 ≤ k) (h0 : 0 ≤ a) (h1 : a < 18446744073709551616) : broadsheetref01_Put.f k a s = some (if sz s then putv a s else (⟨#[]⟩, 4)) := by
  unfold broadsheetref01_Put.f
  rw [rsized_p, Option.bind_some]
  cases h : sz s with
  | false => rfl
  | true =>
    have hs := sz_cases h
    rw [if_pos rfl, if_pos rfl]
    have hp : a / 256 ^ s.toNat = 0 ↔ a < pw s := by
      rcases hs with rfl | rfl | rfl | rfl
      · show a / 256 = 0 ↔ a < 256; omega
      · show a / 65536 = 0 ↔ a < 65536; omega
      · show a / 4294967296 = 0 ↔ a < 4294967296; omega
      · show a / 18446744073709551616 = 0 ↔ a < 18446744073709551616; omega
    obtain ⟨n, rfl⟩ : ∃ n : Nat, s = (n : Int) := ⟨s.toNat, by omega⟩
    have := rput_loop n (by omega) n 0 a ⟨#[]⟩ (k - n - 1) (by omega) h0 h1 (by show 0 ≤ _; omega)
    rw [show n + 1 + (k - n - 1) = k from by omega, empty_app] at this
    refine this.trans ?_
    unfold putv
    rw [Int.toNat_natCast] at hp ⊢
    by_cases hq : a < pw n
    · rw [if_pos hq, if_pos (hp.2 hq)]
    · rw [if_neg hq, if_neg (fun h => hq (hp.1 h))]
theorem rput (a s : Int) (h0 : 0 ≤ a) (h1 : a < 18446744073709551616) (w : World) :
    Calls Try.prog 87 #[.int .u64 a, .int .i64 s] w fun e w' => e = .returned (.tuple #[.string (if sz s then putv a s else (⟨#[]⟩, 4)).1, .int .i64 (if sz s then putv a s else (⟨#[]⟩, 4)).2]) ∧ Below w.heap.size w w' :=
  broadsheetref01_Put.calls 12 a s _ _ w (rput_eq a s 12 (by decide) h0 h1)
end Go.Proofs.Ytimalojaiaofkaa.Wd
namespace Go.Proofs.Ytimalojaiaofkaa.PScriptPuts
open Go.RowKit Go.Proofs.YtimalojaiaofkaaW.PrintWords Go.Proofs.YtimalojaiaofkaaW.PrintLast Go.Proofs.YtimalojaiaofkaaW.PrintMore Base Wd Scr
theorem ssized_of (s : Int) : broadsheetref01_Sized.f s = some (sz s) := by
  unfold broadsheetref01_Sized.f sz
  by_cases h1 : s = 1
  · simp [h1]
  · by_cases h2 : s = 2
    · simp [h2]
    · by_cases h4 : s = 4
      · simp [h4]
      · simp [h1, h2, h4]
theorem half_eq {s : Int} (h : sz s = true) : broadsheetref01_half.f 12 s = some (hf s) := by
  rcases sz_cases h with rfl | rfl | rfl | rfl <;> kernel_rfl
theorem rbits_eq (n s : Int) (h0 : -9223372036854775808 ≤ n) (h1 : n < 9223372036854775808) : broadsheetref01_Bits.f 12 n s = some (if sz s then bitv n s else (0, 4)) := by
  unfold broadsheetref01_Bits.f
  rw [ssized_of, Option.bind_some]
  cases h : sz s with
  | false => rfl
  | true =>
    rw [if_pos rfl, if_pos rfl, half_eq h, Option.bind_some]
    have hh : hf s * 2 = pw s ∧ 128 ≤ hf s ∧ hf s ≤ 9223372036854775808 := by
      rcases sz_cases h with rfl | rfl | rfl | rfl <;> decide
    have hmod : -hf s ≤ n → n < hf s → n % pw s = if 0 ≤ n then n else n + pw s := by
      intro h2 h3
      rcases sz_cases h with rfl | rfl | rfl | rfl
      · have h2 : -128 ≤ n := h2
        have h3 : n < 128 := h3
        show n % 256 = if 0 ≤ n then n else n + 256
        split <;> omega
      · have h2 : -32768 ≤ n := h2
        have h3 : n < 32768 := h3
        show n % 65536 = if 0 ≤ n then n else n + 65536
        split <;> omega
      · have h2 : -2147483648 ≤ n := h2
        have h3 : n < 2147483648 := h3
        show n % 4294967296 = if 0 ≤ n then n else n + 4294967296
        split <;> omega
      · show n % 18446744073709551616 = if 0 ≤ n then n else n + 18446744073709551616
        split <;> omega
    unfold bitv
    generalize n % pw s = l at *
    generalize hf s = f at *
    generalize pw s = p at *
    have hneg : n < 0 → IntKind.u64.wrap (wrap64 (-(wrap64 (n + 1)))) = -(n + 1) := by
      intro hn
      rw [u64_mod]
      unfold wrap64
      omega
    have hpos : 0 ≤ n → IntKind.u64.wrap n = n := by
      intro hn
      rw [u64_mod]
      omega
    by_cases hn : n ≥ 0
    · rw [if_pos hn, hpos hn]
      by_cases hf : n ≥ f
      · rw [if_pos hf, if_neg (by omega)]
        simp [broadsheetref01_Bits.j0]
      · rw [if_neg hf, if_neg (by omega), if_pos (by omega), hmod (by omega) (by omega), if_pos hn]
        simp only [broadsheetref01_Bits.j0]
        rw [if_neg (by decide), if_pos hn, hpos hn]
    · rw [if_neg hn, if_pos (by omega), hneg (by omega)]
      by_cases hf : -(n + 1) ≥ f
      · rw [show decide (-(n + 1) ≥ f) = true from decide_eq_true hf, if_neg (by omega)]
        simp [broadsheetref01_Bits.j0]
      · rw [show decide (-(n + 1) ≥ f) = false from decide_eq_false hf, if_pos (by omega), hmod (by omega) (by omega), if_neg hn]
        simp only [broadsheetref01_Bits.j0]
        rw [if_neg (by decide), if_neg hn, hneg (by omega)]
        congr 2
        rw [u64_mod, u64_mod, u64_mod]
        omega
theorem number_of (n s : Int) (h0 : 0 ≤ n) (h1 : n < 18446744073709551616) (w : World) : Calls Try.prog 64 #[.int .u64 n, .int .i64 s] w fun e w' => e = .returned (.string (nby n s)) ∧ Below w.heap.size w w' := by
  refine broadsheetref45_number.calls 12 n s _ w ?_
  unfold broadsheetref45_number.f
  rw [rput_eq n s 12 (by decide) h0 h1, Option.bind_some]
  rfl
theorem bits_of (n : Int) (h0 : -9223372036854775808 ≤ n) (h1 : n < 9223372036854775808) (w : World) : Calls Try.prog 88 #[.int .i64 n, .int .i64 4] w fun e w' => e = .returned (.tuple #[.int .u64 (bitv n 4).1, .int .i64 (bitv n 4).2]) ∧ Below w.heap.size w w' :=
  (broadsheetref01_Bits.calls 12 n 4 (bitv n 4).1 (bitv n 4).2 w (rbits_eq n 4 h0 h1)).mono fun _ _ hh => ⟨hh.1, drawn_below hh.2⟩
theorem ract_bad {k a E : Int} {s : ByteArray} (h : actE k a s = E) (hE : E ≠ 0) : ract k a s = (⟨#[]⟩, E) := by unfold ract; rw [h, if_pos hE]
theorem ract_good {k a : Int} {s : ByteArray} (h : actE k a s = 0) : ract k a s = (actB k a s, 0) := by unfold ract; rw [h, if_neg (fun h => h rfl)]
def broadsheetref45_act.f (k : Nat) (a0_0 : Int) (a0_1 : Int) (a0_2 : ByteArray) : Option (ByteArray × Int) :=
  if -9223372036854775808 ≤ a0_1 ∧ a0_1 < 9223372036854775808 ∧ a0_2.size ≤ 140737488355328 then some (ract a0_0 a0_1 a0_2) else none
theorem broadsheetref45_act.mono : ∀ a0 a1 a2 k, LeO (broadsheetref45_act.f k a0 a1 a2) (broadsheetref45_act.f (k + 1) a0 a1 a2) := fun _ _ _ _ => LeO.refl _
set_option maxHeartbeats 4000000 in
set_option maxRecDepth 20000 in
theorem ref_act_of (k a : Int) (s : ByteArray) (h0 : -9223372036854775808 ≤ a) (h1 : a < 9223372036854775808) (hz : s.size ≤ 140737488355328) (w : World) :
    Calls Try.prog 65 #[.agg #[.int .i64 k, .int .i64 a, .string s]] w fun e w' => e = .returned (.tuple #[.string (ract k a s).1, .int .i64 (ract k a s).2]) ∧ Below w.heap.size w w' := by
  have b0 : Below w.heap.size w (w.alloc (.cells #[.int .i64 k, .int .i64 a, .string s] 43)) := (Below.refl _ _).alloc (Nat.le_refl _) _
  have g0 : (w.alloc (.cells #[.int .i64 k, .int .i64 a, .string s] 43)).heap[w.heap.size]? = some (.cells #[.int .i64 k, .int .i64 a, .string s] 43 (0, 0)) := heap_alloc_new _ _
  by_cases hk : k ≠ 1 ∧ k ≠ 2
  · have HJ : Hid (ract k a s = (⟨#[]⟩, 4)) := Lib.hid (ract_bad (by unfold actE; rw [if_pos hk]) (by decide))
    have c1 : (k != 1) = true := by simpa using hk.1
    have c2 : (k != 2) = true := by simpa using hk.2
    clear hk
    go_enter Try.func65, Try.ntmps65
    go_wp2
    go_ret2
    exact ⟨by rw [HJ.out]; rfl, b0⟩
  · obtain ⟨W0, hW0⟩ : ∃ W0, W0 = w.alloc (.cells #[.int .i64 k, .int .i64 a, .string s] 43) := ⟨_, rfl⟩
    rw [← hW0] at b0 g0
    by_cases hk1 : k = 1
    · subst hk1
      have N1 := fun W => number_of 1 1 (by decide) (by decide) W
      have B1 := fun W => bits_of a h0 h1 W
      have hbr := bitv_range a
      have N2 := fun W => number_of (bitv a 4).1 4 hbr.1 (by omega) W
      have N3 := fun W => number_of (s.size : Int) 2 (by omega) (by omega) W
      have hs1 := nby_size 1 1 (by decide)
      have hs2 := nby_size (bitv a 4).1 4 (by decide)
      have hs3 := nby_size (s.size : Int) 2 (by decide)
      have hw : IntKind.u64.wrap (s.size : Int) = (s.size : Int) := wrapu64 (by omega) (by omega)
      go_enter Try.func65, Try.ntmps65
      go_wp2_with fail
      rw [← hW0]
      clear hW0
      refine (N1 _).mono ?_
      rintro e w1 ⟨rfl, b1⟩
      have bb1 := bstep b0 b1
      have g1 := (b1.block _ (blk_lt g0)).trans g0
      clear b0 b1 g0 N1
      have c1 : w1.cell? ⟨w.heap.size, 1, none⟩ = some (.int .i64 a) := blk_cell g1 1
      have c0 : w1.cell? ⟨w.heap.size, 0, none⟩ = some (.int .i64 1) := blk_cell g1 0
      go_wp2_with fail
      refine (B1 _).mono ?_
      rintro e w2 ⟨rfl, b2⟩
      have bb2 := bstep bb1 b2
      have g2 := (b2.block _ (blk_lt g1)).trans g1
      have c2 : w2.cell? ⟨w.heap.size, 2, none⟩ = some (.string s) := blk_cell g2 2
      clear b2 bb1 g1 c0 c1 B1
      by_cases he : (bitv a 4).2 = 0
      · have hsum1 : ¬ 9223372036854775807 < (nby 1 1).size + (nby (bitv a 4).1 4).size := by omega
        have hP : actP 1 a = nby 1 1 ++ nby (bitv a 4).1 4 := if_pos rfl
        have hps := actP_size 1 a
        by_cases hl : 65535 < s.size
        · have HJ : Hid (ract 1 a s = (⟨#[]⟩, 3)) := Lib.hid (ract_bad (by unfold actE; rw [if_neg (by decide), if_neg (fun h => h.2 he), if_pos hl]) (by decide))
          have hl2 : (65535 : Int) < (s.size : Int) := by omega
          clear hl hps hs1 hs2 hs3 hbr hP
          generalize bitv a 4 = V at *
          obtain ⟨V1, V2⟩ := V
          dsimp only at he hsum1 N2
          subst he
          go_wp2_with fail
          refine (N2 _).mono ?_
          rintro e w3 ⟨rfl, b3⟩
          have bb3 := bstep bb2 b3
          have g3 := (b3.block _ (blk_lt g2)).trans g2
          have c3 : w3.cell? ⟨w.heap.size, 2, none⟩ = some (.string s) := blk_cell g3 2
          clear b3 bb2 g2 c2
          go_wp2
          go_ret2
          exact ⟨by rw [HJ.out]; rfl, bb3⟩
        · have HJ : Hid (ract 1 a s = (actB 1 a s, 0)) := Lib.hid (ract_good (by unfold actE; rw [if_neg (by decide), if_neg (fun h => h.2 he), if_neg hl]))
          have hl2 : ¬ (65535 : Int) < (s.size : Int) := by omega
          have HB : Hid (actB 1 a s = nby 1 1 ++ nby (bitv a 4).1 4 ++ nby s.size 2 ++ s) := Lib.hid (by unfold actB; rw [hP])
          have hsum2 : ¬ 9223372036854775807 < (nby 1 1).size + (nby (bitv a 4).1 4).size + (nby s.size 2).size := by omega
          have hsum3 : ¬ 9223372036854775807 < (nby 1 1).size + (nby (bitv a 4).1 4).size + (nby s.size 2).size + s.size := by omega
          clear hl hps hs1 hs2 hs3 hbr hP
          generalize bitv a 4 = V at *
          obtain ⟨V1, V2⟩ := V
          dsimp only at he hsum1 hsum2 hsum3 N2 HB
          subst he
          go_wp2_with fail
          refine (N2 _).mono ?_
          rintro e w3 ⟨rfl, b3⟩
          have bb3 := bstep bb2 b3
          have g3 := (b3.block _ (blk_lt g2)).trans g2
          have c3 : w3.cell? ⟨w.heap.size, 2, none⟩ = some (.string s) := blk_cell g3 2
          have hlt3 := blk_lt g3
          clear b3 bb2 g2 c2 g3
          go_wp2
          refine Reg.wp_plan (S := fun w' => w'.cell? ⟨w.heap.size, 2, none⟩ = some (.string s)) 12 (.fl 0 (.fl 1 (.fl 2 (.fl 3 (.fl 4 (.fl 7 (.fl 8 (.one 5 (.fl 6 (.fl 9 (.fl 10 (.fl 11 .done)))))))))))) (by kernel_rfl) (by kernel_rfl) (by kernel_rfl) (by kernel_rfl) (fun _ _ _ d _ h => by cases d <;> exact h) ?_ (fun hHeld => ?_)
          · exact c3
          refine Reg.G_on (o := { dst := some 38, op := Op.move (Operand.tmp 4), type := 9, pos := "ref.go:42", after := #[], guard := Option.none }) (v := ?_) (by rfl) ?_ (fun wS hSw => ?_) ?_
          rotate_left
          · kernel_rfl
          · (try dsimp only at hSw); go_simp; (try with_reducible rfl)
          try simp only [Act.put, List.setIfInBounds_toArray, List.set_cons_zero, List.set_cons_succ]
          refine Reg.G_on (o := { dst := some 39, op := Op.fieldAddr 43 (Operand.tmp 1) 2, type := 0, pos := "ref.go:42", after := #[], guard := Option.none }) (v := ?_) (by rfl) ?_ (fun wS hSw => ?_) ?_
          rotate_left
          · kernel_rfl
          · (try dsimp only at hSw); go_simp; (try with_reducible rfl)
          try simp only [Act.put, List.setIfInBounds_toArray, List.set_cons_zero, List.set_cons_succ]
          refine Reg.G_on (o := { dst := some 40, op := Op.load 9 (Operand.tmp 39), type := 9, pos := "ref.go:42", after := #[{ on := 1, ground := Ground.data }], guard := Option.none }) (v := ?_) (by rfl) ?_ (fun wS hSw => ?_) ?_
          rotate_left
          · kernel_rfl
          · (try dsimp only at hSw); go_simp; (try with_reducible rfl)
          try simp only [Act.put, List.setIfInBounds_toArray, List.set_cons_zero, List.set_cons_succ]
          refine Reg.G_on (o := { dst := some 41, op := Op.call { callee := Callee.builtin Builtin.len, args := #[Operand.tmp 40], argTypes := #[9] }, type := 3, pos := "ref.go:42", after := #[{ on := 2, ground := Ground.data }], guard := Option.none }) (v := ?_) (by rfl) ?_ (fun wS hSw => ?_) ?_
          rotate_left
          · kernel_rfl
          · (try dsimp only at hSw); go_simp; (try with_reducible rfl)
          try simp only [Act.put, List.setIfInBounds_toArray, List.set_cons_zero, List.set_cons_succ]
          refine Reg.G_on (o := { dst := some 42, op := Op.convert 3 58 (Operand.tmp 41), type := 58, pos := "ref.go:42", after := #[{ on := 3, ground := Ground.data }], guard := Option.none }) (v := ?_) (by rfl) ?_ (fun wS hSw => ?_) ?_
          rotate_left
          · kernel_rfl
          · (try dsimp only at hSw); go_simp; (try with_reducible rfl)
          try simp only [Act.put, List.setIfInBounds_toArray, List.set_cons_zero, List.set_cons_succ]
          refine Reg.G_on (o := { dst := some 45, op := Op.fieldAddr 43 (Operand.tmp 1) 2, type := 0, pos := "ref.go:42", after := #[], guard := Option.none }) (v := ?_) (by rfl) ?_ (fun wS hSw => ?_) ?_
          rotate_left
          · kernel_rfl
          · (try dsimp only at hSw); go_simp; (try with_reducible rfl)
          try simp only [Act.put, List.setIfInBounds_toArray, List.set_cons_zero, List.set_cons_succ]
          refine Reg.G_on (o := { dst := some 46, op := Op.load 9 (Operand.tmp 45), type := 9, pos := "ref.go:42", after := #[{ on := 7, ground := Ground.data }], guard := Option.none }) (v := ?_) (by rfl) ?_ (fun wS hSw => ?_) ?_
          rotate_left
          · kernel_rfl
          · (try dsimp only at hSw); go_simp; (try with_reducible rfl)
          try simp only [Act.put, List.setIfInBounds_toArray, List.set_cons_zero, List.set_cons_succ]
          refine Reg.G_step (o := { dst := some 43, op := Op.call { callee := Callee.value (Operand.func 64), args := #[Operand.tmp 42, Operand.const (Value.int IntKind.i64 2)], argTypes := #[58, 3] }, type := 9, pos := "ref.go:42", after := #[{ on := 4, ground := Ground.data }], guard := Option.none }) (by rfl) ?_ (fun K hK => ?_)
          · kernel_rfl
          go_simp
          refine (N3 _).mono ?_
          rintro e w' ⟨rfl, hb⟩
          refine hK.out _ _ ?_ (fun hHeld => ?_)
          · exact cbel hb hHeld hlt3
          clear hK K
          try simp only [Act.put, List.setIfInBounds_toArray, List.set_cons_zero, List.set_cons_succ]
          have bb4 := bstep bb3 ((Below.refl w3.heap.size w3).drew.trans hb)
          refine Reg.G_on (o := { dst := some 44, op := Op.binOp BinOp.add 9 (Operand.tmp 38) (Operand.tmp 43) 9, type := 9, pos := "ref.go:42", after := #[{ on := 0, ground := Ground.data }, { on := 5, ground := Ground.data }], guard := Option.none }) (v := ?_) (by rfl) ?_ (fun wS hSw => ?_) ?_
          rotate_left
          · kernel_rfl
          · (try dsimp only at hSw); go_simp; (try with_reducible rfl)
          try simp only [Act.put, List.setIfInBounds_toArray, List.set_cons_zero, List.set_cons_succ]
          refine Reg.G_on (o := { dst := some 47, op := Op.binOp BinOp.add 9 (Operand.tmp 44) (Operand.tmp 46) 9, type := 9, pos := "ref.go:42", after := #[{ on := 6, ground := Ground.data }, { on := 8, ground := Ground.data }], guard := Option.none }) (v := ?_) (by rfl) ?_ (fun wS hSw => ?_) ?_
          rotate_left
          · kernel_rfl
          · (try dsimp only at hSw); go_simp; (try with_reducible rfl)
          try simp only [Act.put, List.setIfInBounds_toArray, List.set_cons_zero, List.set_cons_succ]
          refine Reg.G_on (o := { dst := some 2, op := Op.assign (Operand.tmp 47), type := 9, pos := "ref.go:42", after := #[{ on := 9, ground := Ground.data }, { on := 5, ground := Ground.chain }, { on := 0, ground := Ground.phase }, { on := 1, ground := Ground.phase }, { on := 2, ground := Ground.phase }, { on := 3, ground := Ground.phase }, { on := 4, ground := Ground.phase }, { on := 5, ground := Ground.phase }, { on := 6, ground := Ground.phase }, { on := 7, ground := Ground.phase }, { on := 8, ground := Ground.phase }, { on := 9, ground := Ground.phase }], guard := Option.none }) (v := ?_) (by rfl) ?_ (fun wS hSw => ?_) ?_
          rotate_left
          · kernel_rfl
          · (try dsimp only at hSw); go_simp; (try with_reducible rfl)
          try simp only [Act.put, List.setIfInBounds_toArray, List.set_cons_zero, List.set_cons_succ]
          refine Reg.G_on (o := { dst := some 3, op := Op.assign (Operand.const (Value.int IntKind.i64 0)), type := 24, pos := "ref.go:42", after := #[{ on := 10, ground := Ground.chain }, { on := 0, ground := Ground.phase }, { on := 1, ground := Ground.phase }, { on := 2, ground := Ground.phase }, { on := 3, ground := Ground.phase }, { on := 4, ground := Ground.phase }, { on := 5, ground := Ground.phase }, { on := 6, ground := Ground.phase }, { on := 7, ground := Ground.phase }, { on := 8, ground := Ground.phase }, { on := 9, ground := Ground.phase }, { on := 10, ground := Ground.phase }], guard := Option.none }) (v := ?_) (by rfl) ?_ (fun wS hSw => ?_) ?_
          rotate_left
          · kernel_rfl
          · (try dsimp only at hSw); go_simp; (try with_reducible rfl)
          try simp only [Act.put, List.setIfInBounds_toArray, List.set_cons_zero, List.set_cons_succ]
          refine Reg.G_done ?_
          go_wp2
          go_ret2
          exact ⟨by rw [HJ.out, HB.out]; rfl, bb4⟩
      · have HJ : Hid (ract 1 a s = (⟨#[]⟩, 7)) := Lib.hid (ract_bad (by unfold actE; rw [if_neg (by decide), if_pos ⟨rfl, he⟩]) (by decide))
        have hq : ((bitv a 4).2 != 0) = true := by simpa using he
        generalize bitv a 4 = V at *
        obtain ⟨V1, V2⟩ := V
        dsimp only at hq he
        go_wp2
        go_ret2
        exact ⟨by rw [HJ.out]; rfl, bb2⟩
    · have hk2 : k = 2 := by omega
      subst hk2
      have N1 := fun W => number_of 2 1 (by decide) (by decide) W
      have N3 := fun W => number_of (s.size : Int) 2 (by omega) (by omega) W
      have hs1 := nby_size 2 1 (by decide)
      have hs3 := nby_size (s.size : Int) 2 (by decide)
      have hw : IntKind.u64.wrap (s.size : Int) = (s.size : Int) := wrapu64 (by omega) (by omega)
      have hP : actP 2 a = nby 2 1 := if_neg (by decide)
      by_cases hl : 65535 < s.size
      · have HJ : Hid (ract 2 a s = (⟨#[]⟩, 3)) := Lib.hid (ract_bad (by unfold actE; rw [if_neg (by decide), if_neg (fun h => absurd h.1 (by decide)), if_pos hl]) (by decide))
        have hl2 : (65535 : Int) < (s.size : Int) := by omega
        clear hl hs1 hs3 hP
        go_enter Try.func65, Try.ntmps65
        go_wp2_with fail
        rw [← hW0]
        clear hW0
        refine (N1 _).mono ?_
        rintro e w1 ⟨rfl, b1⟩
        have bb1 := bstep b0 b1
        have g1 := (b1.block _ (blk_lt g0)).trans g0
        have c0 : w1.cell? ⟨w.heap.size, 0, none⟩ = some (.int .i64 2) := blk_cell g1 0
        have c2 : w1.cell? ⟨w.heap.size, 2, none⟩ = some (.string s) := blk_cell g1 2
        go_wp2
        go_ret2
        exact ⟨by rw [HJ.out]; rfl, bb1⟩
      · have HJ : Hid (ract 2 a s = (nby 2 1 ++ nby s.size 2 ++ s, 0)) := Lib.hid ((ract_good (by unfold actE; rw [if_neg (by decide), if_neg (fun h => absurd h.1 (by decide)), if_neg hl])).trans (by unfold actB; rw [hP]))
        have hl2 : ¬ (65535 : Int) < (s.size : Int) := by omega
        have hsum2 : ¬ 9223372036854775807 < (nby 2 1).size + (nby s.size 2).size := by omega
        have hsum3 : ¬ 9223372036854775807 < (nby 2 1).size + (nby s.size 2).size + s.size := by omega
        clear hl hs1 hs3 hP
        go_enter Try.func65, Try.ntmps65
        go_wp2_with fail
        rw [← hW0]
        clear hW0
        refine (N1 _).mono ?_
        rintro e w1 ⟨rfl, b1⟩
        have bb1 := bstep b0 b1
        have g1 := (b1.block _ (blk_lt g0)).trans g0
        have c0 : w1.cell? ⟨w.heap.size, 0, none⟩ = some (.int .i64 2) := blk_cell g1 0
        have c2 : w1.cell? ⟨w.heap.size, 2, none⟩ = some (.string s) := blk_cell g1 2
        have hlt1 := blk_lt g1
        clear b1 b0 g0 g1
        go_wp2
        refine Reg.wp_plan (S := fun w' => w'.cell? ⟨w.heap.size, 2, none⟩ = some (.string s)) 12 (.fl 0 (.fl 1 (.fl 2 (.fl 3 (.fl 4 (.fl 7 (.fl 8 (.one 5 (.fl 6 (.fl 9 (.fl 10 (.fl 11 .done)))))))))))) (by kernel_rfl) (by kernel_rfl) (by kernel_rfl) (by kernel_rfl) (fun _ _ _ d _ h => by cases d <;> exact h) ?_ (fun hHeld => ?_)
        · exact c2
        refine Reg.G_on (o := { dst := some 38, op := Op.move (Operand.tmp 4), type := 9, pos := "ref.go:42", after := #[], guard := Option.none }) (v := ?_) (by rfl) ?_ (fun wS hSw => ?_) ?_
        rotate_left
        · kernel_rfl
        · (try dsimp only at hSw); go_simp; (try with_reducible rfl)
        try simp only [Act.put, List.setIfInBounds_toArray, List.set_cons_zero, List.set_cons_succ]
        refine Reg.G_on (o := { dst := some 39, op := Op.fieldAddr 43 (Operand.tmp 1) 2, type := 0, pos := "ref.go:42", after := #[], guard := Option.none }) (v := ?_) (by rfl) ?_ (fun wS hSw => ?_) ?_
        rotate_left
        · kernel_rfl
        · (try dsimp only at hSw); go_simp; (try with_reducible rfl)
        try simp only [Act.put, List.setIfInBounds_toArray, List.set_cons_zero, List.set_cons_succ]
        refine Reg.G_on (o := { dst := some 40, op := Op.load 9 (Operand.tmp 39), type := 9, pos := "ref.go:42", after := #[{ on := 1, ground := Ground.data }], guard := Option.none }) (v := ?_) (by rfl) ?_ (fun wS hSw => ?_) ?_
        rotate_left
        · kernel_rfl
        · (try dsimp only at hSw); go_simp; (try with_reducible rfl)
        try simp only [Act.put, List.setIfInBounds_toArray, List.set_cons_zero, List.set_cons_succ]
        refine Reg.G_on (o := { dst := some 41, op := Op.call { callee := Callee.builtin Builtin.len, args := #[Operand.tmp 40], argTypes := #[9] }, type := 3, pos := "ref.go:42", after := #[{ on := 2, ground := Ground.data }], guard := Option.none }) (v := ?_) (by rfl) ?_ (fun wS hSw => ?_) ?_
        rotate_left
        · kernel_rfl
        · (try dsimp only at hSw); go_simp; (try with_reducible rfl)
        try simp only [Act.put, List.setIfInBounds_toArray, List.set_cons_zero, List.set_cons_succ]
        refine Reg.G_on (o := { dst := some 42, op := Op.convert 3 58 (Operand.tmp 41), type := 58, pos := "ref.go:42", after := #[{ on := 3, ground := Ground.data }], guard := Option.none }) (v := ?_) (by rfl) ?_ (fun wS hSw => ?_) ?_
        rotate_left
        · kernel_rfl
        · (try dsimp only at hSw); go_simp; (try with_reducible rfl)
        try simp only [Act.put, List.setIfInBounds_toArray, List.set_cons_zero, List.set_cons_succ]
        refine Reg.G_on (o := { dst := some 45, op := Op.fieldAddr 43 (Operand.tmp 1) 2, type := 0, pos := "ref.go:42", after := #[], guard := Option.none }) (v := ?_) (by rfl) ?_ (fun wS hSw => ?_) ?_
        rotate_left
        · kernel_rfl
        · (try dsimp only at hSw); go_simp; (try with_reducible rfl)
        try simp only [Act.put, List.setIfInBounds_toArray, List.set_cons_zero, List.set_cons_succ]
        refine Reg.G_on (o := { dst := some 46, op := Op.load 9 (Operand.tmp 45), type := 9, pos := "ref.go:42", after := #[{ on := 7, ground := Ground.data }], guard := Option.none }) (v := ?_) (by rfl) ?_ (fun wS hSw => ?_) ?_
        rotate_left
        · kernel_rfl
        · (try dsimp only at hSw); go_simp; (try with_reducible rfl)
        try simp only [Act.put, List.setIfInBounds_toArray, List.set_cons_zero, List.set_cons_succ]
        refine Reg.G_step (o := { dst := some 43, op := Op.call { callee := Callee.value (Operand.func 64), args := #[Operand.tmp 42, Operand.const (Value.int IntKind.i64 2)], argTypes := #[58, 3] }, type := 9, pos := "ref.go:42", after := #[{ on := 4, ground := Ground.data }], guard := Option.none }) (by rfl) ?_ (fun K hK => ?_)
        · kernel_rfl
        go_simp
        refine (N3 _).mono ?_
        rintro e w' ⟨rfl, hb⟩
        refine hK.out _ _ ?_ (fun hHeld => ?_)
        · exact cbel hb hHeld hlt1
        clear hK K
        try simp only [Act.put, List.setIfInBounds_toArray, List.set_cons_zero, List.set_cons_succ]
        have bb4 := bstep bb1 ((Below.refl w1.heap.size w1).drew.trans hb)
        refine Reg.G_on (o := { dst := some 44, op := Op.binOp BinOp.add 9 (Operand.tmp 38) (Operand.tmp 43) 9, type := 9, pos := "ref.go:42", after := #[{ on := 0, ground := Ground.data }, { on := 5, ground := Ground.data }], guard := Option.none }) (v := ?_) (by rfl) ?_ (fun wS hSw => ?_) ?_
        rotate_left
        · kernel_rfl
        · (try dsimp only at hSw); go_simp; (try with_reducible rfl)
        try simp only [Act.put, List.setIfInBounds_toArray, List.set_cons_zero, List.set_cons_succ]
        refine Reg.G_on (o := { dst := some 47, op := Op.binOp BinOp.add 9 (Operand.tmp 44) (Operand.tmp 46) 9, type := 9, pos := "ref.go:42", after := #[{ on := 6, ground := Ground.data }, { on := 8, ground := Ground.data }], guard := Option.none }) (v := ?_) (by rfl) ?_ (fun wS hSw => ?_) ?_
        rotate_left
        · kernel_rfl
        · (try dsimp only at hSw); go_simp; (try with_reducible rfl)
        try simp only [Act.put, List.setIfInBounds_toArray, List.set_cons_zero, List.set_cons_succ]
        refine Reg.G_on (o := { dst := some 2, op := Op.assign (Operand.tmp 47), type := 9, pos := "ref.go:42", after := #[{ on := 9, ground := Ground.data }, { on := 5, ground := Ground.chain }, { on := 0, ground := Ground.phase }, { on := 1, ground := Ground.phase }, { on := 2, ground := Ground.phase }, { on := 3, ground := Ground.phase }, { on := 4, ground := Ground.phase }, { on := 5, ground := Ground.phase }, { on := 6, ground := Ground.phase }, { on := 7, ground := Ground.phase }, { on := 8, ground := Ground.phase }, { on := 9, ground := Ground.phase }], guard := Option.none }) (v := ?_) (by rfl) ?_ (fun wS hSw => ?_) ?_
        rotate_left
        · kernel_rfl
        · (try dsimp only at hSw); go_simp; (try with_reducible rfl)
        try simp only [Act.put, List.setIfInBounds_toArray, List.set_cons_zero, List.set_cons_succ]
        refine Reg.G_on (o := { dst := some 3, op := Op.assign (Operand.const (Value.int IntKind.i64 0)), type := 24, pos := "ref.go:42", after := #[{ on := 10, ground := Ground.chain }, { on := 0, ground := Ground.phase }, { on := 1, ground := Ground.phase }, { on := 2, ground := Ground.phase }, { on := 3, ground := Ground.phase }, { on := 4, ground := Ground.phase }, { on := 5, ground := Ground.phase }, { on := 6, ground := Ground.phase }, { on := 7, ground := Ground.phase }, { on := 8, ground := Ground.phase }, { on := 9, ground := Ground.phase }, { on := 10, ground := Ground.phase }], guard := Option.none }) (v := ?_) (by rfl) ?_ (fun wS hSw => ?_) ?_
        rotate_left
        · kernel_rfl
        · (try dsimp only at hSw); go_simp; (try with_reducible rfl)
        try simp only [Act.put, List.setIfInBounds_toArray, List.set_cons_zero, List.set_cons_succ]
        refine Reg.G_done ?_
        go_wp2
        go_ret2
        exact ⟨by rw [HJ.out]; rfl, bb4⟩
theorem broadsheetref45_act.calls (k : Nat) (a0_0 : Int) (a0_1 : Int) (a0_2 : ByteArray) (r1 : ByteArray) (r2 : Int) (w : World) (h : broadsheetref45_act.f k a0_0 a0_1 a0_2 = some (r1, r2)) :
    Calls Try.prog 65 #[.agg #[.int .i64 a0_0, .int .i64 a0_1, .string a0_2]] w fun e w' => e = .returned (.tuple #[.string r1, .int .i64 r2]) ∧ Below w.heap.size w w' := by
  unfold broadsheetref45_act.f at h
  by_cases hc : -9223372036854775808 ≤ a0_1 ∧ a0_1 < 9223372036854775808 ∧ a0_2.size ≤ 140737488355328
  · rw [if_pos hc] at h
    have h2 := Option.some.inj h
    have := ref_act_of a0_0 a0_1 a0_2 hc.1 hc.2.1 hc.2.2 w
    rw [h2] at this
    exact this
  · rw [if_neg hc] at h
    cases h
end Go.Proofs.Ytimalojaiaofkaa.PScriptPuts
