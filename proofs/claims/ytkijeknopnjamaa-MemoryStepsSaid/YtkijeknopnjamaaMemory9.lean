import Derived.Test.YtkijeknopnjamaaMemory8
set_option linter.unusedVariables false
set_option linter.unusedSimpArgs false
namespace Go.Proofs.Ytkijeknopnjamaa.Memory
open Go.RowKit Base Sp Flat CrcP Go.Proofs.Ytkijeknopnjamaa.PMemorySteps Go.Proofs.YtkijeknopnjamaaW.PrintWords Go.Proofs.YtkijeknopnjamaaW.PrintLast Go.Proofs.YtkijeknopnjamaaW.PrintMore Go.Lib
theorem drawn_below {w w' : World} (h : Drawn0 w w') : Below w.heap.size w w' := by
  obtain ⟨n, rfl⟩ := h.out
  exact pw_below_drewN (Below.refl _ _) n
theorem rnew (z : Int) (w : World) : Calls Try.prog 40 #[.int .i64 z] w fun e w' => e = .returned (.string (tx (zeros (msz z)))) ∧ Below w.heap.size w w' :=
  broadsheetref31_New.calls z _ w (f_new z)
theorem rload (l : List UInt8) (hl : l.length ≤ 4096) (a n : Int) (w : World) : Calls Try.prog 41 #[.string (tx l), .int .i64 a, .int .i64 n] w fun e w' => e = .returned (.tuple #[.string (tx (ldb l a n)), .int .i64 (ldc l a n)]) ∧ Below w.heap.size w w' :=
  (broadsheetref31_Load.calls (tx l) a n _ _ w (f_load l a n hl)).mono fun _ _ h => ⟨h.1, drawn_below h.2⟩
theorem rstore (l : List UInt8) (hl : l.length ≤ 4096) (a : Int) (s : ByteArray) (w : World) : Calls Try.prog 42 #[.string (tx l), .int .i64 a, .string s] w fun e w' => e = .returned (.tuple #[.string (tx (stb l a s)), .int .i64 (stc l a s)]) ∧ Below w.heap.size w w' :=
  (broadsheetref31_Store.calls (tx l) a s _ _ w (f_store l a s hl)).mono fun _ _ h => ⟨h.1, drawn_below h.2⟩
theorem load2 (F : Nat → Prop) (b : Nat) (l : List UInt8) (a n : Int) (w : World) (h : MR w F b l) (hm : l.length ≤ 4096) :
    Calls Try.prog 27 #[.pointer (some ⟨b, 0, none⟩), .int .i64 a, .int .i64 n] w fun e w' => e = .returned (.tuple #[.string (tx (ldb l a n)), .int .i64 (ldc l a n)]) ∧ Below w.heap.size w w' := load F b l a n w h (by omega)
theorem text2 (F : Nat → Prop) (b : Nat) (l : List UInt8) (w : World) (h : MR w F b l) (hm : l.length ≤ 4096) :
    Calls Try.prog 26 #[.pointer (some ⟨b, 0, none⟩)] w fun e w' => e = .returned (.string (tx l)) ∧ Below w.heap.size w w' := text F b l w h (by omega)
theorem msum2 (F : Nat → Prop) (b : Nat) (l : List UInt8) (w : World) (h : MR w F b l) (hm : l.length ≤ 4096) :
    Calls Try.prog 43 #[.pointer (some ⟨b, 0, none⟩)] w fun e w' => e = .returned (.int .u32 (num (CrcP.sum (Crc.bytes (tx l))))) ∧ Below w.heap.size w w' := msum F b l w h (by omega)
theorem size2 (F : Nat → Prop) (b : Nat) (l : List UInt8) (w : World) (h : MR w F b l) :
    Calls Try.prog 28 #[.pointer (some ⟨b, 0, none⟩)] w fun e w' => e = .returned (.int .i64 ((tx l).size : Int)) ∧ w = w' := size_ F b l w h
theorem rsum (l : List UInt8) (w : World) (hm : l.length ≤ 4096) : Calls Try.prog 44 #[.string (tx l)] w fun e w' => e = .returned (.int .u32 (num (CrcP.sum (Crc.bytes (tx l))))) ∧ Below w.heap.size w w' :=
  CrcR.refsum (tx l) w (by rw [tx_size]; omega)
set_option maxRecDepth 20000 in
set_option maxHeartbeats 4000000 in
theorem steps (z : Int) (A : Option Addr) (c : Nat) (l : List (Bool × Int × Int × ByteArray)) (w : World) (hC : Kd.C ks w A l.length l) (hl : (l.length : Int) < 140737488351233) (hs : ∀ x ∈ l, x.2.2.2.size ≤ 140737488351232) :
    Calls Try.prog 11 #[.int .i64 z, .slice A l.length c] w fun e w' => e = .returned (.bool true) ∧ Below w.heap.size w w' := by
  have hM := much A c l w hC hl hs
  clear hl hs
  go_enter Try.func11, Try.ntmps11
  go_wp2_with fail
  refine hM.mono ?_
  rintro e w' ⟨⟨r, rfl, hr⟩, rfl⟩
  clear hM
  cases r with
  | true =>
    go_wp2_with fail
    refine (awake _).mono ?_
    rintro e w' ⟨rfl, hb⟩
    go_wp2
    go_ret
    exact ⟨rfl, hb⟩
  | false =>
    have hl := hr rfl
    clear hr
    go_wp2_with fail
    refine (new z w).mono ?_
    rintro e w1 ⟨rfl, m1, b1, s1⟩
    obtain ⟨F, m1, hF⟩ : ∃ F : Nat → Prop, MR w1 F (w.heap.size + 1) (zeros (msz z)) ∧ ∀ k, F k → w.heap.size ≤ k := ⟨_, m1, fun k hk => by
      have hk : k = w.heap.size ∨ k = w.heap.size + 1 := hk
      omega⟩
    generalize w.heap.size + 1 = pb at *
    clear s1
    go_wp2_with fail
    refine (rnew z w1).mono ?_
    rintro e w2 ⟨rfl, b2⟩
    have m2 := m1.below b2
    have bb := bstep b1 b2
    clear m1 b1 b2
    go_wp2
    go_loopw [6, 7] (fun v i wr => ∃ (k : Nat) (L : List UInt8), k ≤ l.length ∧ v = .string (tx L) ∧ i = .int .i64 (k : Int) ∧ MR wr F pb L ∧ L.length = msz z ∧ Below w.heap.size w wr) (fun _ i _ => (l.length - (intOf i).toNat))
    case atStart => exact ⟨0, zeros (msz z), by omega, rfl, rfl, m2, zeros_len _, bb⟩
    case round =>
      clear m2 bb
      obtain ⟨k, L, hk, rfl, rfl, m1, hL, bb⟩ := hrel
      have k0 : (0 : Int) ≤ (k : Int) := by omega
      have HLm : Hid (L.length ≤ 4096) := Lib.hid (by have := msz_le z; omega)
      by_cases hlt : k < l.length
      · have k2 : (k : Int) < (l.length : Int) := by omega
        obtain ⟨ad, rfl, c0, c1, c2, c3⟩ := step_cells (Kd.C_below hC bb) k hlt
        generalize l[k] = x at *
        obtain ⟨x1, x2, x3, xs⟩ := x
        dsimp only at c0 c1 c2 c3
        obtain ⟨W1, hW1⟩ : ∃ W1, W1 = wr.alloc (.cells #[.bool x1, .int .i64 x2, .int .i64 x3, .string xs] 47) := ⟨_, rfl⟩
        have bw : Below wr.heap.size wr W1 := by rw [hW1]; exact (Below.refl _ _).alloc (Nat.le_refl _) _
        have hlw : wr.heap.size < W1.heap.size := by rw [hW1]; simp
        have e0 : W1.cell? ⟨wr.heap.size, 0, none⟩ = some (.bool x1) := by rw [hW1]; simp
        have e1 : W1.cell? ⟨wr.heap.size, 1, none⟩ = some (.int .i64 x2) := by rw [hW1]; simp
        have e2 : W1.cell? ⟨wr.heap.size, 2, none⟩ = some (.int .i64 x3) := by rw [hW1]; simp
        have e3 : W1.cell? ⟨wr.heap.size, 3, none⟩ = some (.string xs) := by rw [hW1]; simp
        have mw := m1.below bw
        have bbw := bstep bb bw
        have hlF := m1.lt
        cases x1 with
        | true =>
          go_wp2_with fail
          rw [← hW1]
          clear hW1
          refine (load2 F pb L x2 x3 W1 mw HLm.out).mono ?_
          rintro e w3 ⟨rfl, b3⟩
          have m3 := mw.below b3
          have bb3 := bstep bbw b3
          have e1 := cbel b3 e1 hlw
          have e2 := cbel b3 e2 hlw
          clear b3 mw bbw
          go_wp2_with fail
          refine (rload L HLm.out x2 x3 w3).mono ?_
          rintro e wa ⟨rfl, b4⟩
          have ma := m3.below b4
          have ba := bstep bb3 b4
          clear b4 m3 bb3
          generalize tx (ldb L x2 x3) = d
          generalize ldc L x2 x3 = q
          have T5 := text2 F pb L wa ma HLm.out
          have T6 := fun w h => size2 F pb L w h
          go_wp2_with fail
          refine T5.mono ?_
          rintro e wt ⟨rfl, bt⟩
          have mt := ma.below bt
          have bbt := bstep ba bt
          clear T5 ma ba bt
          go_wp2_with fail
          refine (T6 _ mt).mono ?_
          rintro e wu ⟨rfl, rfl⟩
          clear T6
          go_wp2
          go_roundw
          case rel => exact ⟨k + 1, _, by omega, rfl, by go_num, mt, hL, bbt⟩
          case measure => simp [intOf]; omega
        | false =>
          go_wp2_with fail
          rw [← hW1]
          clear hW1
          refine (rstore L HLm.out x2 xs W1).mono ?_
          rintro e w3 ⟨rfl, b3⟩
          have m3 := mw.below b3
          have bb3 := bstep bbw b3
          have e1 := cbel b3 e1 hlw
          have e3 := cbel b3 e3 hlw
          clear b3 mw bbw
          go_wp2_with fail
          refine (store F pb L x2 xs w3 m3 (by have := HLm.out; omega)).mono ?_
          rintro e wa ⟨rfl, ma, mm⟩
          have ba := mm.below bb3 bb3.size hF
          have hL2 := (stb_len L x2 xs).trans hL
          have HL2 : Hid ((stb L x2 xs).length ≤ 4096) := Lib.hid (by rw [stb_len]; exact HLm.out)
          clear m3 bb3 mm
          generalize stb L x2 xs = L2 at *
          generalize stc L x2 xs = q
          have T5 := text2 F pb L2 wa ma HL2.out
          have T6 := fun w h => size2 F pb L2 w h
          go_wp2_with fail
          refine T5.mono ?_
          rintro e wt ⟨rfl, bt⟩
          have mt := ma.below bt
          have bbt := bstep ba bt
          clear T5 ma ba bt
          go_wp2_with fail
          refine (T6 _ mt).mono ?_
          rintro e wu ⟨rfl, rfl⟩
          clear T6
          go_wp2
          go_roundw
          case rel => exact ⟨k + 1, _, by omega, rfl, by go_num, mt, hL2, bbt⟩
          case measure => simp [intOf]; omega
      · have hk2 : ¬ ((k : Int) < (l.length : Int)) := by omega
        have hz := HLm.out
        by_cases h3 : 300 < L.length
        · have h4 : decide ((300 : Int) < ((tx L).size : Int)) = true := decide_eq_true (by rw [tx_size]; omega)
          clear h3 hz
          go_wp2_with fail
          refine (text2 F pb L _ m1 HLm.out).mono ?_
          rintro e w3 ⟨rfl, b3⟩
          have b03 := bstep bb b3
          go_wp2_with fail
          refine (awake _).mono ?_
          rintro e w4 ⟨rfl, b4⟩
          have b04 := bstep b03 b4
          go_wp2
          go_ret
          exact ⟨rfl, b04⟩
        · have h4 : decide ((300 : Int) < ((tx L).size : Int)) = false := decide_eq_false (by rw [tx_size]; omega)
          clear h3 hz
          go_wp2_with fail
          refine (msum2 F pb L _ m1 HLm.out).mono ?_
          rintro e w3 ⟨rfl, b3⟩
          have m3 := m1.below b3
          have b03 := bstep bb b3
          go_wp2_with fail
          refine (rsum L _ HLm.out).mono ?_
          rintro e w4 ⟨rfl, b4⟩
          have m4 := m3.below b4
          have b04 := bstep b03 b4
          generalize num (CrcP.sum (Crc.bytes (tx L))) = q
          go_wp2_with fail
          refine (text2 F pb L _ m4 HLm.out).mono ?_
          rintro e w5 ⟨rfl, b5⟩
          have b05 := bstep b04 b5
          go_wp2_with fail
          refine (awake _).mono ?_
          rintro e w6 ⟨rfl, b6⟩
          have b06 := bstep b05 b6
          go_wp2
          go_ret
          exact ⟨rfl, b06⟩
end Go.Proofs.Ytkijeknopnjamaa.Memory
