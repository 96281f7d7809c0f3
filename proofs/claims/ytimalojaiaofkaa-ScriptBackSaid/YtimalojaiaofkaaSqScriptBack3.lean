import Derived.Test.YtimalojaiaofkaaSqScriptBack2
set_option linter.unusedVariables false
set_option linter.unusedSimpArgs false
namespace Go.Proofs.Ytimalojaiaofkaa.PScriptTakes
open Go.RowKit Go.Proofs.YtimalojaiaofkaaW.PrintWords Go.Proofs.YtimalojaiaofkaaW.PrintLast Go.Proofs.YtimalojaiaofkaaW.PrintMore Go.Proofs.Ytimalojaiaofkaa Base Wd
/-- A number's place and the place behind, or -1. -/
def tkM (b : ByteArray) (a s : Int) : Int × Int := if a < 0 then (0, -1) else if a + s ≤ b.size then ((takev b a s).1, a + s) else (0, -1)
theorem takev_in {b : ByteArray} {a s : Int} (h0 : 0 ≤ a) (hs : 0 ≤ s) (h : a + s ≤ b.size) : (takev b a s).2 = 0 := by
  unfold takev
  rw [if_neg (by omega), if_neg (by omega)]
theorem takev_out {b : ByteArray} {a s : Int} (h0 : 0 ≤ a) (h : ¬ a + s ≤ b.size) : (takev b a s).2 ≠ 0 := by
  unfold takev
  split
  · decide
  · rw [if_pos (by omega)]
    decide
theorem tk_eq (b : ByteArray) (a s : Int) (hs : sz s = true) (hz : b.size ≤ 4611686018427387904) (h1 : a ≤ 4611686018427387904) : broadsheetref45_take.f 12 b a s = some (tkM b a s) := by
  unfold broadsheetref45_take.f tkM
  have hs2 := sz_cases hs
  by_cases h0 : a < 0
  · rw [if_pos h0, if_pos h0]
  · rw [if_neg h0, if_neg h0, WdT.rtake_eq b a s 12 (by decide) (by omega) (by omega) (by omega), if_pos hs, Option.bind_some]
    have hw : wrap64 (a + s) = a + s := by unfold wrap64; omega
    by_cases h : a + s ≤ b.size
    · rw [if_pos h, if_pos (takev_in (by omega) (by omega) h), hw]
    · rw [if_neg h, if_neg (takev_out (by omega) h)]
theorem tk (b : ByteArray) (a s : Int) (hs : sz s = true) (hz : b.size ≤ 4611686018427387904) (h1 : a ≤ 4611686018427387904) (w : World) :
    Calls Try.prog 92 #[.string b, .int .i64 a, .int .i64 s] w fun e w' => e = .returned (.tuple #[.int .u64 (tkM b a s).1, .int .i64 (tkM b a s).2]) ∧ Below w.heap.size w w' :=
  (broadsheetref45_take.calls 12 b a s _ _ w (tk_eq b a s hs hz h1)).mono fun _ _ h => ⟨h.1, drawn_below h.2⟩
theorem takev_range (b : ByteArray) (a s : Int) (hs : sz s = true) : 0 ≤ (takev b a s).1 ∧ (takev b a s).1 < pw s := by
  unfold takev
  have hp : 0 < pw s := by rcases sz_cases hs with rfl | rfl | rfl | rfl <;> decide
  split
  · exact ⟨Int.le_refl _, hp⟩
  · split
    · exact ⟨Int.le_refl _, hp⟩
    · exact ⟨lev_lo _ (fun i => bt_range b _) _, by rw [← pw_pow hs]; exact lev_hi _ (fun i => bt_range b _) _⟩
theorem rsign (n : Int) (h0 : 0 ≤ n) (h1 : n < 18446744073709551616) (w : World) : Calls Try.prog 93 #[.int .u64 n, .int .i64 4] w fun e w' => e = .returned (.int .i64 (sgn n 4)) ∧ Below w.heap.size w w' :=
  (broadsheetref01_Sign.calls 12 n 4 _ w (WdST.rsign_eq n 4 h0 h1)).mono fun _ _ h => ⟨h.1, drawn_below h.2⟩
theorem tk_range (b : ByteArray) (a s : Int) (hs : sz s = true) : (0 ≤ (tkM b a s).1 ∧ (tkM b a s).1 < pw s) ∧ ((tkM b a s).2 = -1 ∨ (0 ≤ (tkM b a s).2 ∧ (tkM b a s).2 ≤ b.size)) := by
  have hp : 0 < pw s := by rcases sz_cases hs with rfl | rfl | rfl | rfl <;> decide
  have hs0 : 0 < s := by rcases sz_cases hs with rfl | rfl | rfl | rfl <;> decide
  unfold tkM
  split
  · exact ⟨⟨Int.le_refl _, hp⟩, .inl rfl⟩
  · split
    · exact ⟨takev_range b a s hs, .inr ⟨by dsimp only; omega, by assumption⟩⟩
    · exact ⟨⟨Int.le_refl _, hp⟩, .inl rfl⟩
/-- The action at a place: what it is, the place behind, what is wrong. -/
def oneM (b : ByteArray) (a : Int) : Int × Int × ByteArray × Int × Int :=
  if (tkM b a 1).2 < 0 then (0, 0, ⟨#[]⟩, 0, 2) else if (tkM b a 1).1 ≠ 1 ∧ (tkM b a 1).1 ≠ 2 then (0, 0, ⟨#[]⟩, 0, 4) else
  if (tkM b (if (tkM b a 1).1 = 1 then (tkM b (tkM b a 1).2 4).2 else (tkM b a 1).2) 2).2 < 0 ∨ (tkM b (if (tkM b a 1).1 = 1 then (tkM b (tkM b a 1).2 4).2 else (tkM b a 1).2) 2).1 > (b.size : Int) - (tkM b (if (tkM b a 1).1 = 1 then (tkM b (tkM b a 1).2 4).2 else (tkM b a 1).2) 2).2 then (0, 0, ⟨#[]⟩, 0, 2) else
  ((tkM b a 1).1, if (tkM b a 1).1 = 1 then sgn (tkM b (tkM b a 1).2 4).1 4 else 0, b.extract (tkM b (if (tkM b a 1).1 = 1 then (tkM b (tkM b a 1).2 4).2 else (tkM b a 1).2) 2).2.toNat ((tkM b (if (tkM b a 1).1 = 1 then (tkM b (tkM b a 1).2 4).2 else (tkM b a 1).2) 2).2 + (tkM b (if (tkM b a 1).1 = 1 then (tkM b (tkM b a 1).2 4).2 else (tkM b a 1).2) 2).1).toNat, (tkM b (if (tkM b a 1).1 = 1 then (tkM b (tkM b a 1).2 4).2 else (tkM b a 1).2) 2).2 + (tkM b (if (tkM b a 1).1 = 1 then (tkM b (tkM b a 1).2 4).2 else (tkM b a 1).2) 2).1, 0)
def One (r : Int × Int × ByteArray × Int × Int) (w : World) (e : Ending) (w' : World) : Prop := e = .returned (.tuple #[.agg #[.int .i64 r.1, .int .i64 r.2.1, .string r.2.2.1], .int .i64 r.2.2.2.1, .int .i64 r.2.2.2.2]) ∧ Below w.heap.size w w'
theorem three_set {W : World} {r : Nat} {t : TypeId} {a0 a1 a2 : Value} (v0 v1 v2 : Value) (h : W.heap[r]? = some (.cells #[a0, a1, a2] t (0, 0))) :
    (((W.setCell ⟨r, 0, none⟩ v0).setCell ⟨r, 1, none⟩ v1).setCell ⟨r, 2, none⟩ v2).heap[r]? = some (.cells #[v0, v1, v2] t (0, 0)) := by
  have := blk_set (blk_set (blk_set h 0 v0) 1 v1) 2 v2
  simpa using this
set_option maxHeartbeats 2000000 in
set_option maxRecDepth 20000 in
theorem one_of (b : ByteArray) (a : Int) (w : World) (hz : b.size ≤ 4611686018427387904) (h0 : 0 ≤ a) (h1 : a ≤ b.size) :
    Calls Try.prog 68 #[.string b, .int .i64 a] w fun e w' => One (oneM b a) w e w' := by
  have HM : Hid (oneM b a = if (tkM b a 1).2 < 0 then (0, 0, ⟨#[]⟩, 0, 2) else if (tkM b a 1).1 ≠ 1 ∧ (tkM b a 1).1 ≠ 2 then (0, 0, ⟨#[]⟩, 0, 4) else
  if (tkM b (if (tkM b a 1).1 = 1 then (tkM b (tkM b a 1).2 4).2 else (tkM b a 1).2) 2).2 < 0 ∨ (tkM b (if (tkM b a 1).1 = 1 then (tkM b (tkM b a 1).2 4).2 else (tkM b a 1).2) 2).1 > (b.size : Int) - (tkM b (if (tkM b a 1).1 = 1 then (tkM b (tkM b a 1).2 4).2 else (tkM b a 1).2) 2).2 then (0, 0, ⟨#[]⟩, 0, 2) else
  ((tkM b a 1).1, if (tkM b a 1).1 = 1 then sgn (tkM b (tkM b a 1).2 4).1 4 else 0, b.extract (tkM b (if (tkM b a 1).1 = 1 then (tkM b (tkM b a 1).2 4).2 else (tkM b a 1).2) 2).2.toNat ((tkM b (if (tkM b a 1).1 = 1 then (tkM b (tkM b a 1).2 4).2 else (tkM b a 1).2) 2).2 + (tkM b (if (tkM b a 1).1 = 1 then (tkM b (tkM b a 1).2 4).2 else (tkM b a 1).2) 2).1).toNat, (tkM b (if (tkM b a 1).1 = 1 then (tkM b (tkM b a 1).2 4).2 else (tkM b a 1).2) 2).2 + (tkM b (if (tkM b a 1).1 = 1 then (tkM b (tkM b a 1).2 4).2 else (tkM b a 1).2) 2).1, 0)) := Lib.hid rfl
  have T1 := fun W => tk b a 1 rfl hz (by omega) W
  have R1 := tk_range b a 1 rfl
  generalize tkM b a 1 = p at *
  obtain ⟨p1, p2⟩ := p
  dsimp only at HM T1 R1
  by_cases c1 : p2 < 0
  · have HJ := Lib.hid (HM.out.trans (if_pos c1))
    clear HM R1 hz h0 h1
    unfold One
    rw [HJ.out]
    go_enter Try.func68, Try.ntmps68
    go_wp2_with fail
    refine (T1 _).mono ?_
    rintro e w1 ⟨rfl, b1⟩
    have g1 := (b1.block _ (blk_lt (heap_alloc_new w _))).trans (heap_alloc_new w _)
    have bb1 : Below w.heap.size w w1 := ((Below.refl _ _).alloc (Nat.le_refl _) _).trans (b1.mono (by simp))
    clear b1 T1
    have x0 : w1.cell? ⟨w.heap.size, 0, none⟩ = some (.int .i64 0) := blk_cell g1 0
    have x1 : w1.cell? ⟨w.heap.size, 1, none⟩ = some (.int .i64 0) := blk_cell g1 1
    have x2 : w1.cell? ⟨w.heap.size, 2, none⟩ = some (.string ⟨#[]⟩) := blk_cell g1 2
    have y0 := blk_frozen g1 0
    have y1 := blk_frozen g1 1
    have y2 := blk_frozen g1 2
    go_wp2
    have z := three_set (.int .i64 0) (.int .i64 0) (.string ⟨#[]⟩) g1
    have e0 := blk_cell z 0
    have e1 := blk_cell z 1
    have e2 := blk_cell z 2
    exact bodyPost_ret (v := .tuple #[.agg #[.int .i64 0, .int .i64 0, .string ⟨#[]⟩], .int .i64 0, .int .i64 2]) (by simp [results, Try.results68, go_sem, e0, e1, e2]) rfl ⟨rfl, ((bb1.setCell (Nat.le_refl _) _).setCell (Nat.le_refl _) _).setCell (Nat.le_refl _) _⟩
  · have HM2 := Lib.hid (HM.out.trans (if_neg c1))
    clear HM
    by_cases c2 : p1 ≠ 1 ∧ p1 ≠ 2
    · have HJ := Lib.hid (HM2.out.trans (if_pos c2))
      have q1 : (p1 == 1) = false := beq_eq_false_iff_ne.2 c2.1
      have q2 : (p1 == 2) = false := beq_eq_false_iff_ne.2 c2.2
      have q3 : (p1 != 1) = true := bne_iff_ne.2 c2.1
      have q4 : (p1 != 2) = true := bne_iff_ne.2 c2.2
      clear HM2 R1 hz h0 h1 c2
      unfold One
      rw [HJ.out]
      go_enter Try.func68, Try.ntmps68
      go_wp2_with fail
      refine (T1 _).mono ?_
      rintro e w1 ⟨rfl, b1⟩
      have g1 := (b1.block _ (blk_lt (heap_alloc_new w _))).trans (heap_alloc_new w _)
      have bb1 : Below w.heap.size w w1 := ((Below.refl _ _).alloc (Nat.le_refl _) _).trans (b1.mono (by simp))
      clear b1 T1
      have x0 : w1.cell? ⟨w.heap.size, 0, none⟩ = some (.int .i64 0) := blk_cell g1 0
      have x1 : w1.cell? ⟨w.heap.size, 1, none⟩ = some (.int .i64 0) := blk_cell g1 1
      have x2 : w1.cell? ⟨w.heap.size, 2, none⟩ = some (.string ⟨#[]⟩) := blk_cell g1 2
      have y0 := blk_frozen g1 0
      have y1 := blk_frozen g1 1
      have y2 := blk_frozen g1 2
      go_wp2
      have z := three_set (.int .i64 0) (.int .i64 0) (.string ⟨#[]⟩) g1
      have e0 := blk_cell z 0
      have e1 := blk_cell z 1
      have e2 := blk_cell z 2
      exact bodyPost_ret (v := .tuple #[.agg #[.int .i64 0, .int .i64 0, .string ⟨#[]⟩], .int .i64 0, .int .i64 4]) (by simp [results, Try.results68, go_sem, e0, e1, e2]) rfl ⟨rfl, ((bb1.setCell (Nat.le_refl _) _).setCell (Nat.le_refl _) _).setCell (Nat.le_refl _) _⟩
    · have HM3 := Lib.hid (HM2.out.trans (if_neg c2))
      clear HM2
      by_cases c3 : p1 = 1
      · subst c3
        have HM4 := HM3.out
        simp only [↓reduceIte] at HM4
        have T2 := fun W => tk b p2 4 rfl hz (by omega) W
        have R2 := tk_range b p2 4 rfl
        generalize tkM b p2 4 = q at *
        obtain ⟨q1, q2⟩ := q
        dsimp only at HM4 T2 R2
        have TS := fun W => rsign q1 R2.1.1 (by have := R2.1.2; have e : pw 4 = 4294967296 := rfl; omega) W
        have T3 := fun W => tk b q2 2 rfl hz (by omega) W
        have R3 := tk_range b q2 2 rfl
        generalize tkM b q2 2 = r at *
        obtain ⟨r1, r2⟩ := r
        generalize sgn q1 4 = n at *
        dsimp only at HM4 T3 R3
        have HM := Lib.hid HM4
        have HR := Lib.hid R3
        have HZ := Lib.hid hz
        clear HM4 R3 R2 HM3 R1 hz h0 h1 c2
        by_cases c4 : r2 < 0
        · have HJ := Lib.hid (HM.out.trans (if_pos (.inl c4)))
          unfold One
          rw [HJ.out]
          go_enter Try.func68, Try.ntmps68
          go_wp2_with fail
          refine (T1 _).mono ?_
          rintro e w1 ⟨rfl, b1⟩
          have g1 := (b1.block _ (blk_lt (heap_alloc_new w _))).trans (heap_alloc_new w _)
          have bb1 : Below w.heap.size w w1 := ((Below.refl _ _).alloc (Nat.le_refl _) _).trans (b1.mono (by simp))
          clear b1 T1
          go_wp2_with fail
          refine (T2 _).mono ?_
          rintro e w2 ⟨rfl, b2⟩
          have g2 := (b2.block _ (by simp; exact Nat.lt_succ_of_lt (blk_lt g1))).trans ((Lib.alloc_old w1 _ _ (blk_lt g1)).trans g1)
          have h2 := (b2.block _ (blk_lt (heap_alloc_new w1 _))).trans (heap_alloc_new w1 _)
          have bb2 : Below w.heap.size w w2 := (bb1.alloc bb1.size _).trans (b2.mono (by simp; exact Nat.le_succ_of_le bb1.size))
          have hne : w.heap.size ≠ w1.heap.size := Nat.ne_of_lt (blk_lt g1)
          have hge : w.heap.size ≤ w1.heap.size := bb1.size
          clear b2 T2 bb1 g1
          go_wp2_with fail
          refine (TS _).mono ?_
          rintro e w3 ⟨rfl, b3⟩
          have g3 := (b3.block _ (blk_lt g2)).trans g2
          have h3 := (b3.block _ (blk_lt h2)).trans h2
          have bb3 := bstep bb2 b3
          clear b3 TS bb2 g2 h2
          have k1 : w3.cell? ⟨w1.heap.size, 1, none⟩ = some (.int .i64 0) := blk_cell h3 1
          have kf := blk_frozen h3 1
          have h4 : (w3.setCell ⟨w1.heap.size, 1, none⟩ (.int .i64 n)).heap[w1.heap.size]? = some (.cells #[.int .i64 1, .int .i64 n, .string ⟨#[]⟩] 43 (0, 0)) := by simpa using blk_set h3 1 (.int .i64 n)
          have g4 := (Below.heap_setCell w3 ⟨w1.heap.size, 1, none⟩ (.int .i64 n) w.heap.size hne).trans g3
          have bb4 : Below w.heap.size w (w3.setCell ⟨w1.heap.size, 1, none⟩ (.int .i64 n)) := bb3.setCell hge _
          go_wp2_with fail
          refine (T3 _).mono ?_
          rintro e w5 ⟨rfl, b5⟩
          have g5 := (b5.block _ (blk_lt g4)).trans g4
          have h5 := (b5.block _ (blk_lt h4)).trans h4
          have bb5 := bstep bb4 b5
          clear b5 T3 k1 kf bb4 bb3 g3 h3 g4 h4
          have x0 : w5.cell? ⟨w.heap.size, 0, none⟩ = some (.int .i64 0) := blk_cell g5 0
          have x1 : w5.cell? ⟨w.heap.size, 1, none⟩ = some (.int .i64 0) := blk_cell g5 1
          have x2 : w5.cell? ⟨w.heap.size, 2, none⟩ = some (.string ⟨#[]⟩) := blk_cell g5 2
          have y0 := blk_frozen g5 0
          have y1 := blk_frozen g5 1
          have y2 := blk_frozen g5 2
          go_wp2
          have z := three_set (.int .i64 0) (.int .i64 0) (.string ⟨#[]⟩) g5
          have e0 := blk_cell z 0
          have e1 := blk_cell z 1
          have e2 := blk_cell z 2
          exact bodyPost_ret (v := .tuple #[.agg #[.int .i64 0, .int .i64 0, .string ⟨#[]⟩], .int .i64 0, .int .i64 2]) (by simp [results, Try.results68, go_sem, e0, e1, e2]) rfl ⟨rfl, ((bb5.setCell (Nat.le_refl _) _).setCell (Nat.le_refl _) _).setCell (Nat.le_refl _) _⟩
        · by_cases c5 : r1 > (b.size : Int) - r2
          · have HJ := Lib.hid (HM.out.trans (if_pos (.inr c5)))
            have hw1 : wrap64 r1 = r1 := by have := HR.out.1; have e : pw 2 = 65536 := rfl; unfold wrap64; omega
            have hw2 : wrap64 ((b.size : Int) - r2) = (b.size : Int) - r2 := by have := HR.out; have := HZ.out; unfold wrap64; omega
            have c6 : (b.size : Int) - r2 < r1 := c5
            unfold One
            rw [HJ.out]
            go_enter Try.func68, Try.ntmps68
            go_wp2_with fail
            refine (T1 _).mono ?_
            rintro e w1 ⟨rfl, b1⟩
            have g1 := (b1.block _ (blk_lt (heap_alloc_new w _))).trans (heap_alloc_new w _)
            have bb1 : Below w.heap.size w w1 := ((Below.refl _ _).alloc (Nat.le_refl _) _).trans (b1.mono (by simp))
            clear b1 T1
            go_wp2_with fail
            refine (T2 _).mono ?_
            rintro e w2 ⟨rfl, b2⟩
            have g2 := (b2.block _ (by simp; exact Nat.lt_succ_of_lt (blk_lt g1))).trans ((Lib.alloc_old w1 _ _ (blk_lt g1)).trans g1)
            have h2 := (b2.block _ (blk_lt (heap_alloc_new w1 _))).trans (heap_alloc_new w1 _)
            have bb2 : Below w.heap.size w w2 := (bb1.alloc bb1.size _).trans (b2.mono (by simp; exact Nat.le_succ_of_le bb1.size))
            have hne : w.heap.size ≠ w1.heap.size := Nat.ne_of_lt (blk_lt g1)
            have hge : w.heap.size ≤ w1.heap.size := bb1.size
            clear b2 T2 bb1 g1
            go_wp2_with fail
            refine (TS _).mono ?_
            rintro e w3 ⟨rfl, b3⟩
            have g3 := (b3.block _ (blk_lt g2)).trans g2
            have h3 := (b3.block _ (blk_lt h2)).trans h2
            have bb3 := bstep bb2 b3
            clear b3 TS bb2 g2 h2
            have k1 : w3.cell? ⟨w1.heap.size, 1, none⟩ = some (.int .i64 0) := blk_cell h3 1
            have kf := blk_frozen h3 1
            have h4 : (w3.setCell ⟨w1.heap.size, 1, none⟩ (.int .i64 n)).heap[w1.heap.size]? = some (.cells #[.int .i64 1, .int .i64 n, .string ⟨#[]⟩] 43 (0, 0)) := by simpa using blk_set h3 1 (.int .i64 n)
            have g4 := (Below.heap_setCell w3 ⟨w1.heap.size, 1, none⟩ (.int .i64 n) w.heap.size hne).trans g3
            have bb4 : Below w.heap.size w (w3.setCell ⟨w1.heap.size, 1, none⟩ (.int .i64 n)) := bb3.setCell hge _
            go_wp2_with fail
            refine (T3 _).mono ?_
            rintro e w5 ⟨rfl, b5⟩
            have g5 := (b5.block _ (blk_lt g4)).trans g4
            have h5 := (b5.block _ (blk_lt h4)).trans h4
            have bb5 := bstep bb4 b5
            clear b5 T3 k1 kf bb4 bb3 g3 h3 g4 h4
            have x0 : w5.cell? ⟨w.heap.size, 0, none⟩ = some (.int .i64 0) := blk_cell g5 0
            have x1 : w5.cell? ⟨w.heap.size, 1, none⟩ = some (.int .i64 0) := blk_cell g5 1
            have x2 : w5.cell? ⟨w.heap.size, 2, none⟩ = some (.string ⟨#[]⟩) := blk_cell g5 2
            have y0 := blk_frozen g5 0
            have y1 := blk_frozen g5 1
            have y2 := blk_frozen g5 2
            go_wp2
            have z := three_set (.int .i64 0) (.int .i64 0) (.string ⟨#[]⟩) g5
            have e0 := blk_cell z 0
            have e1 := blk_cell z 1
            have e2 := blk_cell z 2
            exact bodyPost_ret (v := .tuple #[.agg #[.int .i64 0, .int .i64 0, .string ⟨#[]⟩], .int .i64 0, .int .i64 2]) (by simp [results, Try.results68, go_sem, e0, e1, e2]) rfl ⟨rfl, ((bb5.setCell (Nat.le_refl _) _).setCell (Nat.le_refl _) _).setCell (Nat.le_refl _) _⟩
          · have HJ := Lib.hid (HM.out.trans (if_neg (fun h => h.elim c4 c5)))
            have hw1 : wrap64 r1 = r1 := by have := HR.out.1; have e : pw 2 = 65536 := rfl; unfold wrap64; omega
            have hw2 : wrap64 ((b.size : Int) - r2) = (b.size : Int) - r2 := by have := HR.out; have := HZ.out; unfold wrap64; omega
            have hw3 : wrap64 (r2 + r1) = r2 + r1 := by have := HR.out; have := HZ.out; have e : pw 2 = 65536 := rfl; unfold wrap64; omega
            have k1 : 0 ≤ r2 := by omega
            have k2 : r2 ≤ r2 + r1 := by have := HR.out.1; omega
            have k3 : r2 + r1 ≤ b.size := by omega
            have c6 : r1 ≤ (b.size : Int) - r2 := by omega
            have k4 : 0 ≤ r2 + r1 := by omega
            clear c5
            unfold One
            rw [HJ.out]
            go_enter Try.func68, Try.ntmps68
            go_wp2_with fail
            refine (T1 _).mono ?_
            rintro e w1 ⟨rfl, b1⟩
            have g1 := (b1.block _ (blk_lt (heap_alloc_new w _))).trans (heap_alloc_new w _)
            have bb1 : Below w.heap.size w w1 := ((Below.refl _ _).alloc (Nat.le_refl _) _).trans (b1.mono (by simp))
            clear b1 T1
            go_wp2_with fail
            refine (T2 _).mono ?_
            rintro e w2 ⟨rfl, b2⟩
            have g2 := (b2.block _ (by simp; exact Nat.lt_succ_of_lt (blk_lt g1))).trans ((Lib.alloc_old w1 _ _ (blk_lt g1)).trans g1)
            have h2 := (b2.block _ (blk_lt (heap_alloc_new w1 _))).trans (heap_alloc_new w1 _)
            have bb2 : Below w.heap.size w w2 := (bb1.alloc bb1.size _).trans (b2.mono (by simp; exact Nat.le_succ_of_le bb1.size))
            have hne : w.heap.size ≠ w1.heap.size := Nat.ne_of_lt (blk_lt g1)
            have hge : w.heap.size ≤ w1.heap.size := bb1.size
            clear b2 T2 bb1 g1
            go_wp2_with fail
            refine (TS _).mono ?_
            rintro e w3 ⟨rfl, b3⟩
            have g3 := (b3.block _ (blk_lt g2)).trans g2
            have h3 := (b3.block _ (blk_lt h2)).trans h2
            have bb3 := bstep bb2 b3
            clear b3 TS bb2 g2 h2
            have k1 : w3.cell? ⟨w1.heap.size, 1, none⟩ = some (.int .i64 0) := blk_cell h3 1
            have kf := blk_frozen h3 1
            have h4 : (w3.setCell ⟨w1.heap.size, 1, none⟩ (.int .i64 n)).heap[w1.heap.size]? = some (.cells #[.int .i64 1, .int .i64 n, .string ⟨#[]⟩] 43 (0, 0)) := by simpa using blk_set h3 1 (.int .i64 n)
            have g4 := (Below.heap_setCell w3 ⟨w1.heap.size, 1, none⟩ (.int .i64 n) w.heap.size hne).trans g3
            have bb4 : Below w.heap.size w (w3.setCell ⟨w1.heap.size, 1, none⟩ (.int .i64 n)) := bb3.setCell hge _
            go_wp2_with fail
            refine (T3 _).mono ?_
            rintro e w5 ⟨rfl, b5⟩
            have g5 := (b5.block _ (blk_lt g4)).trans g4
            have h5 := (b5.block _ (blk_lt h4)).trans h4
            have bb5 := bstep bb4 b5
            clear b5 T3 k1 kf bb4 bb3 g3 h3 g4 h4
            have x0 : w5.cell? ⟨w.heap.size, 0, none⟩ = some (.int .i64 0) := blk_cell g5 0
            have x1 : w5.cell? ⟨w.heap.size, 1, none⟩ = some (.int .i64 0) := blk_cell g5 1
            have x2 : w5.cell? ⟨w.heap.size, 2, none⟩ = some (.string ⟨#[]⟩) := blk_cell g5 2
            have y0 := blk_frozen g5 0
            have y1 := blk_frozen g5 1
            have y2 := blk_frozen g5 2
            have x3 : w5.cell? ⟨w1.heap.size, 0, none⟩ = some (.int .i64 1) := blk_cell h5 0
            have x4 : w5.cell? ⟨w1.heap.size, 1, none⟩ = some (.int .i64 n) := blk_cell h5 1
            have x5 : w5.cell? ⟨w1.heap.size, 2, none⟩ = some (.string ⟨#[]⟩) := blk_cell h5 2
            have y5 := blk_frozen h5 2
            clear HR HZ HM HJ
            go_wp2
            generalize b.extract r2.toNat (r2 + r1).toNat = S at *
            have g6 := (Below.heap_setCell w5 ⟨w1.heap.size, 2, none⟩ (.string S) w.heap.size hne).trans g5
            have z := three_set (.int .i64 1) (.int .i64 n) (.string S) g6
            have bb6 : Below w.heap.size w (w5.setCell ⟨w1.heap.size, 2, none⟩ (.string S)) := bb5.setCell hge _
            have bb7 := ((bb6.setCell (Nat.le_refl _) (p := ⟨w.heap.size, 0, none⟩) (.int .i64 1)).setCell (Nat.le_refl _) (p := ⟨w.heap.size, 1, none⟩) (.int .i64 n)).setCell (Nat.le_refl _) (p := ⟨w.heap.size, 2, none⟩) (.string S)
            obtain ⟨W, hW⟩ : ∃ W, W = (((w5.setCell ⟨w1.heap.size, 2, none⟩ (.string S)).setCell ⟨w.heap.size, 0, none⟩ (.int .i64 1)).setCell ⟨w.heap.size, 1, none⟩ (.int .i64 n)).setCell ⟨w.heap.size, 2, none⟩ (.string S) := ⟨_, rfl⟩
            rw [← hW] at z bb7 ⊢
            clear hW bb6 bb5 g5 g6 h5 x0 x1 x2 x3 x4 x5 y0 y1 y2 y5
            have e0 := blk_cell z 0
            have e1 := blk_cell z 1
            have e2 := blk_cell z 2
            exact bodyPost_ret (v := .tuple #[.agg #[.int .i64 1, .int .i64 n, .string S], .int .i64 (r2 + r1), .int .i64 0]) (by simp [results, Try.results68, go_sem, e0, e1, e2, hw3]) rfl ⟨rfl, bb7⟩
      · obtain rfl : p1 = 2 := by omega
        have HM4 := HM3.out
        simp only [if_neg (show ¬ (2 : Int) = 1 by decide)] at HM4
        have T3 := fun W => tk b p2 2 rfl hz (by omega) W
        have R3 := tk_range b p2 2 rfl
        generalize tkM b p2 2 = r at *
        obtain ⟨r1, r2⟩ := r
        dsimp only at HM4 T3 R3
        have HM := Lib.hid HM4
        have HR := Lib.hid R3
        have HZ := Lib.hid hz
        clear HM4 R3 HM3 R1 hz h0 h1 c2 c3
        by_cases c4 : r2 < 0
        · have HJ := Lib.hid (HM.out.trans (if_pos (.inl c4)))
          unfold One
          rw [HJ.out]
          go_enter Try.func68, Try.ntmps68
          go_wp2_with fail
          refine (T1 _).mono ?_
          rintro e w1 ⟨rfl, b1⟩
          have g1 := (b1.block _ (blk_lt (heap_alloc_new w _))).trans (heap_alloc_new w _)
          have bb1 : Below w.heap.size w w1 := ((Below.refl _ _).alloc (Nat.le_refl _) _).trans (b1.mono (by simp))
          clear b1 T1
          go_wp2_with fail
          refine (T3 _).mono ?_
          rintro e w5 ⟨rfl, b2⟩
          have g5 := (b2.block _ (by simp; exact Nat.lt_succ_of_lt (blk_lt g1))).trans ((Lib.alloc_old w1 _ _ (blk_lt g1)).trans g1)
          have h5 := (b2.block _ (blk_lt (heap_alloc_new w1 _))).trans (heap_alloc_new w1 _)
          have bb5 : Below w.heap.size w w5 := (bb1.alloc bb1.size _).trans (b2.mono (by simp; exact Nat.le_succ_of_le bb1.size))
          have hne : w.heap.size ≠ w1.heap.size := Nat.ne_of_lt (blk_lt g1)
          have hge : w.heap.size ≤ w1.heap.size := bb1.size
          clear b2 T3 bb1 g1
          have x0 : w5.cell? ⟨w.heap.size, 0, none⟩ = some (.int .i64 0) := blk_cell g5 0
          have x1 : w5.cell? ⟨w.heap.size, 1, none⟩ = some (.int .i64 0) := blk_cell g5 1
          have x2 : w5.cell? ⟨w.heap.size, 2, none⟩ = some (.string ⟨#[]⟩) := blk_cell g5 2
          have y0 := blk_frozen g5 0
          have y1 := blk_frozen g5 1
          have y2 := blk_frozen g5 2
          go_wp2
          have z := three_set (.int .i64 0) (.int .i64 0) (.string ⟨#[]⟩) g5
          have e0 := blk_cell z 0
          have e1 := blk_cell z 1
          have e2 := blk_cell z 2
          exact bodyPost_ret (v := .tuple #[.agg #[.int .i64 0, .int .i64 0, .string ⟨#[]⟩], .int .i64 0, .int .i64 2]) (by simp [results, Try.results68, go_sem, e0, e1, e2]) rfl ⟨rfl, ((bb5.setCell (Nat.le_refl _) _).setCell (Nat.le_refl _) _).setCell (Nat.le_refl _) _⟩
        · by_cases c5 : r1 > (b.size : Int) - r2
          · have HJ := Lib.hid (HM.out.trans (if_pos (.inr c5)))
            have hw1 : wrap64 r1 = r1 := by have := HR.out.1; have e : pw 2 = 65536 := rfl; unfold wrap64; omega
            have hw2 : wrap64 ((b.size : Int) - r2) = (b.size : Int) - r2 := by have := HR.out; have := HZ.out; unfold wrap64; omega
            have c6 : (b.size : Int) - r2 < r1 := c5
            unfold One
            rw [HJ.out]
            go_enter Try.func68, Try.ntmps68
            go_wp2_with fail
            refine (T1 _).mono ?_
            rintro e w1 ⟨rfl, b1⟩
            have g1 := (b1.block _ (blk_lt (heap_alloc_new w _))).trans (heap_alloc_new w _)
            have bb1 : Below w.heap.size w w1 := ((Below.refl _ _).alloc (Nat.le_refl _) _).trans (b1.mono (by simp))
            clear b1 T1
            go_wp2_with fail
            refine (T3 _).mono ?_
            rintro e w5 ⟨rfl, b2⟩
            have g5 := (b2.block _ (by simp; exact Nat.lt_succ_of_lt (blk_lt g1))).trans ((Lib.alloc_old w1 _ _ (blk_lt g1)).trans g1)
            have h5 := (b2.block _ (blk_lt (heap_alloc_new w1 _))).trans (heap_alloc_new w1 _)
            have bb5 : Below w.heap.size w w5 := (bb1.alloc bb1.size _).trans (b2.mono (by simp; exact Nat.le_succ_of_le bb1.size))
            have hne : w.heap.size ≠ w1.heap.size := Nat.ne_of_lt (blk_lt g1)
            have hge : w.heap.size ≤ w1.heap.size := bb1.size
            clear b2 T3 bb1 g1
            have x0 : w5.cell? ⟨w.heap.size, 0, none⟩ = some (.int .i64 0) := blk_cell g5 0
            have x1 : w5.cell? ⟨w.heap.size, 1, none⟩ = some (.int .i64 0) := blk_cell g5 1
            have x2 : w5.cell? ⟨w.heap.size, 2, none⟩ = some (.string ⟨#[]⟩) := blk_cell g5 2
            have y0 := blk_frozen g5 0
            have y1 := blk_frozen g5 1
            have y2 := blk_frozen g5 2
            go_wp2
            have z := three_set (.int .i64 0) (.int .i64 0) (.string ⟨#[]⟩) g5
            have e0 := blk_cell z 0
            have e1 := blk_cell z 1
            have e2 := blk_cell z 2
            exact bodyPost_ret (v := .tuple #[.agg #[.int .i64 0, .int .i64 0, .string ⟨#[]⟩], .int .i64 0, .int .i64 2]) (by simp [results, Try.results68, go_sem, e0, e1, e2]) rfl ⟨rfl, ((bb5.setCell (Nat.le_refl _) _).setCell (Nat.le_refl _) _).setCell (Nat.le_refl _) _⟩
          · have HJ := Lib.hid (HM.out.trans (if_neg (fun h => h.elim c4 c5)))
            have hw1 : wrap64 r1 = r1 := by have := HR.out.1; have e : pw 2 = 65536 := rfl; unfold wrap64; omega
            have hw2 : wrap64 ((b.size : Int) - r2) = (b.size : Int) - r2 := by have := HR.out; have := HZ.out; unfold wrap64; omega
            have hw3 : wrap64 (r2 + r1) = r2 + r1 := by have := HR.out; have := HZ.out; have e : pw 2 = 65536 := rfl; unfold wrap64; omega
            have k1 : 0 ≤ r2 := by omega
            have k2 : r2 ≤ r2 + r1 := by have := HR.out.1; omega
            have k3 : r2 + r1 ≤ b.size := by omega
            have c6 : r1 ≤ (b.size : Int) - r2 := by omega
            have k4 : 0 ≤ r2 + r1 := by omega
            clear c5
            unfold One
            rw [HJ.out]
            go_enter Try.func68, Try.ntmps68
            go_wp2_with fail
            refine (T1 _).mono ?_
            rintro e w1 ⟨rfl, b1⟩
            have g1 := (b1.block _ (blk_lt (heap_alloc_new w _))).trans (heap_alloc_new w _)
            have bb1 : Below w.heap.size w w1 := ((Below.refl _ _).alloc (Nat.le_refl _) _).trans (b1.mono (by simp))
            clear b1 T1
            go_wp2_with fail
            refine (T3 _).mono ?_
            rintro e w5 ⟨rfl, b2⟩
            have g5 := (b2.block _ (by simp; exact Nat.lt_succ_of_lt (blk_lt g1))).trans ((Lib.alloc_old w1 _ _ (blk_lt g1)).trans g1)
            have h5 := (b2.block _ (blk_lt (heap_alloc_new w1 _))).trans (heap_alloc_new w1 _)
            have bb5 : Below w.heap.size w w5 := (bb1.alloc bb1.size _).trans (b2.mono (by simp; exact Nat.le_succ_of_le bb1.size))
            have hne : w.heap.size ≠ w1.heap.size := Nat.ne_of_lt (blk_lt g1)
            have hge : w.heap.size ≤ w1.heap.size := bb1.size
            clear b2 T3 bb1 g1
            have x0 : w5.cell? ⟨w.heap.size, 0, none⟩ = some (.int .i64 0) := blk_cell g5 0
            have x1 : w5.cell? ⟨w.heap.size, 1, none⟩ = some (.int .i64 0) := blk_cell g5 1
            have x2 : w5.cell? ⟨w.heap.size, 2, none⟩ = some (.string ⟨#[]⟩) := blk_cell g5 2
            have y0 := blk_frozen g5 0
            have y1 := blk_frozen g5 1
            have y2 := blk_frozen g5 2
            have x3 : w5.cell? ⟨w1.heap.size, 0, none⟩ = some (.int .i64 2) := blk_cell h5 0
            have x4 : w5.cell? ⟨w1.heap.size, 1, none⟩ = some (.int .i64 0) := blk_cell h5 1
            have x5 : w5.cell? ⟨w1.heap.size, 2, none⟩ = some (.string ⟨#[]⟩) := blk_cell h5 2
            have y5 := blk_frozen h5 2
            clear HR HZ HM HJ
            go_wp2
            generalize b.extract r2.toNat (r2 + r1).toNat = S at *
            have g6 := (Below.heap_setCell w5 ⟨w1.heap.size, 2, none⟩ (.string S) w.heap.size hne).trans g5
            have z := three_set (.int .i64 2) (.int .i64 0) (.string S) g6
            have bb6 : Below w.heap.size w (w5.setCell ⟨w1.heap.size, 2, none⟩ (.string S)) := bb5.setCell hge _
            have bb7 := ((bb6.setCell (Nat.le_refl _) (p := ⟨w.heap.size, 0, none⟩) (.int .i64 2)).setCell (Nat.le_refl _) (p := ⟨w.heap.size, 1, none⟩) (.int .i64 0)).setCell (Nat.le_refl _) (p := ⟨w.heap.size, 2, none⟩) (.string S)
            obtain ⟨W, hW⟩ : ∃ W, W = (((w5.setCell ⟨w1.heap.size, 2, none⟩ (.string S)).setCell ⟨w.heap.size, 0, none⟩ (.int .i64 2)).setCell ⟨w.heap.size, 1, none⟩ (.int .i64 0)).setCell ⟨w.heap.size, 2, none⟩ (.string S) := ⟨_, rfl⟩
            rw [← hW] at z bb7 ⊢
            clear hW bb6 bb5 g5 g6 h5 x0 x1 x2 x3 x4 x5 y0 y1 y2 y5
            have e0 := blk_cell z 0
            have e1 := blk_cell z 1
            have e2 := blk_cell z 2
            exact bodyPost_ret (v := .tuple #[.agg #[.int .i64 2, .int .i64 0, .string S], .int .i64 (r2 + r1), .int .i64 0]) (by simp [results, Try.results68, go_sem, e0, e1, e2, hw3]) rfl ⟨rfl, bb7⟩
def broadsheetref45_one.f (k : Nat) (a0 : ByteArray) (a1 : Int) : Option (Int × Int × ByteArray × Int × Int) := if a0.size ≤ 4611686018427387904 ∧ 0 ≤ a1 ∧ a1 ≤ a0.size then some (oneM a0 a1) else none
theorem broadsheetref45_one.mono : ∀ a0 a1 k, LeO (broadsheetref45_one.f k a0 a1) (broadsheetref45_one.f (k + 1) a0 a1) := fun _ _ _ => LeO.refl _
theorem broadsheetref45_one.calls (k : Nat) (a0 : ByteArray) (a1 : Int) (r1 : Int) (r2 : Int) (r3 : ByteArray) (r4 : Int) (r5 : Int) (w : World) (h : broadsheetref45_one.f k a0 a1 = some (r1, r2, r3, r4, r5)) :
    Calls Try.prog 68 #[.string a0, .int .i64 a1] w fun e w' => e = .returned (.tuple #[.agg #[.int .i64 r1, .int .i64 r2, .string r3], .int .i64 r4, .int .i64 r5]) ∧ Below w.heap.size w w' := by
  unfold broadsheetref45_one.f at h
  by_cases hc : a0.size ≤ 4611686018427387904 ∧ 0 ≤ a1 ∧ a1 ≤ a0.size
  · rw [if_pos hc] at h
    have h2 := Option.some.inj h
    have := one_of a0 a1 w hc.1 hc.2.1 hc.2.2
    unfold One at this
    rw [h2] at this
    exact this
  · rw [if_neg hc] at h
    cases h
end Go.Proofs.Ytimalojaiaofkaa.PScriptTakes
