import Derived.Test.YtmlfnlmdnhblmaaRecL
set_option linter.unusedVariables false
set_option linter.unusedSimpArgs false
namespace Go.Proofs.Ytmlfnlmdnhblmaa.Rec
open Go.RowKit Base Sp Flat Go.Proofs.YtmlfnlmdnhblmaaW.PrintWords Go.Proofs.YtmlfnlmdnhblmaaW.PrintLast Go.Proofs.YtmlfnlmdnhblmaaW.PrintMore Wd Al Buf Smp
/-- What Fit answers: the records from the i-th sample on. -/
def fitm (room : Int) : List Smp → Nat → List UInt8 → List UInt8 × Nat
  | [], i, b => (b, i)
  | x :: l, i, b => if (rput x).2 ≠ 0 ∨ room < (b.length : Int) + ((rput x).1.size : Int) then (b, i) else fitm room l (i + 1) (b ++ (rput x).1.data.toList)
theorem rput_size (x : Smp) : (rput x).1.size ≤ 564 := by
  unfold rput
  split
  · exact Nat.zero_le _
  · split
    · exact Nat.zero_le _
    · rw [tx_size]
      have h := recb_len x
      have := gapv_le (45 + (x.data.size : Int)) 8
      unfold rsz at h
      rw [if_neg (by omega)] at h
      omega
theorem fitm_step (room : Int) (xs : List Smp) (k : Nat) (b : List UInt8) (hk : k < xs.length) : fitm room (xs.drop k) k b = if (rput xs[k]).2 ≠ 0 ∨ room < (b.length : Int) + ((rput xs[k]).1.size : Int) then (b, k) else fitm room (xs.drop (k + 1)) (k + 1) (b ++ (rput xs[k]).1.data.toList) := by
  rw [List.drop_eq_getElem_cons hk, fitm]
theorem fitm_end (room : Int) (xs : List Smp) (b : List UInt8) : fitm room (xs.drop xs.length) xs.length b = (b, xs.length) := by
  rw [List.drop_length, fitm]
theorem boxed {wr w8 w9 : World} {x : Smp} (hb : Below wr.heap.size wr w8) (hbox : w8.heap[wr.heap.size]? = some (.cells (cells zsmp).toArray 26 (0, 0))) (h : w9 = w8.setCells wr.heap.size 0 (cells x)) :
    Below wr.heap.size wr w9 ∧ w9.heap[wr.heap.size]? = some (.cells (cells x).toArray 26 (0, 0)) := by
  have n9 := box_set (x := x) hbox
  rw [← h] at n9
  have M9 : Mod (fun k => k = wr.heap.size) w8 w9 := h ▸ setCells_mod w8 wr.heap.size 0 (cells x)
  exact ⟨M9.below hb hb.size (fun k hk => by rw [show k = wr.heap.size from hk]; exact Nat.le_refl _), n9⟩
theorem blen (F : Nat → Prop) (b : Nat) (l : List UInt8) (w : World) (h : sB w F b l) : Calls Try.prog 24 #[.pointer (some ⟨b, 0, none⟩)] w fun e w' => e = .returned (.int .i64 (l.length : Int)) ∧ w = w' := by
  obtain ⟨p, v, h1, h2, h3, _⟩ := h
  have c1 : w.cell? ⟨b, 1, none⟩ = some v := blk_cell h1 1
  rcases h3.2 with ⟨rfl, hz⟩ | ⟨g, cap, cur, fz, rfl, _⟩
  · have e : (l.length : Int) = 0 := by omega
    rw [e]
    clear h1 h2 h3 hz
    go_enter Try.func24, Try.ntmps24
    go_wp2
    go_ret
    exact ⟨rfl, rfl⟩
  · clear h1 h2 h3
    go_enter Try.func24, Try.ntmps24
    go_wp2
    go_ret
    exact ⟨rfl, rfl⟩
theorem sfresh (w : World) : sB (w.alloc (.cells #[.pointer none, .slice none 0 0] 55)) (fun k => k = w.heap.size) w.heap.size [] :=
  ⟨_, _, heap_alloc_new _ _, .inl rfl, World.ownsRowF_nil _ _ _ _, by simp [Value.ownBlock], rfl, fun k hk => by simp [Value.ownBlock] at hk, fun k hk => by subst hk; simp⟩
/-- What is known at the start of a round of Fit. -/
structure Ft (room : Int) (xs : List Smp) (w0 w : World) (k : Nat) (b : List UInt8) (F : Nat → Prop) : Prop where
  hb : sB w F w0.heap.size b
  fF : ∀ j, F j → w0.heap.size ≤ j
  be : Below w0.heap.size w0 w
  eq : fitm room xs 0 [] = fitm room (xs.drop k) k b
  ln : b.length ≤ k * 564
  rm : b = [] ∨ (b.length : Int) ≤ room
def Fi (w : World) (r : List UInt8 × Nat) (e : Ending) (w' : World) : Prop := e = .returned (.tuple #[.string (tx r.1), .int .i64 (r.2 : Int)]) ∧ Below w.heap.size w w'
set_option maxRecDepth 20000 in
set_option maxHeartbeats 4000000 in
theorem fit {G : Nat → Prop} {w : World} {v : Value} {xs : List Smp} (h : Rd ks w G v xs) (room : Int) (h0 : -9223372036854775808 ≤ room) (h1 : room < 9223372036854775808) (hl : xs.length ≤ 100) :
    Calls Try.prog 9 #[v, .int .i64 room] w (Fi w (fitm room xs 0 [])) := by
  have HR := Lib.hid (And.intro h0 h1)
  have HL := Lib.hid hl
  have HA := Lib.hid h
  have b0 : Below w.heap.size w (w.alloc (.cells #[.pointer none, .slice none 0 0] 55)) := (Below.refl _ _).alloc (Nat.le_refl _) _
  have F0 : Ft room xs w (w.alloc (.cells #[.pointer none, .slice none 0 0] 55)) 0 [] (fun k => k = w.heap.size) :=
    ⟨sfresh w, fun j hj => by rw [show j = w.heap.size from hj]; exact Nat.le_refl _, b0, rfl, Nat.zero_le _, .inl rfl⟩
  obtain ⟨A, c, rfl, _, _, _⟩ := h
  clear h0 h1 hl b0
  go_enter Try.func9, Try.ntmps9
  go_wp2
  go_loopw [13] (fun i wr => ∃ (k : Nat) (b : List UInt8) (F : Nat → Prop), i = .int .i64 (k : Int) ∧ k ≤ xs.length ∧ Ft room xs w wr k b F) (fun i _ => xs.length - (intOf i).toNat)
  case atStart => exact ⟨0, _, _, rfl, Nat.zero_le _, F0⟩
  case round =>
    clear F0
    obtain ⟨k, b, F, rfl, hk, FT⟩ := hrel
    by_cases hlt : k < xs.length
    · have k0 : (0 : Int) ≤ (k : Int) := by omega
      have hlt1 : (k : Int) < (xs.length : Int) := by omega
      obtain ⟨ad, rfl, q1⟩ := rd_at (rd_below HA.out FT.be) hlt
      have hwi : wrap64 ((k : Int) + 1) = ((k + 1 : Nat) : Int) := by have := HL.out; unfold wrap64; omega
      have hm := Lib.hid (meas _ _ hlt)
      have hlt2 := Lib.hid hlt
      have hst := Lib.hid (fitm_step room xs k b hlt)
      have hps := Lib.hid (rput_size xs[k])
      have HP := fun w => put xs[k] w
      generalize xs[k] = x at q1 hst hps HP
      generalize rput x = r at hst hps HP
      obtain ⟨r1, r2⟩ := r
      clear hlt hk
      dsimp only at HP
      go_wp2_with (first | ((with_reducible refine gate_dst (N := 17) rfl ?_); refine load_any (by kernel_rfl) 26 (.tmp 16) rfl _ rfl (cells x) _ q1 Try.underlying26 rfl (size23 x) ?_) | ((with_reducible refine gate_dst (N := 8) rfl ?_); refine box_event rfl (N := 8) rfl (cs := (cells zsmp).toArray) (t := 26) ?hr ?_; (case hr => go_simp; rfl); intro gb hgb w8 hbox hb; subst hgb; clear q1) | ((with_reducible refine gate_store (p := 8) (v := .tmp 17) rfl ?_); refine store_ev rfl 26 (.tmp 8) (.tmp 17) rfl wr.heap.size 0 (cells x) rfl rfl (there_of hbox (by rw [cells_len, cells_len]; omega)) (size23 x) (cells_one x) ?_; intro w9 hw9; obtain ⟨B9, n9⟩ := boxed hb hbox hw9; have r9 := box_range n9; clear hb hbox hw9) | ((with_reducible refine gate_dst (N := 19) rfl ?_); refine wpList_load_mid rfl 26 (.tmp 8) rfl wr.heap.size 0 rfl (cells x) _ r9 Try.underlying26 rfl (size23 x) ?_))
      refine (HP _).mono ?_
      rintro e w10 ⟨rfl, b10⟩
      have B10 := bstep B9 b10
      clear B9 b10 n9 r9 HP
      have hB := FT.hb.below B10
      have bb := bstep FT.be B10
      clear B10
      have HF := Lib.hid (And.intro FT.fF (And.intro FT.eq (And.intro FT.ln FT.rm)))
      clear FT
      by_cases he : r2 = 0
      · subst he
        have hLen := blen F w.heap.size b w10 hB
        have hw64 : wrap64 (room - (b.length : Int)) = room - (b.length : Int) := by
          have h1 := HR.out
          have h2 := HF.out.2.2.2
          have h3 := HF.out.2.2.1
          have h4 := HL.out
          have h5 := hlt2.out
          unfold wrap64
          rcases h2 with rfl | h2
          · simp; omega
          · omega
        by_cases hf : room - (b.length : Int) < (r1.size : Int)
        · have HE : Hid (fitm room xs 0 [] = (b, k)) := Lib.hid (by rw [HF.out.2.1, hst.out, if_pos (.inr (by omega))])
          have hS := sstring F w.heap.size b w10 hB
          go_wp2_with fail
          refine hLen.mono ?_
          rintro e w11 ⟨rfl, rfl⟩
          go_wp2_with fail
          refine hS.mono ?_
          rintro e w12 ⟨rfl, _, m12⟩
          go_wp2
          go_ret2
          exact ⟨by rw [HE.out]; rfl, m12.below bb bb.size HF.out.1⟩
        · have HE : Hid (fitm room xs 0 [] = fitm room (xs.drop (k + 1)) (k + 1) (b ++ r1.data.toList)) := Lib.hid (by rw [HF.out.2.1, hst.out, if_neg (fun hh => hh.elim (fun h => h rfl) (fun h => by omega))])
          have HN : Hid ((b.length : Int) + (r1.size : Int) ≤ room) := Lib.hid (by omega)
          have hW := swrite F w.heap.size b r1 w10 hB (by have h1 := HF.out.2.2.1; have h2 := hps.out; have h3 := HL.out; have h4 := hlt2.out; omega)
          go_wp2_with fail
          refine hLen.mono ?_
          rintro e w11 ⟨rfl, rfl⟩
          go_wp2_with fail
          refine hW.mono ?_
          rintro e w12 ⟨rfl, F2, hB2, m12, g12⟩
          have hln : (b ++ r1.data.toList).length = b.length + r1.size := by rw [List.length_append]; rfl
          have FT2 : Ft room xs w w12 (k + 1) (b ++ r1.data.toList) F2 :=
            ⟨hB2, grow_up g12 HF.out.1 bb.size, m12.below bb bb.size HF.out.1, HE.out, by have h1 := HF.out.2.2.1; have h2 := hps.out; rw [hln]; omega, .inr (by have := HN.out; rw [hln]; omega)⟩
          clear hB hW hLen hB2 m12 g12 hln hw64 hf
          go_wp2
          rw [hwi]
          exact ⟨⟨k + 1, _, F2, rfl, hlt2.out, FT2⟩, hm.out⟩
      · have HE : Hid (fitm room xs 0 [] = (b, k)) := Lib.hid (by rw [HF.out.2.1, hst.out, if_pos (.inl he)])
        have hne : (r2 != 0) = true := by simpa using he
        have hS := sstring F w.heap.size b w10 hB
        clear he
        go_wp2_with fail
        refine hS.mono ?_
        rintro e w12 ⟨rfl, _, m12⟩
        go_wp2
        go_ret2
        exact ⟨by rw [HE.out]; rfl, m12.below bb bb.size HF.out.1⟩
    · have hk2 : k = xs.length := by omega
      subst hk2
      clear hlt hk
      have HE : Hid (fitm room xs 0 [] = (b, xs.length)) := Lib.hid (by rw [FT.eq, fitm_end])
      have hS := sstring F w.heap.size b wr FT.hb
      have HF := Lib.hid (And.intro FT.fF FT.be)
      clear FT
      go_wp2_with fail
      refine hS.mono ?_
      rintro e w12 ⟨rfl, _, m12⟩
      go_wp2
      go_ret2
      exact ⟨by rw [HE.out]; rfl, m12.below HF.out.2 HF.out.2.size HF.out.1⟩
/-- What is known at the start of a round of the reference's Fit. -/
structure Rt (room : Int) (xs : List Smp) (k : Nat) (b : List UInt8) : Prop where
  eq : fitm room xs 0 [] = fitm room (xs.drop k) k b
  ln : b.length ≤ k * 564
set_option maxRecDepth 20000 in
set_option maxHeartbeats 4000000 in
theorem rfit {G : Nat → Prop} {w : World} {v : Value} {xs : List Smp} (h : Rd ks w G v xs) (room : Int) (hl : xs.length ≤ 100) :
    Calls Try.prog 10 #[v, .int .i64 room] w (Fi w (fitm room xs 0 [])) := by
  have HL := Lib.hid hl
  have HA := Lib.hid h
  have b0 := Below.refl w.heap.size w
  have F0 : Hid (Rt room xs 0 []) := Lib.hid ⟨rfl, Nat.zero_le _⟩
  obtain ⟨A, c, rfl, _, _, _⟩ := h
  clear hl
  go_enter Try.func10, Try.ntmps10
  go_wp2
  go_loopw [6, 7] (fun v6 i wr => ∃ (k : Nat) (b : List UInt8), i = .int .i64 (k : Int) ∧ v6 = .string (tx b) ∧ k ≤ xs.length ∧ Hid (Rt room xs k b) ∧ Below w.heap.size w wr) (fun _ i _ => xs.length - (intOf i).toNat)
  case atStart => exact ⟨0, [], rfl, rfl, Nat.zero_le _, F0, b0⟩
  case round =>
    clear F0 b0
    obtain ⟨k, b, rfl, rfl, hk, FT, bb⟩ := hrel
    by_cases hlt : k < xs.length
    · have k0 : (0 : Int) ≤ (k : Int) := by omega
      have hlt1 : (k : Int) < (xs.length : Int) := by omega
      obtain ⟨ad, rfl, q1⟩ := rd_at (rd_below HA.out bb) hlt
      have hwi : wrap64 ((k : Int) + 1) = ((k + 1 : Nat) : Int) := by have := HL.out; unfold wrap64; omega
      have hm := Lib.hid (meas _ _ hlt)
      have hlt2 := Lib.hid hlt
      have hst := Lib.hid (fitm_step room xs k b hlt)
      have hps := Lib.hid (rput_size xs[k])
      have HP := fun w => rputs xs[k] w
      generalize xs[k] = x at q1 hst hps HP
      generalize rput x = r at hst hps HP
      obtain ⟨r1, r2⟩ := r
      clear hlt hk
      dsimp only at HP
      go_wp2_with (first | ((with_reducible refine gate_dst (N := 20) rfl ?_); refine load_any (by kernel_rfl) 26 (.tmp 19) rfl _ rfl (cells x) _ q1 Try.underlying26 rfl (size23 x) ?_))
      refine (HP _).mono ?_
      rintro e w10 ⟨rfl, b10⟩
      have bb2 := bstep bb b10
      clear b10 HP q1 bb
      by_cases he : r2 = 0
      · subst he
        have hw64 : wrap64 (((tx b).size : Int) + (r1.size : Int)) = ((tx b).size : Int) + (r1.size : Int) := by
          have h1 := FT.out.ln
          have h2 := hps.out
          have h3 := HL.out
          have h4 := hlt2.out
          rw [tx_size]
          unfold wrap64
          omega
        by_cases hf : room < ((tx b).size : Int) + (r1.size : Int)
        · have HE : Hid (fitm room xs 0 [] = (b, k)) := Lib.hid (by rw [FT.out.eq, hst.out, if_pos (.inr (by have := tx_size b; omega))])
          go_wp2
          go_ret2
          exact ⟨by rw [HE.out]; rfl, bb2⟩
        · have HE : Hid (fitm room xs 0 [] = fitm room (xs.drop (k + 1)) (k + 1) (b ++ r1.data.toList)) := Lib.hid (by rw [FT.out.eq, hst.out, if_neg (fun hh => hh.elim (fun h => h rfl) (fun h => by have := tx_size b; omega))])
          have hz : (tx b).size + r1.size ≤ 1000000 := by
            have h1 := FT.out.ln
            have h2 := hps.out
            have h3 := HL.out
            have h4 := hlt2.out
            rw [tx_size]
            omega
          have hsum : tx b ++ r1 = tx (b ++ r1.data.toList) := by rw [tx_app]; rfl
          have FT2 : Hid (Rt room xs (k + 1) (b ++ r1.data.toList)) := Lib.hid ⟨HE.out, by have h1 := FT.out.ln; have h2 := hps.out; rw [List.length_append]; show _ + r1.size ≤ _; omega⟩
          go_wp2
          rw [hwi]
          exact ⟨⟨k + 1, _, rfl, rfl, hlt2.out, FT2, bb2⟩, hm.out⟩
      · have HE : Hid (fitm room xs 0 [] = (b, k)) := Lib.hid (by rw [FT.out.eq, hst.out, if_pos (.inl he)])
        have hne : (r2 != 0) = true := by simpa using he
        clear he
        go_wp2
        go_ret2
        exact ⟨by rw [HE.out]; rfl, bb2⟩
    · have hk2 : k = xs.length := by omega
      subst hk2
      clear hlt hk
      have HE : Hid (fitm room xs 0 [] = (b, xs.length)) := Lib.hid (by rw [FT.out.eq, fitm_end])
      go_wp2
      go_ret2
      exact ⟨by rw [HE.out]; rfl, bb⟩
end Go.Proofs.Ytmlfnlmdnhblmaa.Rec
