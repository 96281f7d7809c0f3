import Derived.Lib.BufferWrite
import Derived.Great.BuildSlice
import Derived.Test.YtmlfnlmdnhblmaaSqRecordBack2
set_option linter.unusedVariables false
set_option linter.unusedSimpArgs false
namespace Go.Proofs.Ytmlfnlmdnhblmaa.Cur
open Go.RowKit Base Sp Flat Go.Proofs.YtmlfnlmdnhblmaaW.PrintWords Go.Proofs.YtmlfnlmdnhblmaaW.PrintLast Wd Al Buf
/-- What Take leaves. -/
def Tk (c : Nat) (b : ByteArray) (r : Int × Int × Int) (w : World) (e : Ending) (w' : World) : Prop := e = .returned (.int .u64 r.1) ∧ CB w' c r.2.1.toNat b r.2.2 ∧ Mod (At c) w w'
theorem pad_step {b : ByteArray} {g k : Nat} (h : k < b.size) (h0 : b[k] = 0) : pad b (g + 1) k = pad b g (k + 1) := by
  rw [pad, dif_pos h, if_pos h0]
theorem pad_bad {b : ByteArray} {g k : Nat} (h : k < b.size) (h0 : b[k] ≠ 0) : pad b (g + 1) k = 12 := by
  rw [pad, dif_pos h, if_neg h0]
theorem pad_end {b : ByteArray} {g k : Nat} (h : ¬ k < b.size) : pad b (g + 1) k = 2 := by
  rw [pad, dif_neg h]
theorem pcode_zero (s : Int) : pcode 0 s = if sz s then 0 else 4 := by
  unfold pcode
  cases h : sz s with
  | false => rfl
  | true =>
    rw [if_pos rfl, if_pos rfl]
    rcases sz_cases h with rfl | rfl | rfl | rfl <;> rfl
set_option maxRecDepth 20000 in
set_option maxHeartbeats 1000000 in
theorem take (c a : Nat) (b : ByteArray) (e s : Int) (w : World) (h : CB w c a b e) (ha : a ≤ b.size) (hz : b.size ≤ 140737488355328) :
    Calls Try.prog 37 #[.pointer (some ⟨c, 0, none⟩), .int .i64 s] w (Tk c b (ctake b a e s) w) := by
  unfold ctake
  by_cases he : e = 0
  · rw [if_neg (fun h => h he)]
    subst he
    have HP := fun w => Wd.put 0 s (by decide) (by decide) w
    rw [put_res, pcode_zero] at HP
    generalize (if sz s then putv 0 s else (⟨#[]⟩, 4)).1 = pr at HP
    cases hs : sz s with
    | false =>
      rw [hs] at HP
      replace HP : ∀ w, Calls Try.prog 28 #[.int .u64 0, .int .i64 s] w fun e w' => e = .returned (.tuple #[.string pr, .int .i64 4]) ∧ Below w.heap.size w w' := HP
      rw [if_pos rfl]
      obtain ⟨⟨c0, c1, c2⟩, g0, g2⟩ := three h
      have H := Lib.hid h
      clear h hs ha hz
      go_enter Try.func37, Try.ntmps37
      go_wp2_with fail
      refine (HP _).mono ?_
      rintro e w1 ⟨rfl, b1⟩
      have h1 := H.out.below b1
      have m1 := Mod.of (F := At c) b1
      clear b1 HP
      go_wp2_with fail
      refine (fail_ c a b 0 4 w1 h1).mono ?_
      rintro e w2 ⟨rfl, h2, m2⟩
      go_wp2
      go_ret
      exact ⟨rfl, h2, m1.trans m2 (fun k hk => .inl hk)⟩
    | true =>
      rw [hs] at HP
      replace HP : ∀ w, Calls Try.prog 28 #[.int .u64 0, .int .i64 s] w fun e w' => e = .returned (.tuple #[.string pr, .int .i64 0]) ∧ Below w.heap.size w w' := HP
      rw [if_neg (by decide)]
      have hsc := sz_cases hs
      have hG := gapv_le a s
      have HG := fun w h => gap_ c (a : Int) s w h (by omega) (by omega)
      obtain ⟨g, hg⟩ : ∃ g : Nat, gapv a s = (g : Int) := ⟨(gapv a s).toNat, by omega⟩
      rw [hg] at HG hG ⊢
      rw [Int.toNat_natCast]
      have HT := fun w => Wd.take b ((a : Int) + (g : Int)) s (by omega) (by omega) (by omega) w
      rw [hs] at HT
      replace HT : ∀ w, Calls Try.prog 51 #[.string b, .int .i64 ((a : Int) + (g : Int)), .int .i64 s] w fun e w' => e = .returned (.tuple #[.int .u64 (takev b ((a : Int) + (g : Int)) s).1, .int .i64 (takev b ((a : Int) + (g : Int)) s).2]) ∧ Below w.heap.size w w' := HT
      have hB : Hid (0 ≤ s ∧ s ≤ 8 ∧ g ≤ 7 ∧ a ≤ b.size ∧ b.size ≤ 140737488355328) := Lib.hid ⟨by omega, by omega, by omega, ha, hz⟩
      have hag : a + g ≤ 9223372036854775000 := by omega
      generalize hr : (if pad b g a ≠ 0 then ((0 : Int), (a : Int), pad b g a) else if (takev b ((a : Int) + (g : Int)) s).2 ≠ 0 then (0, (a : Int), 2) else ((takev b ((a : Int) + (g : Int)) s).1, (a : Int) + (g : Int) + s, 0)) = r
      have HR := Lib.hid hr
      clear hr
      obtain ⟨⟨c0, c1, c2⟩, g0, g2⟩ := three h
      have H := Lib.hid h
      clear h hs ha hz hG hg hsc
      go_enter Try.func37, Try.ntmps37
      go_wp2_with fail
      refine (HP _).mono ?_
      rintro e w1 ⟨rfl, b1⟩
      have h1 := H.out.below b1
      have m1 := Mod.of (F := At c) b1
      clear b1 HP H c0 c1 c2 g0 g2
      obtain ⟨⟨c0, c1, c2⟩, g0, g2⟩ := three h1
      have hlt := h1.lt
      go_wp2_with fail
      refine Reg.wp_plan (S := fun w' => w'.cell? ⟨c, 0, none⟩ = some (.int .i64 (a : Int))) 12 (.fl 0 (.fl 1 (.fl 2 (.fl 3 (.fl 4 (.fl 5 (.fl 6 (.fl 7 (.fl 8 (.one 9 (.fl 10 (.fl 11 .done)))))))))))) (by kernel_rfl) (by kernel_rfl) (by kernel_rfl) (by kernel_rfl) (fun _ _ _ d _ h => by cases d <;> exact h) ?_ (fun hHeld => ?_)
      · simpa using c0
      refine Reg.G_on (o := { dst := some 30, op := Op.move (Operand.tmp 0), type := 74, pos := "align.go:98", after := #[], guard := Option.none }) (v := ?_) (by rfl) ?_ (fun wS hSw => ?_) ?_
      rotate_left
      · kernel_rfl
      · (try dsimp only at hSw); go_simp; (try with_reducible rfl)
      try simp only [Act.put, List.setIfInBounds_toArray, List.set_cons_zero, List.set_cons_succ]
      refine Reg.G_on (o := { dst := some 31, op := Op.nilCheck (Operand.tmp 30), type := 0, pos := "align.go:98", after := #[{ on := 0, ground := Ground.data }], guard := Option.none }) (v := ?_) (by rfl) ?_ (fun wS hSw => ?_) ?_
      rotate_left
      · kernel_rfl
      · (try dsimp only at hSw); go_simp; (try with_reducible rfl)
      try simp only [Act.put, List.setIfInBounds_toArray, List.set_cons_zero, List.set_cons_succ]
      refine Reg.G_on (o := { dst := some 32, op := Op.fieldAddr 88 (Operand.tmp 31) 0, type := 0, pos := "align.go:98", after := #[{ on := 1, ground := Ground.data }], guard := Option.none }) (v := ?_) (by rfl) ?_ (fun wS hSw => ?_) ?_
      rotate_left
      · kernel_rfl
      · (try dsimp only at hSw); go_simp; (try with_reducible rfl)
      try simp only [Act.put, List.setIfInBounds_toArray, List.set_cons_zero, List.set_cons_succ]
      refine Reg.G_on (o := { dst := some 33, op := Op.fieldAddr 63 (Operand.tmp 32) 0, type := 0, pos := "align.go:98", after := #[{ on := 2, ground := Ground.data }], guard := Option.none }) (v := ?_) (by rfl) ?_ (fun wS hSw => ?_) ?_
      rotate_left
      · kernel_rfl
      · (try dsimp only at hSw); go_simp; (try with_reducible rfl)
      try simp only [Act.put, List.setIfInBounds_toArray, List.set_cons_zero, List.set_cons_succ]
      refine Reg.G_on (o := { dst := some 34, op := Op.load 3 (Operand.tmp 33), type := 3, pos := "align.go:98", after := #[{ on := 3, ground := Ground.data }], guard := Option.none }) (v := ?_) (by rfl) ?_ (fun wS hSw => ?_) ?_
      rotate_left
      · kernel_rfl
      · (try dsimp only at hSw); go_simp; (try with_reducible rfl)
      try simp only [Act.put, List.setIfInBounds_toArray, List.set_cons_zero, List.set_cons_succ]
      refine Reg.G_on (o := { dst := some 35, op := Op.move (Operand.tmp 0), type := 74, pos := "align.go:98", after := #[], guard := Option.none }) (v := ?_) (by rfl) ?_ (fun wS hSw => ?_) ?_
      rotate_left
      · kernel_rfl
      · (try dsimp only at hSw); go_simp; (try with_reducible rfl)
      try simp only [Act.put, List.setIfInBounds_toArray, List.set_cons_zero, List.set_cons_succ]
      refine Reg.G_on (o := { dst := some 36, op := Op.nilCheck (Operand.tmp 35), type := 0, pos := "align.go:98", after := #[{ on := 5, ground := Ground.data }], guard := Option.none }) (v := ?_) (by rfl) ?_ (fun wS hSw => ?_) ?_
      rotate_left
      · kernel_rfl
      · (try dsimp only at hSw); go_simp; (try with_reducible rfl)
      try simp only [Act.put, List.setIfInBounds_toArray, List.set_cons_zero, List.set_cons_succ]
      refine Reg.G_on (o := { dst := some 37, op := Op.fieldAddr 88 (Operand.tmp 36) 0, type := 0, pos := "align.go:98", after := #[{ on := 6, ground := Ground.data }], guard := Option.none }) (v := ?_) (by rfl) ?_ (fun wS hSw => ?_) ?_
      rotate_left
      · kernel_rfl
      · (try dsimp only at hSw); go_simp; (try with_reducible rfl)
      try simp only [Act.put, List.setIfInBounds_toArray, List.set_cons_zero, List.set_cons_succ]
      refine Reg.G_on (o := { dst := some 38, op := Op.move (Operand.tmp 1), type := 3, pos := "align.go:98", after := #[], guard := Option.none }) (v := ?_) (by rfl) ?_ (fun wS hSw => ?_) ?_
      rotate_left
      · kernel_rfl
      · (try dsimp only at hSw); go_simp; (try with_reducible rfl)
      try simp only [Act.put, List.setIfInBounds_toArray, List.set_cons_zero, List.set_cons_succ]
      refine Reg.G_step (o := { dst := some 39, op := Op.call { callee := Callee.value (Operand.func 29), args := #[Operand.tmp 37, Operand.tmp 38], argTypes := #[63, 3] }, type := 3, pos := "align.go:98", after := #[{ on := 7, ground := Ground.data }, { on := 8, ground := Ground.data }], guard := Option.none }) (by rfl) ?_ (fun K hK => ?_)
      · kernel_rfl
      go_simp
      refine (HG w1.drew hHeld).mono ?_
      rintro e w' ⟨rfl, hb⟩
      refine hK.out _ _ ?_ (fun hHeld => ?_)
      · exact argb hb hHeld
      clear hK K
      try simp only [Act.put, List.setIfInBounds_toArray, List.set_cons_zero, List.set_cons_succ]
      refine Reg.G_on (o := { dst := some 40, op := Op.binOp BinOp.add 3 (Operand.tmp 34) (Operand.tmp 39) 3, type := 3, pos := "align.go:98", after := #[{ on := 4, ground := Ground.data }, { on := 9, ground := Ground.data }], guard := Option.none }) (v := ?_) (by rfl) ?_ (fun wS hSw => ?_) ?_
      rotate_left
      · kernel_rfl
      · (try dsimp only at hSw); go_simp; (try with_reducible rfl)
      try simp only [Act.put, List.setIfInBounds_toArray, List.set_cons_zero, List.set_cons_succ]
      refine Reg.G_on (o := { dst := some 7, op := Op.assign (Operand.tmp 40), type := 3, pos := "align.go:98", after := #[{ on := 10, ground := Ground.data }, { on := 9, ground := Ground.chain }, { on := 0, ground := Ground.phase }, { on := 1, ground := Ground.phase }, { on := 2, ground := Ground.phase }, { on := 3, ground := Ground.phase }, { on := 4, ground := Ground.phase }, { on := 5, ground := Ground.phase }, { on := 6, ground := Ground.phase }, { on := 7, ground := Ground.phase }, { on := 8, ground := Ground.phase }, { on := 9, ground := Ground.phase }, { on := 10, ground := Ground.phase }], guard := Option.none }) (v := ?_) (by rfl) ?_ (fun wS hSw => ?_) ?_
      rotate_left
      · kernel_rfl
      · (try dsimp only at hSw); go_simp; (try with_reducible rfl)
      try simp only [Act.put, List.setIfInBounds_toArray, List.set_cons_zero, List.set_cons_succ]
      refine Reg.G_done ?_
      rename World => w2
      have hb := (Below.refl w1.heap.size w1).drew.trans hb
      have h2 := h1.below hb
      have m2 := m1.trans (Mod.of (F := At c) hb) (fun k hk => .inl hk)
      clear hb h1 m1 HG hHeld c0 c1 c2 g0 g2
      obtain ⟨⟨c0, c1, c2⟩, g0, g2⟩ := three h2
      go_wp2
      go_loop [8] (fun i => ∃ k : Nat, a ≤ k ∧ k ≤ a + g ∧ i = .int .i64 (k : Int) ∧ pad b g a = pad b (a + g - k) k) (fun i => (a + g - (intOf i).toNat))
      case atStart => exact ⟨a, by omega, by omega, rfl, by rw [Nat.add_sub_cancel_left]⟩
      case round =>
        obtain ⟨k, hk1, hk2, rfl, hpd⟩ := hrel
        have HPD := Lib.hid hpd
        clear hpd
        have k0 : (0 : Int) ≤ (k : Int) := by omega
        by_cases hkg : k < a + g
        · have hkg2 : (k : Int) < (a : Int) + (g : Int) := by omega
          have he : a + g - k = (a + g - (k + 1)) + 1 := by omega
          rw [he] at HPD
          clear he
          by_cases hkb : k < b.size
          · have hkb2 : (k : Int) < (b.size : Int) := by omega
            by_cases hb0 : b[k] = 0
            · have HS := Lib.hid (HPD.out.trans (pad_step hkb hb0))
              have hz0 : ((b[k].toNat : Int) != 0) = false := by rw [hb0]; rfl
              clear HPD hb0
              go_wp2
              go_round
              case rel => exact ⟨k + 1, by omega, by omega, by go_num, HS.out⟩
              case measure => simp [intOf]; omega
            · have HS := Lib.hid (HPD.out.trans (pad_bad hkb hb0))
              have hz0 : ((b[k].toNat : Int) != 0) = true := by
                rw [bne_iff_ne]
                intro h
                apply hb0
                apply UInt8.toNat_inj.1
                show b[k].toNat = 0
                omega
              clear HPD hb0
              go_wp2_with fail
              refine (fail_ c a b 0 12 w2 h2).mono ?_
              rintro e w3 ⟨rfl, h3, m3⟩
              go_wp2
              go_ret
              obtain rfl := HR.out
              rw [HS.out, if_pos (by decide)]
              exact ⟨rfl, by rw [Int.toNat_natCast]; exact h3, m2.trans m3 (fun k hk => .inl hk)⟩
          · have hkb2 : ¬ ((k : Int) < (b.size : Int)) := by omega
            have hkb3 : (b.size : Int) ≤ (k : Int) := by omega
            have HS := Lib.hid (HPD.out.trans (pad_end hkb))
            clear HPD
            go_wp2_with fail
            refine (fail_ c a b 0 2 w2 h2).mono ?_
            rintro e w3 ⟨rfl, h3, m3⟩
            go_wp2
            go_ret
            obtain rfl := HR.out
            rw [HS.out, if_pos (by decide)]
            exact ⟨rfl, by rw [Int.toNat_natCast]; exact h3, m2.trans m3 (fun k hk => .inl hk)⟩
        · have hkg2 : ¬ ((k : Int) < (a : Int) + (g : Int)) := by omega
          have HS : Hid (pad b g a = 0) := Lib.hid (HPD.out.trans (by rw [show a + g - k = 0 from by omega]; rfl))
          clear HPD
          by_cases ht : (takev b ((a : Int) + (g : Int)) s).2 = 0
          · have hv : (takev b ((a : Int) + (g : Int)) s).1 = (takev b ((a : Int) + (g : Int)) s).1 := rfl
            rw [ht] at HT
            have HE := Lib.hid ht
            clear ht hv
            have hw : IntKind.i64.wrap ((a : Int) + (g : Int) + s) = (a : Int) + (g : Int) + s := wrapi64 (by have := hB.out; omega) (by have := hB.out; omega)
            have hw2 : wrap64 ((a : Int) + (g : Int) + s) = (a : Int) + (g : Int) + s := by have := hB.out; unfold wrap64; omega
            go_wp2_with fail
            refine (HT _).mono ?_
            rintro e w3 ⟨rfl, b3⟩
            have h3 := h2.below b3
            have m3 := m2.trans (Mod.of (F := At c) b3) (fun k hk => .inl hk)
            clear b3 HT c0 c1 c2 g0 g2 h2 m2
            obtain ⟨⟨c0, c1, c2⟩, g0, g2⟩ := three h3
            have H3 := Lib.hid h3
            clear h3
            go_wp2
            go_ret
            obtain rfl := HR.out
            rw [HS.out, if_neg (by decide), HE.out, if_neg (by decide)]
            refine ⟨rfl, ?_, at_set m3 _ _⟩
            have hh := H3.out.place ((a : Int) + (g : Int) + s).toNat
            rw [show ((((a : Int) + (g : Int) + s).toNat : Nat) : Int) = (a : Int) + (g : Int) + s from by have := hB.out; omega] at hh
            exact hh
          · have HE := Lib.hid ht
            have hne : ((takev b ((a : Int) + (g : Int)) s).2 != 0) = true := by simpa using ht
            generalize hq : (takev b ((a : Int) + (g : Int)) s).2 = q at *
            clear ht hq
            go_wp2_with fail
            refine (HT _).mono ?_
            rintro e w3 ⟨rfl, b3⟩
            have h3 := h2.below b3
            have m3 := m2.trans (Mod.of (F := At c) b3) (fun k hk => .inl hk)
            clear b3 HT c0 c1 c2 g0 g2 h2 m2
            go_wp2_with fail
            refine (fail_ c a b 0 2 w3 h3).mono ?_
            rintro e w4 ⟨rfl, h4, m4⟩
            go_wp2
            go_ret
            obtain rfl := HR.out
            rw [HS.out, if_neg (by decide), if_pos HE.out]
            exact ⟨rfl, by rw [Int.toNat_natCast]; exact h4, m3.trans m4 (fun k hk => .inl hk)⟩
  · rw [if_pos he]
    have e1 : (e != 0) = true := by simpa using he
    obtain ⟨⟨c0, c1, c2⟩, g0, g2⟩ := three h
    have H := Lib.hid h
    clear h
    go_enter Try.func37, Try.ntmps37
    go_wp2
    go_ret
    exact ⟨rfl, H.out, Mod.refl _ _⟩
/-- What Text leaves. -/
def Tt (c : Nat) (b : ByteArray) (r : ByteArray × Int × Int) (w : World) (e : Ending) (w' : World) : Prop := e = .returned (.string r.1) ∧ CB w' c r.2.1.toNat b r.2.2 ∧ Mod (At c) w w'
set_option maxRecDepth 20000 in
set_option maxHeartbeats 1000000 in
theorem text (c a : Nat) (b : ByteArray) (e n : Int) (w : World) (h : CB w c a b e) (ha : a ≤ b.size) (hz : b.size ≤ 140737488355328) (hn1 : n < 9223372036854775808) :
    Calls Try.prog 38 #[.pointer (some ⟨c, 0, none⟩), .int .i64 n] w (Tt c b (ctext b a e n) w) := by
  unfold ctext
  by_cases he : e = 0
  · rw [if_pos he]
    subst he
    by_cases hn0 : n < 0
    · rw [if_pos hn0]
      obtain ⟨⟨c0, c1, c2⟩, g0, g2⟩ := three h
      have HF := fun x => fail_ c a b 0 x w h
      clear h ha hz hn1
      go_enter Try.func38, Try.ntmps38
      go_wp2_with fail
      refine (HF 7).mono ?_
      rintro e w3 ⟨rfl, h3, m3⟩
      go_wp2
      go_ret
      exact ⟨rfl, h3, m3⟩
    · rw [if_neg hn0]
      by_cases hlt : (b.size : Int) - a < n
      · rw [if_pos hlt]
        have hw : IntKind.i64.wrap ((b.size : Int) - (a : Int)) = (b.size : Int) - (a : Int) := wrapi64 (by omega) (by omega)
        have hw2 : wrap64 ((b.size : Int) - (a : Int)) = (b.size : Int) - (a : Int) := by unfold wrap64; omega
        have HF := fun w h x => fail_ c a b 0 x w h
        obtain ⟨⟨c0, c1, c2⟩, g0, g2⟩ := three h
        have H := Lib.hid h
        clear h ha hz hn1
        go_enter Try.func38, Try.ntmps38
        go_wp2
        go_quiet (fail)
        go_wp2_with fail
        refine (HF _ (CB.below H.out (pw_below_drewN (Below.refl _ _) _)) 2).mono ?_
        rintro e w3 ⟨rfl, h3, m3⟩
        go_wp2
        go_ret
        exact ⟨rfl, h3, (Mod.of (pw_below_drewN (Below.refl _ _) _)).trans m3 (fun k hk => .inl hk)⟩
      · rw [if_neg hlt]
        obtain ⟨m, rfl⟩ : ∃ m : Nat, n = (m : Int) := ⟨n.toNat, by omega⟩
        rw [Int.toNat_natCast]
        have hw : IntKind.i64.wrap ((b.size : Int) - (a : Int)) = (b.size : Int) - (a : Int) := wrapi64 (by omega) (by omega)
        have hw2 : wrap64 ((b.size : Int) - (a : Int)) = (b.size : Int) - (a : Int) := by unfold wrap64; omega
        have hB : Hid (a + m ≤ b.size ∧ b.size ≤ 140737488355328) := Lib.hid ⟨by omega, hz⟩
        have HM := fun w (h : CB w c a b 0) => move_ c (a : Int) (m : Int) _ _ w h rfl (by omega)
        obtain ⟨⟨c0, c1, c2⟩, g0, g2⟩ := three h
        have H := Lib.hid h
        clear h ha hz hn1
        go_enter Try.func38, Try.ntmps38
        go_wp2
        go_quiet (fail)
        rename World => w0
        generalize hq : World.drewN _ _ = w1
        have b1 : Below w0.heap.size w0 w1 := by rw [← hq]; exact pw_below_drewN (Below.refl _ _) _
        clear hq c0 c1 c2 g0 g2 hw hw2
        have h1 := H.out.below b1
        obtain ⟨⟨c0, c1, c2⟩, g0, g2⟩ := three h1
        go_wp2_with fail
        refine (HM w1 h1).mono ?_
        rintro e w2 ⟨rfl, rfl⟩
        have h2 : CB (w1.setCell ⟨c, 0, none⟩ (.int .i64 ((a : Int) + (m : Int)))) c (a + m) b 0 := h1.place (a + m)
        have m2 : Mod (At c) w0 (w1.setCell ⟨c, 0, none⟩ (.int .i64 ((a : Int) + (m : Int)))) := at_set (Mod.of b1) _ _
        have he : ((a : Int) + (m : Int)) = ((a + m : Nat) : Int) := by omega
        rw [he] at h2 m2 ⊢
        clear he
        generalize w1.setCell ⟨c, 0, none⟩ (.int .i64 ((a + m : Nat) : Int)) = w2 at *
        clear c0 c1 c2 g0 g2 h1 b1 HM
        obtain ⟨⟨c0, c1, c2⟩, g0, g2⟩ := three h2
        have H2 := Lib.hid h2
        have hlo : a ≤ a + m := by omega
        have hhi : a + m ≤ b.size := hB.out.1
        clear h2 H hn0 hlt
        generalize hx : a + m = x at *
        have HX := Lib.hid hx
        clear hx
        go_wp2
        go_quiet (fail)
        go_wp2
        go_ret
        refine ⟨rfl, ?_, m2.trans (Mod.of (F := At c) (pw_below_drewN (Below.refl _ _) _)) (fun k hk => .inl hk)⟩
        show CB _ c ((a : Int) + (m : Int)).toNat b 0
        rw [show ((a : Int) + (m : Int)).toNat = x from by have := HX.out; omega]
        exact CB.below H2.out (pw_below_drewN (Below.refl _ _) _)
  · rw [if_neg he]
    have e1 : (e != 0) = true := by simpa using he
    obtain ⟨⟨c0, c1, c2⟩, g0, g2⟩ := three h
    have H := Lib.hid h
    clear h ha hz hn1
    go_enter Try.func38, Try.ntmps38
    go_wp2
    go_ret
    exact ⟨rfl, H.out, Mod.refl _ _⟩
end Go.Proofs.Ytmlfnlmdnhblmaa.Cur
namespace Go.Proofs.Ytmlfnlmdnhblmaa.Cur
open Go.RowKit Base Sp Flat Go.Proofs.YtmlfnlmdnhblmaaW.PrintWords Go.Proofs.YtmlfnlmdnhblmaaW.PrintLast Wd Al Buf
theorem ctake_at (b : ByteArray) (a : Nat) (e s : Int) (ha : a ≤ b.size) : ∃ a2 : Nat, (ctake b a e s).2.1 = (a2 : Int) ∧ a2 ≤ b.size := by
  unfold ctake
  by_cases h1 : e ≠ 0
  · rw [if_pos h1]; exact ⟨a, rfl, ha⟩
  · rw [if_neg h1]
    by_cases h2 : sz s = false
    · rw [if_pos h2]; exact ⟨a, rfl, ha⟩
    · rw [if_neg h2]
      by_cases h3 : pad b (gapv a s).toNat a ≠ 0
      · rw [if_pos h3]; exact ⟨a, rfl, ha⟩
      · rw [if_neg h3]
        by_cases h4 : (takev b ((a : Int) + gapv a s) s).2 ≠ 0
        · rw [if_pos h4]; exact ⟨a, rfl, ha⟩
        · rw [if_neg h4]
          have hs : sz s = true := by simpa using h2
          have hc := sz_cases hs
          have hg := gapv_le a s
          have h5 : ¬ ((b.size : Int) < (a : Int) + gapv a s + s) := fun h => h4 ((takev_err b _ s (by omega) (by omega)).2 h)
          exact ⟨((a : Int) + gapv a s + s).toNat, by show (a : Int) + gapv a s + s = _; omega, by omega⟩
theorem ctext_at (b : ByteArray) (a : Nat) (e n : Int) (ha : a ≤ b.size) : ∃ a2 : Nat, (ctext b a e n).2.1 = (a2 : Int) ∧ a2 ≤ b.size := by
  unfold ctext
  by_cases h1 : e = 0
  · rw [if_pos h1]
    by_cases h2 : n < 0
    · rw [if_pos h2]; exact ⟨a, rfl, ha⟩
    · rw [if_neg h2]
      by_cases h3 : (b.size : Int) - a < n
      · rw [if_pos h3]; exact ⟨a, rfl, ha⟩
      · rw [if_neg h3]
        exact ⟨((a : Int) + n).toNat, by show (a : Int) + n = _; omega, by omega⟩
  · rw [if_neg h1]; exact ⟨a, rfl, ha⟩
theorem ctext_ex (b : ByteArray) (a : Nat) (e n : Int) (ha : a ≤ b.size) : ∃ (sv : ByteArray) (a2 : Nat) (e2 : Int), ctext b a e n = (sv, (a2 : Int), e2) ∧ a2 ≤ b.size := by
  obtain ⟨a2, h, h2⟩ := ctext_at b a e n ha
  exact ⟨_, a2, _, by rw [← h], h2⟩
theorem ctake_ex (b : ByteArray) (a : Nat) (e n : Int) (ha : a ≤ b.size) : ∃ (sv : Int) (a2 : Nat) (e2 : Int), ctake b a e n = (sv, (a2 : Int), e2) ∧ a2 ≤ b.size := by
  obtain ⟨a2, h, h2⟩ := ctake_at b a e n ha
  exact ⟨_, a2, _, by rw [← h], h2⟩
theorem text_at (c a : Nat) (b : ByteArray) (e n : Int) (w : World) (h : CB w c a b e) (ha : a ≤ b.size) (hz : b.size ≤ 140737488355328) (hn : n < 9223372036854775808) {sv : ByteArray} {a2 : Nat} {e2 : Int} (hr : ctext b a e n = (sv, (a2 : Int), e2)) :
    Calls Try.prog 38 #[.pointer (some ⟨c, 0, none⟩), .int .i64 n] w fun e' w' => e' = .returned (.string sv) ∧ CB w' c a2 b e2 ∧ Mod (At c) w w' := by
  have := text c a b e n w h ha hz hn
  rw [hr] at this
  exact this
theorem take_at (c a : Nat) (b : ByteArray) (e n : Int) (w : World) (h : CB w c a b e) (ha : a ≤ b.size) (hz : b.size ≤ 140737488355328) {sv : Int} {a2 : Nat} {e2 : Int} (hr : ctake b a e n = (sv, (a2 : Int), e2)) :
    Calls Try.prog 37 #[.pointer (some ⟨c, 0, none⟩), .int .i64 n] w fun e' w' => e' = .returned (.int .u64 sv) ∧ CB w' c a2 b e2 ∧ Mod (At c) w w' := by
  have := take c a b e n w h ha hz
  rw [hr] at this
  exact this
end Go.Proofs.Ytmlfnlmdnhblmaa.Cur
namespace Go.Proofs.Ytmlfnlmdnhblmaa.Cur
open Go.RowKit Base Sp Flat Go.Proofs.YtmlfnlmdnhblmaaW.PrintWords Go.Proofs.YtmlfnlmdnhblmaaW.PrintLast Wd Al Buf
theorem tx_get (l : List UInt8) (i : Nat) (h : i < (tx l).size) : (tx l)[i] = l[i]'h := rfl
theorem pad_zeros (b : ByteArray) : ∀ (g a : Nat), (∀ j, j < g → ∃ h : a + j < b.size, b[a + j] = 0) → pad b g a = 0
  | 0, _, _ => rfl
  | g + 1, a, h => by
    obtain ⟨h0, h1⟩ := h 0 (by omega)
    rw [pad_step (by simpa using h0) (by simpa using h1)]
    exact pad_zeros b g (a + 1) (fun j hj => by
      obtain ⟨h2, h3⟩ := h (j + 1) (by omega)
      exact ⟨by omega, by have e : a + 1 + j = a + (j + 1) := by omega
                          simp only [e]; exact h3⟩)
theorem pcode_sz {n s : Int} (h : pcode n s = 0) : sz s = true ∧ n < pw s := by
  unfold pcode at h
  split at h
  · split at h
    · exact ⟨by assumption, by assumption⟩
    · cases h
  · cases h
theorem pbytes_len {n s : Int} (P : List UInt8) (h : pcode n s = 0) : ((pbytes P n s).length : Int) = P.length + gapv P.length s + s := by
  have hc := sz_cases (pcode_sz h).1
  have hg := gapv_le P.length s
  unfold pbytes
  rw [List.length_append, List.length_append, List.length_replicate, nbytes_len]
  omega
theorem ctake_back (P : List UInt8) (n s : Int) (hc : pcode n s = 0) (h0 : 0 ≤ n) (R : List UInt8) : ctake (tx (pbytes P n s ++ R)) P.length 0 s = (n, ((pbytes P n s).length : Int), 0) := by
  obtain ⟨hs, hp⟩ := pcode_sz hc
  have hg := gapv_le P.length s
  have hpad : pad (tx (pbytes P n s ++ R)) (gapv P.length s).toNat P.length = 0 := by
    refine pad_zeros _ _ _ (fun j hj => ?_)
    have hsz : (tx (pbytes P n s ++ R)).size = P.length + (gapv P.length s).toNat + (nbytes n s).length + R.length := by
      rw [tx_size, List.length_append, pbytes, List.length_append, List.length_append, List.length_replicate]
    refine ⟨by omega, ?_⟩
    rw [tx_get]
    simp only [pbytes, List.append_assoc]
    rw [List.getElem_append_right (by omega), List.getElem_append_left (by simp; omega), List.getElem_replicate]
  have htk : takev (tx (pbytes P n s ++ R)) ((P.length : Int) + gapv P.length s) s = (n, 0) := by
    have e : tx (pbytes P n s ++ R) = tx (P ++ List.replicate (gapv P.length s).toNat 0) ++ strOfNums (le n s.toNat) ++ tx R := by
      unfold pbytes
      rw [tx_app, tx_app]
      rfl
    have e2 : ((P.length : Int) + gapv P.length s) = ((tx (P ++ List.replicate (gapv P.length s).toNat 0)).size : Int) := by
      rw [tx_size, List.length_append, List.length_replicate]
      omega
    rw [e, e2]
    exact take_back _ _ n s hs h0 hp
  unfold ctake
  rw [if_neg (fun h => h rfl), if_neg (by rw [hs]; decide), hpad, if_neg (by decide), htk, if_neg (fun h => h rfl), pbytes_len P hc]
theorem extract_mid (a t b : ByteArray) : (a ++ t ++ b).extract a.size (a.size + t.size) = t := by
  apply ByteArray.ext
  apply Array.ext'
  have h1 : a.size = a.data.toList.length := rfl
  have h2 : t.size = t.data.toList.length := rfl
  rw [h1, h2, ByteArray.data_extract, ByteArray.data_append, ByteArray.data_append, Array.toList_extract, Array.toList_append, Array.toList_append, List.extract_eq_take_drop, List.append_assoc, List.drop_left, Nat.add_sub_cancel_left, List.take_left]
theorem ctext_back (P : List UInt8) (T : ByteArray) (R : List UInt8) : ctext (tx (P ++ T.data.toList ++ R)) P.length 0 T.size = (T, ((P ++ T.data.toList).length : Int), 0) := by
  have hsz : (tx (P ++ T.data.toList ++ R)).size = P.length + T.size + R.length := by
    rw [tx_size, List.length_append, List.length_append]
    rfl
  unfold ctext
  rw [if_pos rfl, if_neg (by omega), if_neg (by rw [hsz]; omega), Int.toNat_natCast]
  have e : tx (P ++ T.data.toList ++ R) = tx P ++ T ++ tx R := by rw [tx_app, tx_app]; rfl
  rw [e, show P.length = (tx P).size from rfl, extract_mid, List.length_append]
  rfl
end Go.Proofs.Ytmlfnlmdnhblmaa.Cur
namespace Go.Proofs.Ytmlfnlmdnhblmaa.Rec
open Go.RowKit Base Sp Flat Go.Proofs.YtmlfnlmdnhblmaaW.PrintWords Go.Proofs.YtmlfnlmdnhblmaaW.PrintLast Go.Proofs.YtmlfnlmdnhblmaaW.PrintMore Wd Al Buf Smp Cur
/-- A sample's cells, of parts. -/
def cl (op wr fr ru se : Int) (key : List Int) (d : ByteArray) : List Value := [.int .i64 op, .int .i64 wr, .int .u64 fr, .int .u64 ru, .int .u64 se] ++ (nums .u8 key ++ [.string d])
theorem cl_cells (x : Smp) : cl x.op x.writer x.frame x.run x.seq x.key x.data = cells x := rfl
theorem cl_len (op wr fr ru se : Int) (key : List Int) (d : ByteArray) (h : key.length = 17) : (cl op wr fr ru se key d).length = 23 := by
  unfold cl
  rw [List.length_append, List.length_append, nums_length, h]
  rfl
theorem cl_22 (op wr fr ru se : Int) (key : List Int) (d d2 : ByteArray) (h : key.length = 17) : (cl op wr fr ru se key d).set 22 (.string d2) = cl op wr fr ru se key d2 := by
  unfold cl
  rw [List.set_append_right _ _ (by simp), List.set_append_right _ _ (by rw [nums_length, h]; simp), nums_length, h]
  rfl
theorem cl_key (op wr fr ru se : Int) (key k2 : List Int) (d : ByteArray) (h : key.length = 17) (h2 : k2.length = 17) : (cl op wr fr ru se key d).take 5 ++ nums .u8 k2 ++ (cl op wr fr ru se key d).drop (5 + 17) = cl op wr fr ru se k2 d := by
  unfold cl
  rw [List.take_append_of_le_length (by simp), List.take_of_length_le (by simp), show (5 + 17 : Nat) = 22 from rfl, List.drop_append, List.drop_eq_nil_of_le (by simp), List.nil_append, List.drop_append, List.drop_eq_nil_of_le (by rw [nums_length, h]; simp), nums_length, h, List.append_assoc]
  rfl
/-- The bytes of a text as numbers. -/
def byn (b : ByteArray) : List Int := b.data.toList.map fun c => (c.toNat : Int)
theorem byn_len (b : ByteArray) : (byn b).length = b.size := List.length_map _
theorem byn_cells (b : ByteArray) : Go.Lib.byteCells b.data.toList = nums .u8 (byn b) := by
  unfold Go.Lib.byteCells nums byn
  rw [List.map_map]
  rfl
/-- What is known while the first record is taken. -/
structure Fp (w0 w : World) (g2 c g6 : Nat) (a : Nat) (e : Int) (b : ByteArray) (op wr fr ru se : Int) (key : List Int) (d : ByteArray) : Prop where
  hc : CB w c a b e
  h2 : w.heap[g2]? = some (.cells (cells zsmp).toArray 26 (0, 0))
  h6 : w.heap[g6]? = some (.cells (cl op wr fr ru se key d).toArray 26 (0, 0))
  n26 : g2 ≠ g6
  nc2 : c ≠ g2
  nc6 : c ≠ g6
  l2 : w0.heap.size ≤ g2
  lc : w0.heap.size ≤ c
  l6 : w0.heap.size ≤ g6
  be : Below w0.heap.size w0 w
section
variable {w0 w w' : World} {g2 c g6 a a2 : Nat} {e e2 : Int} {b : ByteArray} {op wr fr ru se : Int} {key : List Int} {d : ByteArray}
theorem Fp.cur (h : Fp w0 w g2 c g6 a e b op wr fr ru se key d) (hc : CB w' c a2 b e2) (m : Mod (At c) w w') : Fp w0 w' g2 c g6 a2 e2 b op wr fr ru se key d :=
  ⟨hc, (m.block _ (blk_lt h.h2) (fun e => h.nc2 (Eq.symm e))).trans h.h2, (m.block _ (blk_lt h.h6) (fun e => h.nc6 (Eq.symm e))).trans h.h6, h.n26, h.nc2, h.nc6, h.l2, h.lc, h.l6, m.below h.be h.be.size (fun k hk => by rw [show k = c from hk]; exact h.lc)⟩
theorem Fp.bel (h : Fp w0 w g2 c g6 a e b op wr fr ru se key d) (hb : Below w.heap.size w w') : Fp w0 w' g2 c g6 a e b op wr fr ru se key d :=
  ⟨h.hc.below hb, blk_below h.h2 hb, blk_below h.h6 hb, h.n26, h.nc2, h.nc6, h.l2, h.lc, h.l6, bstep h.be hb⟩
theorem Fp.set (h : Fp w0 w g2 c g6 a e b op wr fr ru se key d) (i : Nat) (v : Value) {op' wr' fr' ru' se' : Int} {key' : List Int} {d' : ByteArray} (hs : (cl op wr fr ru se key d).set i v = cl op' wr' fr' ru' se' key' d') :
    Fp w0 (w.setCell ⟨g6, i, none⟩ v) g2 c g6 a e b op' wr' fr' ru' se' key' d' := by
  refine ⟨blk_far h.hc h.nc6 v, blk_far h.h2 h.n26 v, ?_, h.n26, h.nc2, h.nc6, h.l2, h.lc, h.l6, h.be.setCell (p := ⟨g6, i, none⟩) h.l6 v⟩
  have := blk_set h.h6 i v
  rw [List.setIfInBounds_toArray, hs] at this
  exact this
theorem Fp.keyed (h : Fp w0 w g2 c g6 a e b op wr fr ru se key d) {k : ByteArray} {key' : List Int} (hc : (cl op wr fr ru se key d).take 5 ++ Go.Lib.byteCells k.data.toList ++ (cl op wr fr ru se key d).drop (5 + k.size) = cl op wr fr ru se key' d) {w1 : World}
    (hw : w1 = w.setRow g6 ((cl op wr fr ru se key d).toArray.toList.take 5 ++ Go.Lib.byteCells k.data.toList ++ (cl op wr fr ru se key d).toArray.toList.drop (5 + k.size)).toArray) : Fp w0 w1 g2 c g6 a e b op wr fr ru se key' d := by
  have hm : Mod (At g6) w w1 := by
    rw [hw]
    exact ⟨rfl, rfl, rfl, by simp [World.setRow], fun k _ hk => setRow_other w g6 k _ (fun e => hk e)⟩
  refine ⟨h.hc.far hm (fun e => h.nc6 (by first | exact e | exact Eq.symm e)), (hm.block _ (blk_lt h.h2) (fun e => h.n26 (by first | exact e | exact Eq.symm e))).trans h.h2, ?_, h.n26, h.nc2, h.nc6, h.l2, h.lc, h.l6, hm.below h.be h.be.size (fun k hk => by rw [show k = g6 from hk]; exact h.l6)⟩
  rw [hw, List.toList_toArray, hc]
  exact setRow_heap w g6 _ _ _ _ h.h6
theorem Fp.drew (h : Fp w0 w g2 c g6 a e b op wr fr ru se key d) : Fp w0 w.drew g2 c g6 a e b op wr fr ru se key d := h.bel (Below.refl _ _).drew
theorem Fp.cell (h : Fp w0 w g2 c g6 a e b op wr fr ru se key d) (i : Nat) {v : Value} (hv : (cl op wr fr ru se key d)[i]? = some v) : w.cell? ⟨g6, i, none⟩ = some v := by
  rw [blk_cell h.h6, List.getElem?_toArray]
  exact hv
theorem Fp.froz (h : Fp w0 w g2 c g6 a e b op wr fr ru se key d) (i : Nat) : w.frozen? ⟨g6, i, none⟩ = false := blk_frozen h.h6 i
end
/-- The first record's numbers and texts, one behind the other. -/
structure Ch (b : ByteArray) (n1 n2 n3 n4 n5 n6 : Int) (k d z : ByteArray) (a1 a2 a3 a4 a5 a6 a7 a8 a9 : Nat) (e1 e2 e3 e4 e5 e6 e7 e8 e9 : Int) : Prop where
  h1 : ctake b 0 0 8 = (n1, (a1 : Int), e1)
  h2 : ctake b a1 e1 8 = (n2, (a2 : Int), e2)
  h3 : ctake b a2 e2 8 = (n3, (a3 : Int), e3)
  h4 : ctake b a3 e3 1 = (n4, (a4 : Int), e4)
  h5 : ctake b a4 e4 1 = (n5, (a5 : Int), e5)
  h6 : ctake b a5 e5 2 = (n6, (a6 : Int), e6)
  h7 : ctext b a6 e6 17 = (k, (a7 : Int), e7)
  h8 : ctext b a7 e7 n6 = (d, (a8 : Int), e8)
  h9 : ctext b a8 e8 (gapv a8 8) = (z, (a9 : Int), e9)
  l1 : a1 ≤ b.size
  l2 : a2 ≤ b.size
  l3 : a3 ≤ b.size
  l4 : a4 ≤ b.size
  l5 : a5 ≤ b.size
  l6 : a6 ≤ b.size
  l7 : a7 ≤ b.size
  l8 : a8 ≤ b.size
  l9 : a9 ≤ b.size
theorem ch_ex (b : ByteArray) : ∃ n1 n2 n3 n4 n5 n6 k d z a1 a2 a3 a4 a5 a6 a7 a8 a9 e1 e2 e3 e4 e5 e6 e7 e8 e9, Ch b n1 n2 n3 n4 n5 n6 k d z a1 a2 a3 a4 a5 a6 a7 a8 a9 e1 e2 e3 e4 e5 e6 e7 e8 e9 := by
  obtain ⟨n1, a1, e1, h1, l1⟩ := ctake_ex b 0 0 8 (Nat.zero_le _)
  obtain ⟨n2, a2, e2, h2, l2⟩ := ctake_ex b a1 e1 8 l1
  obtain ⟨n3, a3, e3, h3, l3⟩ := ctake_ex b a2 e2 8 l2
  obtain ⟨n4, a4, e4, h4, l4⟩ := ctake_ex b a3 e3 1 l3
  obtain ⟨n5, a5, e5, h5, l5⟩ := ctake_ex b a4 e4 1 l4
  obtain ⟨n6, a6, e6, h6, l6⟩ := ctake_ex b a5 e5 2 l5
  obtain ⟨k, a7, e7, h7, l7⟩ := ctext_ex b a6 e6 17 l6
  obtain ⟨d, a8, e8, h8, l8⟩ := ctext_ex b a7 e7 n6 l7
  obtain ⟨z, a9, e9, h9, l9⟩ := ctext_ex b a8 e8 (gapv a8 8) l8
  exact ⟨_, _, _, _, _, _, _, _, _, _, _, _, _, _, _, _, _, _, _, _, _, _, _, _, _, _, _, h1, h2, h3, h4, h5, h6, h7, h8, h9, l1, l2, l3, l4, l5, l6, l7, l8, l9⟩
theorem pw_pos (s : Int) : 0 < pw s := by
  unfold pw
  repeat' split
  all_goals omega
theorem ctake_rng {b : ByteArray} {a a2 : Nat} {e e2 s n : Int} (hs : sz s = true) (h : ctake b a e s = (n, (a2 : Int), e2)) : 0 ≤ n ∧ n < pw s := by
  have hp := pw_pos s
  have hc := sz_cases hs
  unfold ctake at h
  split at h
  · simp only [Prod.mk.injEq] at h; omega
  · rw [if_neg (by rw [hs]; decide)] at h
    split at h
    · simp only [Prod.mk.injEq] at h; omega
    · split at h
      · simp only [Prod.mk.injEq] at h; omega
      · rename_i h4
        simp only [Prod.mk.injEq] at h
        obtain ⟨h1, _⟩ := h
        rw [← h1]
        unfold takev
        split
        · exact ⟨Int.le_refl _, hp⟩
        · split
          · exact ⟨Int.le_refl _, hp⟩
          · exact ⟨lev_lo _ (fun i => bt_range b _) _, by rw [← pw_pow hs]; exact lev_hi _ (fun i => bt_range b _) _⟩
/-- A text that was taken has its length, or is empty. -/
theorem ctext_sz {b : ByteArray} {a a2 : Nat} {e e2 n : Int} {t : ByteArray} (ha : a ≤ b.size) (h : ctext b a e n = (t, (a2 : Int), e2)) : (e2 = 0 ∧ e = 0 ∧ (t.size : Int) = n) ∨ (e2 ≠ 0 ∧ t.size = 0) := by
  unfold ctext at h
  split at h
  · rename_i he
    split at h
    · simp only [Prod.mk.injEq] at h
      right
      refine ⟨by omega, ?_⟩
      rw [← h.1]
      rfl
    · split at h
      · simp only [Prod.mk.injEq] at h
        right
        refine ⟨by omega, ?_⟩
        rw [← h.1]
        rfl
      · simp only [Prod.mk.injEq] at h
        left
        refine ⟨by omega, he, ?_⟩
        rw [← h.1, ByteArray.size_extract]
        omega
  · rename_i he
    simp only [Prod.mk.injEq] at h
    right
    refine ⟨by omega, ?_⟩
    rw [← h.1]
    rfl
/-- What first answers as error. -/
def fcode (n6 : Int) (z : ByteArray) (e7 e9 : Int) : Int := if e7 = 0 ∧ 512 < n6 then 3 else if e9 ≠ 0 then e9 else if z ≠ tx (List.replicate z.size 0) then 12 else 0
/-- What first answers: a sample, how many bytes it has, the error. -/
def FirstIs (b : ByteArray) (x : Smp) (n : Nat) (e : Int) : Prop :=
  ∃ n1 n2 n3 n4 n5 n6 k d z a1 a2 a3 a4 a5 a6 a7 a8 a9 e1 e2 e3 e4 e5 e6 e7 e8 e9, Ch b n1 n2 n3 n4 n5 n6 k d z a1 a2 a3 a4 a5 a6 a7 a8 a9 e1 e2 e3 e4 e5 e6 e7 e8 e9 ∧
    e = fcode n6 z e7 e9 ∧ (e = 0 → x.op = n4 ∧ x.writer = n5 ∧ x.frame = n1 ∧ x.run = n2 ∧ x.seq = n3 ∧ x.key = byn k ∧ x.data = d ∧ n = a9)
/-- What the call of first answers. -/
def First (b : ByteArray) (w : World) (e' : Ending) (w' : World) : Prop := ∃ (x : Smp) (n : Nat) (e : Int), e' = .returned (.tuple #[.agg (cells x).toArray, .int .i64 (n : Int), .int .i64 e]) ∧ FirstIs b x n e ∧ Below w.heap.size w w'
section
variable {P : Program} {o : Oper} {a : Act} {Q : Exit → Act → World → Prop} {K : Act → World → Prop}
/-- A copy whose run is known, as one operation. -/
theorem op_copy {W w1 : World} {r v u : Value} (s x : Operand) (t t' : TypeId) (ho : o.op = .call { callee := .builtin .copy, args := #[s, x], argTypes := #[t, t'] })
    (hs : a.eval s = v) (hx : a.eval x = u) (hrun : (Builtin.copy_ #[t, t'] o.type #[v, u]).run P W = .ok r w1) (h : K (a.put o.dst r) w1) : Oper.wp P o a W K Q := by
  unfold Oper.wp execOp
  simp only [ho, resolve, invoke, builtin, Sem.run_bind, Sem.run_pure, Result.andThen_ok, List.map_toArray, List.map_cons, List.map_nil, hs, hx, hrun]
  exact h
end
end Go.Proofs.Ytmlfnlmdnhblmaa.Rec
namespace Go.Proofs.Ytmlfnlmdnhblmaa.Rec
open Go.RowKit Base Sp Flat Go.Proofs.YtmlfnlmdnhblmaaW.PrintWords Go.Proofs.YtmlfnlmdnhblmaaW.PrintLast Go.Proofs.YtmlfnlmdnhblmaaW.PrintMore Wd Al Buf Smp Cur
theorem zc : (cells zsmp).toArray = #[.int .i64 0, .int .i64 0, .int .u64 0, .int .u64 0, .int .u64 0, .int .u8 0, .int .u8 0, .int .u8 0, .int .u8 0, .int .u8 0, .int .u8 0, .int .u8 0, .int .u8 0, .int .u8 0, .int .u8 0, .int .u8 0, .int .u8 0, .int .u8 0, .int .u8 0, .int .u8 0, .int .u8 0, .int .u8 0, .string ⟨#[]⟩] := by kernel_rfl
theorem box_at {w : World} {g : Nat} {t : TypeId} {cs : List Value} (h : w.heap[g]? = some (.cells cs.toArray t (0, 0))) : CellsAt w ⟨g, 0, none⟩ cs := fun j v hj => by
  have e : (⟨g, 0, none⟩ : Addr).add j = ⟨g, j, none⟩ := by
    unfold Addr.add
    by_cases h1 : j = 0 <;> simp [h1]
  rw [e, blk_cell h, List.getElem?_toArray]
  exact hj
theorem res_box {w : World} {g : Nat} {x : Smp} (h : w.heap[g]? = some (.cells (cells x).toArray 26 (0, 0))) : (loadVar 26 ⟨g, 0, none⟩).run Try.prog w = .ok (.agg (cells x).toArray) w :=
  loadVar_any _ _ _ _ (box_at h) Try.underlying26 rfl (size23 x)
theorem res_first {tmps : Array Value} {W : World} {g : Nat} {x : Smp} {v3 v4 : Value} (h2 : tmps.getD 2 undef = .pointer (some ⟨g, 0, none⟩)) (h3 : tmps.getD 3 undef = v3) (h4 : tmps.getD 4 undef = v4)
    (h : W.heap[g]? = some (.cells (cells x).toArray 26 (0, 0))) : (results Try.f27 tmps).run Try.prog W = .ok (.tuple #[.agg (cells x).toArray, v3, v4]) W := by
  have hres := res_box h
  rw [Array.getD_eq_getD_getElem?] at h2 h3 h4
  simp [results, Try.results27, h2, h3, h4, hres, asAddr, Sem.run_bind, Result.andThen, Sem.run_pure]
theorem zbox {w0 w wz : World} {g2 c g6 a : Nat} {e : Int} {b : ByteArray} {op wr fr ru se : Int} {key : List Int} {d : ByteArray} (h : Fp w0 w g2 c g6 a e b op wr fr ru se key d) (x : Smp) (hz : wz = w.setCells g2 0 (cells x)) :
    wz.heap[g2]? = some (.cells (cells x).toArray 26 (0, 0)) ∧ Below w0.heap.size w0 wz := by
  have n9 := box_set (x := x) h.h2
  rw [← hz] at n9
  have M9 : Mod (fun k => k = g2) w wz := hz ▸ setCells_mod w g2 0 (cells x)
  exact ⟨n9, M9.below h.be h.be.size (fun k hk => by rw [show k = g2 from hk]; exact h.l2)⟩
theorem zbox6 {w0 w : World} {g2 c g6 a : Nat} {e : Int} {b : ByteArray} {op wr fr ru se : Int} {key : List Int} {d : ByteArray} (h : Fp w0 w g2 c g6 a e b op wr fr ru se key d) (l : List Value) :
    (w.setCells g2 0 l).heap[g6]? = some (.cells (cl op wr fr ru se key d).toArray 26 (0, 0)) := by
  have M9 : Mod (fun k => k = g2) w (w.setCells g2 0 l) := setCells_mod w g2 0 l
  exact (M9.block _ (blk_lt h.h6) (fun e => h.n26 (Eq.symm e))).trans h.h6
theorem res_cl {w0 w : World} {g2 c g6 a : Nat} {e : Int} {b : ByteArray} {op wr fr ru se : Int} {key : List Int} {d : ByteArray} (h : Fp w0 w g2 c g6 a e b op wr fr ru se key d) : CellsAt w ⟨g6, 0, none⟩ (cl op wr fr ru se key d) := box_at h.h6
theorem clsz (op wr fr ru se : Int) (key : List Int) (d : ByteArray) (h : key.length = 17) : (Try.prog.info? 26).map (·.size) = some (cl op wr fr ru se key d).length := by rw [cl_len _ _ _ _ _ _ _ h]; kernel_rfl
theorem mk_i64 {n : Int} (h0 : -9223372036854775808 ≤ n) (h1 : n < 9223372036854775808) : (Lit.int .i64 n).wf = true := by
  simp [Lit.wf, IntKind.min, IntKind.max, IntKind.signed, IntKind.bits]
  omega
theorem mk_u64 {n : Int} (h0 : 0 ≤ n) (h1 : n < 18446744073709551616) : (Lit.int .u64 n).wf = true := by
  simp [Lit.wf, IntKind.min, IntKind.max, IntKind.signed, IntKind.bits]
  omega
theorem mk_u8 {n : Int} (h0 : 0 ≤ n) (h1 : n < 256) : (Lit.int .u8 n).wf = true := by
  simp [Lit.wf, IntKind.min, IntKind.max, IntKind.signed, IntKind.bits]
  omega
/-- The sample that first answers. -/
theorem fsmp {b : ByteArray} {n1 n2 n3 n4 n5 n6 : Int} {k d z : ByteArray} {a1 a2 a3 a4 a5 a6 a7 a8 a9 : Nat} {e1 e2 e3 e4 e5 e6 e7 e8 e9 : Int} (CH : Ch b n1 n2 n3 n4 n5 n6 k d z a1 a2 a3 a4 a5 a6 a7 a8 a9 e1 e2 e3 e4 e5 e6 e7 e8 e9)
    (key' : List Int) (hk : key'.length = 17) (hr : ∀ x ∈ key', 0 ≤ x ∧ x < 256) (hd : d.size ≤ maxLen) : ∃ x : Smp, cells x = cl n4 n5 n1 n2 n3 key' d ∧ x.op = n4 ∧ x.writer = n5 ∧ x.frame = n1 ∧ x.run = n2 ∧ x.seq = n3 ∧ x.key = key' ∧ x.data = d := by
  have r1 := ctake_rng rfl CH.h1
  have r2 := ctake_rng rfl CH.h2
  have r3 := ctake_rng rfl CH.h3
  have r4 := ctake_rng rfl CH.h4
  have r5 := ctake_rng rfl CH.h5
  have p8 : pw 8 = 18446744073709551616 := rfl
  have p1 : pw 1 = 256 := rfl
  rw [p8] at r1 r2 r3
  rw [p1] at r4 r5
  refine ⟨⟨n4, n5, n1, n2, n3, key', d, mk_i64 (by omega) (by omega), mk_i64 (by omega) (by omega), mk_u64 r1.1 r1.2, mk_u64 r2.1 r2.2, mk_u64 r3.1 r3.2, ⟨hk, fun x hx => mk_u8 (hr x hx).1 (hr x hx).2⟩, hd⟩, rfl, rfl, rfl, rfl, rfl, rfl, rfl, rfl⟩
theorem byn_rng (b : ByteArray) : ∀ x ∈ byn b, 0 ≤ x ∧ x < 256 := fun x hx => by
  unfold byn at hx
  obtain ⟨c, _, rfl⟩ := List.mem_map.1 hx
  have := c.toNat_lt
  omega
/-- The key behind the copy. -/
theorem key_after {k : ByteArray} {a7 : Nat} {b : ByteArray} {a6 : Nat} {e6 e7 : Int} (ha : a6 ≤ b.size) (h : ctext b a6 e6 17 = (k, (a7 : Int), e7)) (op wr fr ru se : Int) :
    ∃ key' : List Int, (cl op wr fr ru se (List.replicate 17 0) ⟨#[]⟩).take 5 ++ Go.Lib.byteCells k.data.toList ++ (cl op wr fr ru se (List.replicate 17 0) ⟨#[]⟩).drop (5 + k.size) = cl op wr fr ru se key' ⟨#[]⟩ ∧ key'.length = 17 ∧ (∀ x ∈ key', 0 ≤ x ∧ x < 256) ∧ (e7 = 0 → key' = byn k) ∧ k.size ≤ 17 := by
  rcases ctext_sz ha h with ⟨h7, _, hs⟩ | ⟨h7, hs⟩
  · have hs2 : k.size = 17 := by omega
    refine ⟨byn k, ?_, by rw [byn_len, hs2], byn_rng k, fun _ => rfl, by omega⟩
    rw [byn_cells, hs2]
    exact cl_key op wr fr ru se (List.replicate 17 0) (byn k) ⟨#[]⟩ rfl (by rw [byn_len, hs2])
  · have hk : k.data.toList = [] := List.length_eq_zero_iff.1 hs
    refine ⟨List.replicate 17 0, ?_, rfl, fun x hx => by rw [List.eq_of_mem_replicate hx]; decide, fun h => absurd h h7, by omega⟩
    rw [hk, hs, show Go.Lib.byteCells [] = [] from rfl, List.append_nil]
    exact List.take_append_drop 5 _
theorem cl_at22 (op wr fr ru se : Int) (key : List Int) (d : ByteArray) (h : key.length = 17) : (cl op wr fr ru se key d)[22]? = some (.string d) := by
  unfold cl
  rw [List.getElem?_append_right (by simp), List.getElem?_append_right (by rw [nums_length, h]; simp), nums_length, h]
  rfl
set_option maxRecDepth 20000 in
set_option maxHeartbeats 8000000 in
theorem first (b : ByteArray) (hb : b.size ≤ 140737488355328) (w : World) : Calls Try.prog 27 #[.string b] w (First b w) := by
  obtain ⟨n1, n2, n3, n4, n5, n6, k, d, z, a1, a2, a3, a4, a5, a6, a7, a8, a9, e1, e2, e3, e4, e5, e6, e7, e8, e9, CH⟩ := ch_ex b
  have hz := Lib.hid hb
  have r4 := ctake_rng rfl CH.h4
  have r5 := ctake_rng rfl CH.h5
  have r6 := ctake_rng rfl CH.h6
  have HR := Lib.hid (And.intro (ctake_rng rfl CH.h1) (And.intro (ctake_rng rfl CH.h2) (And.intro (ctake_rng rfl CH.h3) (And.intro r4 (And.intro r5 r6)))))
  have w4 : IntKind.i64.wrap n4 = n4 := wrapi64 (by omega) (by have : pw 1 = 256 := rfl; omega)
  have w5 : IntKind.i64.wrap n5 = n5 := wrapi64 (by omega) (by have : pw 1 = 256 := rfl; omega)
  have w6 : IntKind.i64.wrap n6 = n6 := wrapi64 (by omega) (by have : pw 2 = 65536 := rfl; omega)
  clear r4 r5 r6 hb
  have HZ := Lib.hid zc
  have b0 : Below w.heap.size w (w.alloc (.cells (cells zsmp).toArray 26)) := (Below.refl _ _).alloc (Nat.le_refl _) _
  have h0 := heap_alloc_new w (.cells (cells zsmp).toArray 26)
  obtain ⟨W0, hW0⟩ : ∃ W0, W0 = w.alloc (.cells (cells zsmp).toArray 26) := ⟨_, rfl⟩
  rw [← hW0] at b0 h0
  go_enter Try.func27, Try.ntmps27
  go_wp2_with fail
  rw [← HZ.out, ← hW0]
  clear hW0
  refine (read b W0).mono ?_
  rintro e' wa ⟨rfl, hc1, b1⟩
  have hl0 := blk_lt h0
  have n0 := blk_below h0 b1
  have bb := bstep b0 b1
  have hc2 := hc1.below ((Below.refl _ _).alloc (Nat.le_refl _) (.cells (cells zsmp).toArray 26))
  have F0 : Fp w (wa.alloc (.cells (cells zsmp).toArray 26)) w.heap.size W0.heap.size wa.heap.size 0 0 b 0 0 0 0 0 (List.replicate 17 0) ⟨#[]⟩ :=
    ⟨hc2, blk_alloc n0 _, heap_alloc_new _ _, fun e => by have := blk_lt n0; omega, fun e => by omega, fun e => by have := hc1.lt; omega, Nat.le_refl _, by omega, by have := bb.size; omega, bb.alloc bb.size _⟩
  clear b0 h0 hc1 b1 hl0 n0 bb hc2
  generalize W0.heap.size = c at *
  generalize hgs : wa.heap.size = g6 at F0
  generalize hws : w.heap.size = g2 at F0
  obtain ⟨Wb, hWb⟩ : ∃ Wb, Wb = wa.alloc (.cells (cells zsmp).toArray 26) := ⟨_, rfl⟩
  rw [← hWb] at F0
  have hP := take_at c 0 b 0 8 Wb F0.hc (Nat.zero_le _) hz.out CH.h1
  go_wp2_with fail
  rw [← HZ.out, ← hWb]
  refine hP.mono ?_
  rintro e' w1 ⟨rfl, hc', m'⟩
  have G1 := F0.cur hc' m'
  clear hP hc' m' F0
  clear hWb
  have hf := G1.froz 2
  have hv := G1.cell 2 (v := (.int .u64 0)) rfl
  obtain ⟨W1, hW1⟩ : ∃ W, W = w1.setCell ⟨g6, 2, none⟩ (.int .u64 n1) := ⟨_, rfl⟩
  have H1 := G1.set 2 (.int .u64 n1) rfl
  rw [← hW1] at H1
  clear G1
  have hP := take_at c a1 b e1 8 W1 H1.hc CH.l1 hz.out CH.h2
  go_wp2_with fail
  rw [← hW1]
  refine hP.mono ?_
  rintro e' w2 ⟨rfl, hc', m'⟩
  have G2 := H1.cur hc' m'
  clear hP hc' m' H1
  clear hf hv hW1
  have hf := G2.froz 3
  have hv := G2.cell 3 (v := (.int .u64 0)) rfl
  obtain ⟨W2, hW2⟩ : ∃ W, W = w2.setCell ⟨g6, 3, none⟩ (.int .u64 n2) := ⟨_, rfl⟩
  have H2 := G2.set 3 (.int .u64 n2) rfl
  rw [← hW2] at H2
  clear G2
  have hP := take_at c a2 b e2 8 W2 H2.hc CH.l2 hz.out CH.h3
  go_wp2_with fail
  rw [← hW2]
  refine hP.mono ?_
  rintro e' w3 ⟨rfl, hc', m'⟩
  have G3 := H2.cur hc' m'
  clear hP hc' m' H2
  clear hf hv hW2
  have hf := G3.froz 4
  have hv := G3.cell 4 (v := (.int .u64 0)) rfl
  obtain ⟨W3, hW3⟩ : ∃ W, W = w3.setCell ⟨g6, 4, none⟩ (.int .u64 n3) := ⟨_, rfl⟩
  have H3 := G3.set 4 (.int .u64 n3) rfl
  rw [← hW3] at H3
  clear G3
  have hP := take_at c a3 b e3 1 W3 H3.hc CH.l3 hz.out CH.h4
  go_wp2_with fail
  rw [← hW3]
  refine hP.mono ?_
  rintro e' w4 ⟨rfl, hc', m'⟩
  have G4 := H3.cur hc' m'
  clear hP hc' m' H3
  clear hf hv hW3
  have hf := G4.froz 0
  have hv := G4.cell 0 (v := (.int .i64 0)) rfl
  obtain ⟨W4, hW4⟩ : ∃ W, W = w4.setCell ⟨g6, 0, none⟩ (.int .i64 n4) := ⟨_, rfl⟩
  have H4 := G4.set 0 (.int .i64 n4) rfl
  rw [← hW4] at H4
  clear G4
  have hP := take_at c a4 b e4 1 W4 H4.hc CH.l4 hz.out CH.h5
  go_wp2_with fail
  rw [← hW4]
  refine hP.mono ?_
  rintro e' w5 ⟨rfl, hc', m'⟩
  have G5 := H4.cur hc' m'
  clear hP hc' m' H4
  clear hf hv hW4
  have hf := G5.froz 1
  have hv := G5.cell 1 (v := (.int .i64 0)) rfl
  obtain ⟨W5, hW5⟩ : ∃ W, W = w5.setCell ⟨g6, 1, none⟩ (.int .i64 n5) := ⟨_, rfl⟩
  have H5 := G5.set 1 (.int .i64 n5) rfl
  rw [← hW5] at H5
  clear G5
  have hP := take_at c a5 b e5 2 W5 H5.hc CH.l5 hz.out CH.h6
  go_wp2_with fail
  rw [← hW5]
  refine hP.mono ?_
  rintro e' w6 ⟨rfl, hc', m'⟩
  have G6 := H5.cur hc' m'
  clear hP hc' m' H5
  clear hf hv hW5
  go_wp2_with fail
  have hT := fun w' h => text_at c a6 b e6 17 w' h CH.l6 hz.out (by decide) CH.h7
  refine Reg.wp_plan (S := fun _ => True) 5 (.fl 0 (.fl 1 (.fl 2 (.one 3 (.one 4 .done))))) (by kernel_rfl) (by kernel_rfl) (by kernel_rfl) (by kernel_rfl) (fun _ _ _ d _ h => by cases d <;> exact h) ?_ (fun hHeld => ?_)
  · exact trivial
  refine Reg.G_on (o := { dst := some 31, op := Op.fieldAddr 26 (Operand.tmp 6) 5, type := 0, pos := "record.go:59", after := #[], guard := Option.none }) (v := ?_) (by rfl) ?_ (fun wS hSw => ?_) ?_
  rotate_left
  · kernel_rfl
  · (try dsimp only at hSw); go_simp; (try with_reducible rfl)
  try simp only [Act.put, List.setIfInBounds_toArray, List.set_cons_zero, List.set_cons_succ]
  refine Reg.G_on (o := { dst := some 32, op := Op.slice 24 (Operand.tmp 31) Option.none Option.none Option.none, type := 46, pos := "record.go:59", after := #[{ on := 0, ground := Ground.data }], guard := Option.none }) (v := ?_) (by rfl) ?_ (fun wS hSw => ?_) ?_
  rotate_left
  · kernel_rfl
  · (try dsimp only at hSw); go_simp; (try with_reducible rfl)
  try simp only [Act.put, List.setIfInBounds_toArray, List.set_cons_zero, List.set_cons_succ]
  refine Reg.G_on (o := { dst := some 33, op := Op.move (Operand.tmp 5), type := 74, pos := "record.go:59", after := #[], guard := Option.none }) (v := ?_) (by rfl) ?_ (fun wS hSw => ?_) ?_
  rotate_left
  · kernel_rfl
  · (try dsimp only at hSw); go_simp; (try with_reducible rfl)
  try simp only [Act.put, List.setIfInBounds_toArray, List.set_cons_zero, List.set_cons_succ]
  refine Reg.G_step (o := { dst := some 34, op := Op.call { callee := Callee.value (Operand.func 38), args := #[Operand.tmp 33, Operand.const (Value.int IntKind.i64 17)], argTypes := #[74, 3] }, type := 9, pos := "record.go:59", after := #[{ on := 2, ground := Ground.data }], guard := Option.none }) (by rfl) ?_ (fun K hK => ?_)
  · kernel_rfl
  go_simp
  refine (hT _ G6.drew.hc).mono ?_
  rintro e w' ⟨rfl, hc', m'⟩
  refine hK.out _ _ ?_ (fun hHeld => ?_)
  · exact trivial
  clear hK K
  try simp only [Act.put, List.setIfInBounds_toArray, List.set_cons_zero, List.set_cons_succ]
  have G7 := G6.drew.cur hc' m'
  clear hHeld hc' m' hT G6
  obtain ⟨key', hkey, hk17, hkr, hkb, hks⟩ := key_after CH.l6 CH.h7 n4 n5 n1 n2 n3
  have hrun := Go.Lib.run_copy_row_string (P := Try.prog) w' 46 9 3 5 g6 5 17 17 k (cl n4 n5 n1 n2 n3 (List.replicate 17 0) ⟨#[]⟩).toArray 26 Try.underlying46 (by kernel_rfl) G7.h6 hks (by rw [List.size_toArray, cl_len _ _ _ _ _ _ _ rfl]; omega)
  obtain ⟨W9, hW9⟩ : ∃ W9, W9 = w'.setRow g6 ((cl n4 n5 n1 n2 n3 (List.replicate 17 0) ⟨#[]⟩).toArray.toList.take 5 ++ Go.Lib.byteCells k.data.toList ++ (cl n4 n5 n1 n2 n3 (List.replicate 17 0) ⟨#[]⟩).toArray.toList.drop (5 + k.size)).toArray := ⟨_, rfl⟩
  have G9 := G7.keyed hkey hW9
  rw [← hW9] at hrun
  clear hW9 hkey hks G7
  refine Reg.G_step (o := { dst := some 35, op := Op.call { callee := Callee.builtin Builtin.copy, args := #[Operand.tmp 32, Operand.tmp 34], argTypes := #[46, 9] }, type := 3, pos := "record.go:59", after := #[{ on := 1, ground := Ground.data }, { on := 3, ground := Ground.data }, { on := 3, ground := Ground.chain }], guard := Option.none }) (by rfl) ?_ (fun K hK => ?_)
  · kernel_rfl
  refine op_copy (.tmp 32) (.tmp 34) 46 9 rfl rfl rfl hrun ?_
  refine hK.out _ _ ?_ (fun hHeld => ?_)
  · exact trivial
  clear hK K
  try simp only [Act.put, List.setIfInBounds_toArray, List.set_cons_zero, List.set_cons_succ]
  refine Reg.G_done ?_
  clear hrun hHeld
  have hE := err c a7 b e7 W9 G9.hc
  by_cases h7 : e7 = 0
  · subst h7
    have hkc := Lib.hid (hkb rfl)
    clear hkb
    by_cases h512 : 512 < n6
    · have hf : fcode n6 z 0 e9 = 3 := by unfold fcode; rw [if_pos ⟨rfl, h512⟩]
      go_wp2_with fail
      refine hE.mono ?_
      rintro e' w10 ⟨rfl, rfl⟩
      go_wp2_with (first | ((with_reducible refine gate_store (p := 2) (v := .tmp 43) rfl ?_); refine store_ev rfl 26 (.tmp 2) (.tmp 43) rfl g2 0 (cells zsmp) rfl (by rw [HZ.out]; rfl) (there_of G9.h2 (by rw [cells_len]; omega)) (size23 zsmp) (cells_one zsmp) ?_; intro wz hz9; obtain ⟨n9, bz⟩ := zbox G9 zsmp hz9; clear hz9))
      exact bodyPost_ret (v := .tuple #[.agg (cells zsmp).toArray, .int .i64 0, .int .i64 3]) (res_first rfl rfl rfl n9) rfl ⟨zsmp, 0, 3, rfl, ⟨_, _, _, _, _, _, _, _, _, _, _, _, _, _, _, _, _, _, _, _, _, _, _, _, _, _, _, CH, hf.symm, fun h => absurd h ((by decide))⟩, bz⟩
    · have hn6 : n6 < 9223372036854775808 := by have := HR.out.2.2.2.2.2.2; have h2 : pw 2 = 65536 := rfl; omega
      have hP := text_at c a7 b 0 n6 W9 G9.hc CH.l7 hz.out hn6 CH.h8
      clear hn6
      go_wp2_with fail
      refine hE.mono ?_
      rintro e' w10 ⟨rfl, rfl⟩
      go_wp2_with fail
      refine hP.mono ?_
      rintro e' w11 ⟨rfl, hc', m'⟩
      have G11 := G9.cur hc' m'
      clear hP hE hc' m' G9
      have hf := G11.froz 22
      have hv := G11.cell 22 (v := .string ⟨#[]⟩) (cl_at22 _ _ _ _ _ _ _ hk17)
      obtain ⟨W12, hW12⟩ : ∃ W, W = w11.setCell ⟨g6, 22, none⟩ (.string d) := ⟨_, rfl⟩
      have G12 := G11.set 22 (.string d) (cl_22 _ _ _ _ _ _ _ _ hk17)
      rw [← hW12] at G12
      have hA := at_ c a8 b e8 W12 G12.hc
      go_wp2_with fail
      rw [← hW12]
      clear hf hv hW12 G11
      refine hA.mono ?_
      rintro e' w13 ⟨rfl, rfl⟩
      clear hA
      have hgr := gapv_le (a8 : Int) 8
      have hGp := Al.gap (a8 : Int) 8 (by omega) (by have := CH.l8; have := hz.out; omega) W12
      have hgr2 : gapv (a8 : Int) 8 < 9223372036854775808 := by omega
      clear hgr
      go_wp2_with fail
      refine hGp.mono ?_
      rintro e' w14 ⟨rfl, b14⟩
      have G14 := G12.bel b14
      clear b14 G12 hGp
      have hP := text_at c a8 b e8 (gapv (a8 : Int) 8) w14 G14.hc CH.l8 hz.out hgr2 CH.h9
      clear hgr2
      go_wp2_with fail
      refine hP.mono ?_
      rintro e' w15 ⟨rfl, hc', m'⟩
      have G15 := G14.cur hc' m'
      clear hP hc' m' G14
      have hE := err c a9 b e9 w15 G15.hc
      by_cases h9 : e9 = 0
      · subst h9
        have hzs : z.size ≤ 1000 := by
          have hgr := gapv_le (a8 : Int) 8
          rcases ctext_sz CH.l8 CH.h9 with ⟨_, _, h1⟩ | ⟨_, h1⟩ <;> omega
        have hRp := Try.strings_Repeat ⟨#[0]⟩ z.size w15 (by omega) (by have : (⟨#[0]⟩ : ByteArray).size = 1 := rfl; rw [this]; omega)
        rw [zeros_str] at hRp
        clear hzs
        obtain ⟨Z, hZ⟩ : ∃ Z : ByteArray, Z = ⟨(List.replicate z.size 0).toArray⟩ := ⟨_, rfl⟩
        have hzx : Hid (tx (List.replicate z.size 0) = Z) := Lib.hid hZ.symm
        rw [← hZ] at hRp
        clear hZ
        go_wp2_with fail
        refine hE.mono ?_
        rintro e' w16 ⟨rfl, rfl⟩
        clear hE
        by_cases hzz : z = Z
        · have hf : fcode n6 z 0 0 = 0 := by unfold fcode; rw [if_neg (fun h => by have := h.2; omega), if_neg (by decide), if_neg (by rw [hzx.out]; exact fun h => h hzz)]
          obtain ⟨x, hx, x1, x2, x3, x4, x5, x6, x7⟩ := fsmp CH key' hk17 hkr (by
            have h2 : pw 2 = 65536 := rfl
            unfold maxLen
            rcases ctext_sz CH.l7 CH.h8 with ⟨_, _, h1⟩ | ⟨_, h1⟩ <;> omega)
          have FI : FirstIs b x a9 0 := ⟨_, _, _, _, _, _, _, _, _, _, _, _, _, _, _, _, _, _, _, _, _, _, _, _, _, _, _, CH, hf.symm, fun _ => ⟨x1, x2, x3, x4, x5, x6.trans hkc.out, x7, rfl⟩⟩
          have FIH := Lib.hid FI
          clear FI x1 x2 x3 x4 x5 x6 x7 hf hkr hkc hzx
          subst hzz
          go_wp2_with fail
          refine hRp.mono ?_
          rintro e' w17 ⟨rfl, b17⟩
          have G17 := G15.bel b17
          clear hRp b17 G15
          have G17b := G17.h6
          go_wp2_with fail
          rw [← hx] at G17b
          have HX := Lib.hid hx
          clear hx
          refine Reg.wp_plan (S := fun w' => w'.heap[g6]? = some (.cells (cells x).toArray 26 (0, 0))) 6 (.fl 0 (.fl 1 (.one 2 (.one 3 (.fl 4 (.fl 5 .done)))))) (by kernel_rfl) (by kernel_rfl) (by kernel_rfl) (by kernel_rfl) (fun _ _ _ d _ h => by cases d <;> exact h) ?_ (fun hHeld => ?_)
          · exact G17b
          refine Reg.G_on (o := { dst := some 67, op := Op.load 26 (Operand.tmp 6), type := 26, pos := "record.go:71", after := #[], guard := Option.none }) (v := .agg (cells x).toArray) (by rfl) ?_ (fun wS hSw => ?_) ?_
          · kernel_rfl
          · exact load_yields_any rfl rfl (box_at hSw) Try.underlying26 rfl (size23 x)
          try simp only [Act.put, List.setIfInBounds_toArray, List.set_cons_zero, List.set_cons_succ]
          refine Reg.G_on (o := { dst := some 68, op := Op.move (Operand.tmp 5), type := 74, pos := "record.go:71", after := #[], guard := Option.none }) (v := ?_) (by rfl) ?_ (fun wS hSw => ?_) ?_
          rotate_left
          · kernel_rfl
          · (try dsimp only at hSw); go_simp; (try with_reducible rfl)
          try simp only [Act.put, List.setIfInBounds_toArray, List.set_cons_zero, List.set_cons_succ]
          refine Reg.G_step (o := { dst := some 69, op := Op.call { callee := Callee.value (Operand.func 40), args := #[Operand.tmp 68], argTypes := #[74] }, type := 3, pos := "record.go:71", after := #[{ on := 1, ground := Ground.data }], guard := Option.none }) (by rfl) ?_ (fun K hK => ?_)
          · kernel_rfl
          go_simp
          refine (at_ c a9 b 0 _ G17.drew.hc).mono ?_
          rintro e w' ⟨rfl, rfl⟩
          refine hK.out _ _ ?_ (fun hHeld => ?_)
          · exact hHeld
          clear hK K
          try simp only [Act.put, List.setIfInBounds_toArray, List.set_cons_zero, List.set_cons_succ]
          have T2 := there_of (w := w17.drew) G17.drew.h2 (show 0 + (cells x).toArray.size ≤ _ by rw [List.size_toArray, cells_len, cells_len]; omega)
          have hnb := zbox G17.drew x rfl
          have hn6 := zbox6 G17.drew (cells x)
          rw [← HX.out] at hn6
          refine Reg.G_step (o := { dst := Option.none, op := Op.store 26 (Operand.tmp 2) (Operand.tmp 67), type := 0, pos := "record.go:71", after := #[{ on := 0, ground := Ground.data }, { on := 2, ground := Ground.chain }, { on := 0, ground := Ground.phase }, { on := 1, ground := Ground.textOnly Departure.lateStores }, { on := 2, ground := Ground.textOnly Departure.lateStoresUnsure }], guard := Option.none }) (by rfl) ?_ (fun K hK => ?_)
          · kernel_rfl
          refine wp_store_mid 26 (.tmp 2) (.tmp 67) rfl g2 0 (cells x).toArray rfl rfl T2 (by rw [List.size_toArray]; exact size23 x) (all_oneCell_toArray (cells_one x)) ?_
          refine hK.out _ _ ?_ (fun hHeld => ?_)
          · exact hn6
          clear hK K
          try simp only [Act.put, List.setIfInBounds_toArray, List.set_cons_zero, List.set_cons_succ]
          refine Reg.G_on (o := { dst := some 3, op := Op.assign (Operand.tmp 69), type := 3, pos := "record.go:71", after := #[{ on := 2, ground := Ground.data }, { on := 3, ground := Ground.chain }, { on := 0, ground := Ground.phase }, { on := 1, ground := Ground.phase }, { on := 2, ground := Ground.phase }, { on := 3, ground := Ground.phase }], guard := Option.none }) (v := ?_) (by rfl) ?_ (fun wS hSw => ?_) ?_
          rotate_left
          · kernel_rfl
          · (try dsimp only at hSw); go_simp; (try with_reducible rfl)
          try simp only [Act.put, List.setIfInBounds_toArray, List.set_cons_zero, List.set_cons_succ]
          refine Reg.G_on (o := { dst := some 4, op := Op.assign (Operand.const (Value.int IntKind.i64 0)), type := 30, pos := "record.go:71", after := #[{ on := 4, ground := Ground.chain }, { on := 0, ground := Ground.phase }, { on := 1, ground := Ground.phase }, { on := 2, ground := Ground.phase }, { on := 3, ground := Ground.phase }, { on := 4, ground := Ground.phase }], guard := Option.none }) (v := ?_) (by rfl) ?_ (fun wS hSw => ?_) ?_
          rotate_left
          · kernel_rfl
          · (try dsimp only at hSw); go_simp; (try with_reducible rfl)
          try simp only [Act.put, List.setIfInBounds_toArray, List.set_cons_zero, List.set_cons_succ]
          refine Reg.G_done ?_
          obtain ⟨nb, bz⟩ := hnb
          clear hHeld hn6 T2 G17b
          generalize w17.drew.setCells g2 0 (cells x) = wz at *
          go_wp2
          exact bodyPost_ret (v := .tuple #[.agg (cells x).toArray, .int .i64 (a9 : Int), .int .i64 0]) (res_first rfl rfl rfl nb) rfl ⟨x, a9, 0, rfl, FIH.out, bz⟩
        · have hf : fcode n6 z 0 0 = 12 := by unfold fcode; rw [if_neg (fun h => by have := h.2; omega), if_neg (by decide), if_pos (by rw [hzx.out]; exact hzz)]
          clear hzx
          have hz1 : (z.toList == Z.toList) = false := beq_eq_false_iff_ne.2 (fun h => hzz (by
            rw [ByteArray.toList_eq, ByteArray.toList_eq] at h
            exact ByteArray.ext (Array.toList_inj.1 h)))
          go_wp2_with fail
          refine hRp.mono ?_
          rintro e' w17 ⟨rfl, b17⟩
          have G17 := G15.bel b17
          clear hRp b17 G15
          go_wp2_with (first | ((with_reducible refine gate_store (p := 2) (v := .tmp 66) rfl ?_); refine store_ev rfl 26 (.tmp 2) (.tmp 66) rfl g2 0 (cells zsmp) rfl (by rw [HZ.out]; rfl) (there_of G17.h2 (by rw [cells_len]; omega)) (size23 zsmp) (cells_one zsmp) ?_; intro wz hz9; obtain ⟨n9, bz⟩ := zbox G17 zsmp hz9; clear hz9))
          exact bodyPost_ret (v := .tuple #[.agg (cells zsmp).toArray, .int .i64 0, .int .i64 12]) (res_first rfl rfl rfl n9) rfl ⟨zsmp, 0, 12, rfl, ⟨_, _, _, _, _, _, _, _, _, _, _, _, _, _, _, _, _, _, _, _, _, _, _, _, _, _, _, CH, hf.symm, fun h => absurd h ((by decide))⟩, bz⟩
      · have hf : fcode n6 z 0 e9 = e9 := by unfold fcode; rw [if_neg (fun h => by have := h.2; omega), if_pos h9]
        go_wp2_with fail
        refine hE.mono ?_
        rintro e' w10 ⟨rfl, rfl⟩
        go_wp2_with fail
        refine hE.mono ?_
        rintro e' w10 ⟨rfl, rfl⟩
        clear hE
        go_wp2_with (first | ((with_reducible refine gate_store (p := 2) (v := .tmp 57) rfl ?_); refine store_ev rfl 26 (.tmp 2) (.tmp 57) rfl g2 0 (cells zsmp) rfl (by rw [HZ.out]; rfl) (there_of G15.h2 (by rw [cells_len]; omega)) (size23 zsmp) (cells_one zsmp) ?_; intro wz hz9; obtain ⟨n9, bz⟩ := zbox G15 zsmp hz9; clear hz9))
        exact bodyPost_ret (v := .tuple #[.agg (cells zsmp).toArray, .int .i64 0, .int .i64 e9]) (res_first rfl rfl rfl n9) rfl ⟨zsmp, 0, e9, rfl, ⟨_, _, _, _, _, _, _, _, _, _, _, _, _, _, _, _, _, _, _, _, _, _, _, _, _, _, _, CH, hf.symm, fun h => absurd h (h9)⟩, bz⟩
  · have hn6 : n6 < 9223372036854775808 := by have := HR.out.2.2.2.2.2.2; have h2 : pw 2 = 65536 := rfl; omega
    have hP := text_at c a7 b e7 n6 W9 G9.hc CH.l7 hz.out hn6 CH.h8
    clear hn6
    go_wp2_with fail
    refine hE.mono ?_
    rintro e' w10 ⟨rfl, rfl⟩
    go_wp2_with fail
    refine hP.mono ?_
    rintro e' w11 ⟨rfl, hc', m'⟩
    have G11 := G9.cur hc' m'
    clear hP hE hc' m' G9
    have hf := G11.froz 22
    have hv := G11.cell 22 (v := .string ⟨#[]⟩) (cl_at22 _ _ _ _ _ _ _ hk17)
    obtain ⟨W12, hW12⟩ : ∃ W, W = w11.setCell ⟨g6, 22, none⟩ (.string d) := ⟨_, rfl⟩
    have G12 := G11.set 22 (.string d) (cl_22 _ _ _ _ _ _ _ _ hk17)
    rw [← hW12] at G12
    have hA := at_ c a8 b e8 W12 G12.hc
    go_wp2_with fail
    rw [← hW12]
    clear hf hv hW12 G11
    refine hA.mono ?_
    rintro e' w13 ⟨rfl, rfl⟩
    clear hA
    have hgr := gapv_le (a8 : Int) 8
    have hGp := Al.gap (a8 : Int) 8 (by omega) (by have := CH.l8; have := hz.out; omega) W12
    have hgr2 : gapv (a8 : Int) 8 < 9223372036854775808 := by omega
    clear hgr
    go_wp2_with fail
    refine hGp.mono ?_
    rintro e' w14 ⟨rfl, b14⟩
    have G14 := G12.bel b14
    clear b14 G12 hGp
    have hP := text_at c a8 b e8 (gapv (a8 : Int) 8) w14 G14.hc CH.l8 hz.out hgr2 CH.h9
    clear hgr2
    go_wp2_with fail
    refine hP.mono ?_
    rintro e' w15 ⟨rfl, hc', m'⟩
    have G15 := G14.cur hc' m'
    clear hP hc' m' G14
    have hE := err c a9 b e9 w15 G15.hc
    have h9 : e9 ≠ 0 := fun h => by
      rcases ctext_sz CH.l8 CH.h9 with ⟨_, h1, _⟩ | ⟨h1, _⟩
      · rcases ctext_sz CH.l7 CH.h8 with ⟨_, h2, _⟩ | ⟨h2, _⟩
        · exact h7 h2
        · exact h2 h1
      · exact h1 h
    have hf : fcode n6 z e7 e9 = e9 := by unfold fcode; rw [if_neg (fun h => h7 h.1), if_pos h9]
    go_wp2_with fail
    refine hE.mono ?_
    rintro e' w10 ⟨rfl, rfl⟩
    go_wp2_with fail
    refine hE.mono ?_
    rintro e' w10 ⟨rfl, rfl⟩
    clear hE
    go_wp2_with (first | ((with_reducible refine gate_store (p := 2) (v := .tmp 57) rfl ?_); refine store_ev rfl 26 (.tmp 2) (.tmp 57) rfl g2 0 (cells zsmp) rfl (by rw [HZ.out]; rfl) (there_of G15.h2 (by rw [cells_len]; omega)) (size23 zsmp) (cells_one zsmp) ?_; intro wz hz9; obtain ⟨n9, bz⟩ := zbox G15 zsmp hz9; clear hz9))
    exact bodyPost_ret (v := .tuple #[.agg (cells zsmp).toArray, .int .i64 0, .int .i64 e9]) (res_first rfl rfl rfl n9) rfl ⟨zsmp, 0, e9, rfl, ⟨_, _, _, _, _, _, _, _, _, _, _, _, _, _, _, _, _, _, _, _, _, _, _, _, _, _, _, CH, hf.symm, fun h => absurd h (h9)⟩, bz⟩
end Go.Proofs.Ytmlfnlmdnhblmaa.Rec
namespace Go.Proofs.Ytmlfnlmdnhblmaa.Rec
open Go.RowKit Base Sp Flat Go.Proofs.YtmlfnlmdnhblmaaW.PrintWords Go.Proofs.YtmlfnlmdnhblmaaW.PrintLast Go.Proofs.YtmlfnlmdnhblmaaW.PrintMore Wd Al Buf Smp
theorem gd_smp : (Try.prog).eqGuardType (Try.prog).depth 26 = false := by kernel_rfl
section
variable {P : Program} {op : Oper} {a : Act} {W : World}
/-- A comparison of two aggregates whose result is known, as one operation. -/
theorem eql_yields {b : BinOp} {t t2 : TypeId} {x y : Operand} (ho : op.op = .binOp b t x y t2) {xs ys : Array Value} (hx : a.eval x = .agg xs) (hy : a.eval y = .agg ys) (hm : P.eqGuardType P.depth t = false) {r : Value}
    (hr : (binOp b t (.agg xs) (.agg ys)).run P W = .ok r W) : (execOp a.eval op).run P W = .ok (.value r) W := by
  unfold execOp
  simp only [ho, hx, hy, Sem.run_bind, run_eqGuard_agg W b t x y xs ys hm, Result.andThen_ok, hr, Sem.run_pure]
end
section
variable {o : Oper} {a : Act} {W : World} {K : Act → World → Prop} {Q : Exit → Act → World → Prop}
theorem fill1 (z : Array Value) (x : Smp) (hz : z.size = 23) : Instr.fill (fun i => some (i * 23, 23)) z [(0, .agg (cells x).toArray)] = some (cells x).toArray := by
  have h := Great.fill_whole (s := 23) (by decide) [.agg (cells x).toArray] z (fun v hv => by rw [List.mem_singleton.1 hv]; show (cells x).toArray.size = 23; rw [List.size_toArray, cells_len]) (by rw [hz]; rfl)
  have e : ([Value.agg (cells x).toArray].zipIdx 0).map (fun x => (x.2, x.1)) = [(0, Value.agg (cells x).toArray)] := rfl
  rw [e] at h
  rw [h]
  simp [Value.cells]
/-- A slice literal of one sample. -/
theorem build1 {x : Smp} {y : Operand} (ho : o.op = .buildSlice 27 1 #[(0, y)]) (hy : a.eval y = .agg (cells x).toArray)
    (h : K (a.put o.dst (.slice (some ⟨W.heap.size, 0, none⟩) 1 1)) (W.alloc (.cells (cells x).toArray 26))) : o.wp Try.prog a W K Q := by
  obtain ⟨i0, hi, hzz⟩ := Option.map_eq_some_iff.1 info
  simp only [Prod.mk.injEq] at hzz
  obtain ⟨hz0, hz1, hz2⟩ := hzz
  refine wp_buildSlice 27 26 1 #[(0, y)] ho (cells x).toArray i0 _ Try.underlying27 hi hz0 (by rw [hz1]; decide) (by rw [hz1]; decide) ?_ h
  rw [hz1]
  have e : (#[(0, y)].map fun (p : Nat × Operand) => (p.1, a.eval p.2)).toList = [(0, Value.agg (cells x).toArray)] := by simp [hy]
  rw [show (#[(0, y)].map fun (i, x) => (i, a.eval x)).toList = [(0, Value.agg (cells x).toArray)] from e]
  exact fill1 _ x (by simp)
end
section
variable {P : Program} {o : Oper} {a : Act} {Q : Exit → Act → World → Prop} {K : Act → World → Prop}
/-- An append whose run is known, as one operation. -/
theorem op_append {W w1 : World} {v1 v u : Value} (s x : Operand) (t : TypeId) (ho : o.op = .call { callee := .builtin .append, args := #[s, x], argTypes := #[t, t] })
    (hs : a.eval s = v) (hx : a.eval x = u) (hrun : (Builtin.append_ #[t, t] o.type #[v, u]).run P W = .ok v1 w1) (h : K (a.put o.dst v1) w1) : Oper.wp P o a W K Q := by
  unfold Oper.wp execOp
  simp only [ho, resolve, invoke, builtin, Sem.run_bind, Sem.run_pure, Result.andThen_ok, List.map_toArray, List.map_cons, List.map_nil, hs, hx, hrun]
  exact h
end
section
variable {ops : Array Oper} {rest : List Oper} {o : Oper} {a : Act} {W : World} {Q : Exit → Act → World → Prop}
theorem build1L {x : Smp} {y : Operand} (hgd : o.guard = none) (ho : o.op = .buildSlice 27 1 #[(0, y)]) (hy : a.eval y = .agg (cells x).toArray)
    (h : wpList Try.prog ops Q rest (a.put o.dst (.slice (some ⟨W.heap.size, 0, none⟩) 1 1)) (W.alloc (.cells (cells x).toArray 26))) : wpList Try.prog ops Q (o :: rest) a W :=
  wpList_plain hgd fun _ hK => build1 ho hy (hK _ _ h)
end
/-- append(xs, ys...). -/
theorem app_all {W : World} {F G : Nat → Prop} {v u : Value} {xs ys : List Smp} (h : Own ks 26 W F v xs) (hF : ∀ k, F k → k < W.heap.size) (hy : Rd ks W G u ys) (hl : (xs.length + ys.length) * 80 ≤ 140737488355328) :
    ∃ v1 w1, (Builtin.append_ #[27, 27] 27 #[v, u]).run Try.prog W = .ok v1 w1 ∧ Own ks 26 w1 (fun k => F k ∨ (W.heap.size ≤ k ∧ k < w1.heap.size)) v1 (xs ++ ys) ∧ W.grownBy w1 v.ownBlock := by
  obtain ⟨A, c, rfl, hc, hC, hA⟩ := hy
  by_cases h0 : 0 < ys.length
  · obtain ⟨B, rfl, _⟩ := hC.2.2 h0
    exact h.appends (P := Try.prog) flat_ks 27 27 (.agg (cells zsmp).toArray) 80 Try.underlying27 info (by show (cells zsmp).toArray.size = 23; rw [List.size_toArray, cells_len]) (by decide) (by decide) ys B c hC h0 hF hl
  · obtain rfl : ys = [] := List.eq_nil_of_length_eq_zero (by omega)
    obtain ⟨i0, hi, hzz⟩ := Option.map_eq_some_iff.1 info
    simp only [Prod.mk.injEq] at hzz
    have hsz : (sizeOf 26).run Try.prog W = .ok 23 W := by simp [sizeOf, typeInfo, hi, hzz.2.1]
    obtain ⟨A', c', rfl, hcc, _, _⟩ := h.rd
    have hnc : ¬ c' < xs.length := Nat.not_lt.2 hcc
    refine ⟨.slice A' xs.length c', W, ?_, by rw [List.append_nil]; exact h.mono (fun k hk => .inl hk), ⟨rfl, rfl, rfl, Nat.le_refl _, fun _ _ _ => rfl⟩⟩
    cases A <;> cases A' <;> simp [Builtin.append_, run_underlying Try.underlying27, hsz, hnc, Result.andThen, Builtin.lenOf, Builtin.firstCells, storeCells, go_sem]
section
variable {W : World} {F : Nat → Prop}
/-- A slice literal of one sample, read. -/
theorem rd_one {s : Nat} {x : Smp} (h : W.heap[s]? = some (.cells (cells x).toArray 26 (0, 0))) : Rd ks W (fun k => k = s) (.slice (some ⟨s, 0, none⟩) 1 1) [x] := by
  refine ⟨some ⟨s, 0, none⟩, 1, rfl, Nat.le_refl _, ⟨rfl, by simp, fun _ => ⟨_, rfl, fun j p hj => ?_⟩⟩, fun a ha => by cases ha; rfl⟩
  have hjl := (List.getElem?_eq_some_iff.1 hj).1
  obtain rfl : j = 0 := by simpa using hjl
  obtain rfl : x = p := by simpa using hj
  refine ⟨cells x, cells_len x, rfl, fun i u hi => ?_⟩
  rw [add_plain, blk_cell h, List.getElem?_toArray]
  simpa using hi
end
set_option maxHeartbeats 1000000 in
set_option maxRecDepth 20000 in
theorem rsame2 {w : World} {F G : Nat → Prop} {v u : Value} {xs ys : List Smp} (h : Rd ks w F v xs) (h' : Rd ks w G u ys) :
    Calls Try.prog 14 #[v, u] w fun e w' => e = .returned (.bool (decide (xs = ys))) ∧ Below w.heap.size w w' := by
  have b1 := Below.refl w.heap.size w
  have HL := Lib.hid h.max
  have HA := Lib.hid h
  have HB := Lib.hid h'
  obtain ⟨A, c, rfl, _, _, _⟩ := h
  obtain ⟨B, c', rfl, _, _, _⟩ := h'
  by_cases hl : xs.length = ys.length
  · have hlq : ((xs.length : Int) != (ys.length : Int)) = false := bne_eq_false_iff_eq.2 (by omega)
    have HE := Lib.hid hl
    go_enter Try.func14, Try.ntmps14
    go_wp2
    go_loopw [5] (fun v5 wr => ∃ i : Nat, v5 = .int .i64 (i : Int) ∧ i ≤ xs.length ∧ Hid (xs.take i = ys.take i) ∧ Below w.heap.size w wr) (fun v5 _ => xs.length - (intOf v5).toNat)
    case atStart => exact ⟨0, rfl, Nat.zero_le _, Lib.hid rfl, b1⟩
    case round =>
      clear b1
      obtain ⟨i, rfl, hi, ht, bb⟩ := hrel
      by_cases hlt : i < xs.length
      · have h0 : (0 : Int) ≤ (i : Int) := by omega
        have hlt1 : (i : Int) < (xs.length : Int) := by omega
        have hlt' : i < ys.length := by omega
        have hlt3 : (i : Int) < (ys.length : Int) := by omega
        obtain ⟨ad, rfl, q1⟩ := rd_at (rd_below HA.out bb) hlt
        obtain ⟨bd, rfl, q2⟩ := rd_at (rd_below HB.out bb) hlt'
        have hwi : wrap64 ((i : Int) + 1) = ((i + 1 : Nat) : Int) := by have := HL.out; unfold wrap64; omega
        have hlt2 := Lib.hid hlt
        have hstep : xs[i] = ys[i] → xs.take (i + 1) = ys.take (i + 1) := fun e => by rw [List.take_succ_eq_append_getElem hlt, List.take_succ_eq_append_getElem hlt', ht.out]; exact congrArg (fun z => ys.take i ++ [z]) e
        have hno : xs[i] ≠ ys[i] → xs ≠ ys := fun e hh => e (by simp only [hh])
        generalize xs[i] = x at q1 hstep hno
        generalize ys[i] = y at q2 hstep hno
        have hq := fun W => smp_neq x y W
        have HH := Lib.hid bb
        clear hlt hi bb hl hlt' ht
        by_cases he : x = y
        · have hs2 := Lib.hid (hstep he)
          rw [decide_eq_true he] at hq
          clear hstep hno he
          go_wp2_with fail
          refine Reg.wp_plan (S := fun w' => CellsAt w' (ad.add (i * 23)) (cells x) ∧ CellsAt w' (bd.add (i * 23)) (cells y)) 9 (.fl 0 (.fl 1 (.fl 2 (.fl 3 (.fl 4 (.fl 5 (.fl 6 (.fl 7 (.fl 8 .done))))))))) (by kernel_rfl) (by kernel_rfl) (by kernel_rfl) (by kernel_rfl) (fun _ _ _ d _ h => by cases d <;> exact h) ?_ (fun hHeld => ?_)
          · exact ⟨q1, q2⟩
          refine Reg.G_on (o := { dst := some 17, op := Op.move (Operand.tmp 0), type := 27, pos := "ref.go:69", after := #[], guard := Option.none }) (v := ?_) (by rfl) ?_ (fun wS hSw => ?_) ?_
          rotate_left
          · kernel_rfl
          · (try dsimp only at hSw); go_simp; (try with_reducible rfl)
          try simp only [Act.put, List.setIfInBounds_toArray, List.set_cons_zero, List.set_cons_succ]
          refine Reg.G_on (o := { dst := some 18, op := Op.move (Operand.tmp 5), type := 3, pos := "ref.go:69", after := #[], guard := Option.none }) (v := ?_) (by rfl) ?_ (fun wS hSw => ?_) ?_
          rotate_left
          · kernel_rfl
          · (try dsimp only at hSw); go_simp; (try with_reducible rfl)
          try simp only [Act.put, List.setIfInBounds_toArray, List.set_cons_zero, List.set_cons_succ]
          refine Reg.G_on (o := { dst := some 19, op := Op.indexAddr 27 (Operand.tmp 17) (Operand.tmp 18), type := 0, pos := "ref.go:69", after := #[{ on := 0, ground := Ground.data }, { on := 1, ground := Ground.data }], guard := Option.none }) (v := ?_) (by rfl) ?_ (fun wS hSw => ?_) ?_
          rotate_left
          · kernel_rfl
          · (try dsimp only at hSw); go_simp; (try with_reducible rfl)
          try simp only [Act.put, List.setIfInBounds_toArray, List.set_cons_zero, List.set_cons_succ]
          refine Reg.G_on (o := { dst := some 20, op := Op.load 26 (Operand.tmp 19), type := 26, pos := "ref.go:69", after := #[{ on := 2, ground := Ground.data }], guard := Option.none }) (v := .agg (cells x).toArray) (by rfl) ?_ (fun wS hSw => ?_) ?_
          · kernel_rfl
          · exact load_yields_any rfl rfl hSw.1 Try.underlying26 rfl (size23 x)
          try simp only [Act.put, List.setIfInBounds_toArray, List.set_cons_zero, List.set_cons_succ]
          refine Reg.G_on (o := { dst := some 21, op := Op.move (Operand.tmp 1), type := 27, pos := "ref.go:69", after := #[], guard := Option.none }) (v := ?_) (by rfl) ?_ (fun wS hSw => ?_) ?_
          rotate_left
          · kernel_rfl
          · (try dsimp only at hSw); go_simp; (try with_reducible rfl)
          try simp only [Act.put, List.setIfInBounds_toArray, List.set_cons_zero, List.set_cons_succ]
          refine Reg.G_on (o := { dst := some 22, op := Op.move (Operand.tmp 5), type := 3, pos := "ref.go:69", after := #[], guard := Option.none }) (v := ?_) (by rfl) ?_ (fun wS hSw => ?_) ?_
          rotate_left
          · kernel_rfl
          · (try dsimp only at hSw); go_simp; (try with_reducible rfl)
          try simp only [Act.put, List.setIfInBounds_toArray, List.set_cons_zero, List.set_cons_succ]
          refine Reg.G_on (o := { dst := some 23, op := Op.indexAddr 27 (Operand.tmp 21) (Operand.tmp 22), type := 0, pos := "ref.go:69", after := #[{ on := 4, ground := Ground.data }, { on := 5, ground := Ground.data }], guard := Option.none }) (v := ?_) (by rfl) ?_ (fun wS hSw => ?_) ?_
          rotate_left
          · kernel_rfl
          · (try dsimp only at hSw); go_simp; (try with_reducible rfl)
          try simp only [Act.put, List.setIfInBounds_toArray, List.set_cons_zero, List.set_cons_succ]
          refine Reg.G_on (o := { dst := some 24, op := Op.load 26 (Operand.tmp 23), type := 26, pos := "ref.go:69", after := #[{ on := 6, ground := Ground.data }], guard := Option.none }) (v := .agg (cells y).toArray) (by rfl) ?_ (fun wS hSw => ?_) ?_
          · kernel_rfl
          · exact load_yields_any rfl rfl hSw.2 Try.underlying26 rfl (size23 y)
          try simp only [Act.put, List.setIfInBounds_toArray, List.set_cons_zero, List.set_cons_succ]
          refine Reg.G_on (o := { dst := some 25, op := Op.binOp BinOp.neq 26 (Operand.tmp 20) (Operand.tmp 24) 26, type := 4, pos := "ref.go:69", after := #[{ on := 3, ground := Ground.data }, { on := 7, ground := Ground.data }], guard := Option.none }) (v := .bool (!true)) (by rfl) ?_ (fun wS hSw => ?_) ?_
          · kernel_rfl
          · exact eql_yields rfl rfl rfl gd_smp (hq _)
          try simp only [Act.put, List.setIfInBounds_toArray, List.set_cons_zero, List.set_cons_succ]
          refine Reg.G_done ?_
          clear hHeld
          go_wp2
          rw [hwi]
          exact ⟨⟨i + 1, rfl, hlt2.out, hs2, HH.out.drew⟩, meas _ _ hlt2.out⟩
        · have hs2 : Hid (decide (xs = ys) = false) := Lib.hid (decide_eq_false (hno he))
          rw [decide_eq_false he] at hq
          clear hstep hno he
          go_wp2_with fail
          refine Reg.wp_plan (S := fun w' => CellsAt w' (ad.add (i * 23)) (cells x) ∧ CellsAt w' (bd.add (i * 23)) (cells y)) 9 (.fl 0 (.fl 1 (.fl 2 (.fl 3 (.fl 4 (.fl 5 (.fl 6 (.fl 7 (.fl 8 .done))))))))) (by kernel_rfl) (by kernel_rfl) (by kernel_rfl) (by kernel_rfl) (fun _ _ _ d _ h => by cases d <;> exact h) ?_ (fun hHeld => ?_)
          · exact ⟨q1, q2⟩
          refine Reg.G_on (o := { dst := some 17, op := Op.move (Operand.tmp 0), type := 27, pos := "ref.go:69", after := #[], guard := Option.none }) (v := ?_) (by rfl) ?_ (fun wS hSw => ?_) ?_
          rotate_left
          · kernel_rfl
          · (try dsimp only at hSw); go_simp; (try with_reducible rfl)
          try simp only [Act.put, List.setIfInBounds_toArray, List.set_cons_zero, List.set_cons_succ]
          refine Reg.G_on (o := { dst := some 18, op := Op.move (Operand.tmp 5), type := 3, pos := "ref.go:69", after := #[], guard := Option.none }) (v := ?_) (by rfl) ?_ (fun wS hSw => ?_) ?_
          rotate_left
          · kernel_rfl
          · (try dsimp only at hSw); go_simp; (try with_reducible rfl)
          try simp only [Act.put, List.setIfInBounds_toArray, List.set_cons_zero, List.set_cons_succ]
          refine Reg.G_on (o := { dst := some 19, op := Op.indexAddr 27 (Operand.tmp 17) (Operand.tmp 18), type := 0, pos := "ref.go:69", after := #[{ on := 0, ground := Ground.data }, { on := 1, ground := Ground.data }], guard := Option.none }) (v := ?_) (by rfl) ?_ (fun wS hSw => ?_) ?_
          rotate_left
          · kernel_rfl
          · (try dsimp only at hSw); go_simp; (try with_reducible rfl)
          try simp only [Act.put, List.setIfInBounds_toArray, List.set_cons_zero, List.set_cons_succ]
          refine Reg.G_on (o := { dst := some 20, op := Op.load 26 (Operand.tmp 19), type := 26, pos := "ref.go:69", after := #[{ on := 2, ground := Ground.data }], guard := Option.none }) (v := .agg (cells x).toArray) (by rfl) ?_ (fun wS hSw => ?_) ?_
          · kernel_rfl
          · exact load_yields_any rfl rfl hSw.1 Try.underlying26 rfl (size23 x)
          try simp only [Act.put, List.setIfInBounds_toArray, List.set_cons_zero, List.set_cons_succ]
          refine Reg.G_on (o := { dst := some 21, op := Op.move (Operand.tmp 1), type := 27, pos := "ref.go:69", after := #[], guard := Option.none }) (v := ?_) (by rfl) ?_ (fun wS hSw => ?_) ?_
          rotate_left
          · kernel_rfl
          · (try dsimp only at hSw); go_simp; (try with_reducible rfl)
          try simp only [Act.put, List.setIfInBounds_toArray, List.set_cons_zero, List.set_cons_succ]
          refine Reg.G_on (o := { dst := some 22, op := Op.move (Operand.tmp 5), type := 3, pos := "ref.go:69", after := #[], guard := Option.none }) (v := ?_) (by rfl) ?_ (fun wS hSw => ?_) ?_
          rotate_left
          · kernel_rfl
          · (try dsimp only at hSw); go_simp; (try with_reducible rfl)
          try simp only [Act.put, List.setIfInBounds_toArray, List.set_cons_zero, List.set_cons_succ]
          refine Reg.G_on (o := { dst := some 23, op := Op.indexAddr 27 (Operand.tmp 21) (Operand.tmp 22), type := 0, pos := "ref.go:69", after := #[{ on := 4, ground := Ground.data }, { on := 5, ground := Ground.data }], guard := Option.none }) (v := ?_) (by rfl) ?_ (fun wS hSw => ?_) ?_
          rotate_left
          · kernel_rfl
          · (try dsimp only at hSw); go_simp; (try with_reducible rfl)
          try simp only [Act.put, List.setIfInBounds_toArray, List.set_cons_zero, List.set_cons_succ]
          refine Reg.G_on (o := { dst := some 24, op := Op.load 26 (Operand.tmp 23), type := 26, pos := "ref.go:69", after := #[{ on := 6, ground := Ground.data }], guard := Option.none }) (v := .agg (cells y).toArray) (by rfl) ?_ (fun wS hSw => ?_) ?_
          · kernel_rfl
          · exact load_yields_any rfl rfl hSw.2 Try.underlying26 rfl (size23 y)
          try simp only [Act.put, List.setIfInBounds_toArray, List.set_cons_zero, List.set_cons_succ]
          refine Reg.G_on (o := { dst := some 25, op := Op.binOp BinOp.neq 26 (Operand.tmp 20) (Operand.tmp 24) 26, type := 4, pos := "ref.go:69", after := #[{ on := 3, ground := Ground.data }, { on := 7, ground := Ground.data }], guard := Option.none }) (v := .bool (!false)) (by rfl) ?_ (fun wS hSw => ?_) ?_
          · kernel_rfl
          · exact eql_yields rfl rfl rfl gd_smp (hq _)
          try simp only [Act.put, List.setIfInBounds_toArray, List.set_cons_zero, List.set_cons_succ]
          refine Reg.G_done ?_
          clear hHeld
          go_wp2
          go_ret
          exact ⟨by rw [hs2.out]; rfl, HH.out.drew⟩
      · have hlt1 : ¬ (i : Int) < (xs.length : Int) := by omega
        have hres : Hid (decide (xs = ys) = true) := Lib.hid (decide_eq_true (by
          have := ht.out
          rwa [List.take_of_length_le (by omega), List.take_of_length_le (by have := HE.out; omega)] at this))
        clear hlt hi hl ht
        go_wp2
        go_ret
        exact ⟨by rw [hres.out]; rfl, bb⟩
  · have hlq : ((xs.length : Int) != (ys.length : Int)) = true := bne_iff_ne.2 (by omega)
    have hres : Hid (decide (xs = ys) = false) := Lib.hid (decide_eq_false (fun e => hl (by rw [e])))
    clear hl
    go_enter Try.func14, Try.ntmps14
    go_wp2
    go_ret
    exact ⟨by rw [hres.out]; rfl, b1⟩
end Go.Proofs.Ytmlfnlmdnhblmaa.Rec
