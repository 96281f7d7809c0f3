import Derived.Test.YtehojcocnndniaaCur
set_option linter.unusedVariables false
set_option linter.unusedSimpArgs false
namespace Go.Proofs.Ytehojcocnndniaa.Cur
open Go.RowKit Base Sp Flat Go.Proofs.YtehojcocnndniaaW.PrintWords Go.Proofs.YtehojcocnndniaaW.PrintLast Wd Al Buf
/-- What Take leaves. -/
def Tk (c : Nat) (b : ByteArray) (r : Int × Int × Int) (w : World) (e : Ending) (w' : World) : Prop := e = .returned (.int .u64 r.1) ∧ CB w' c r.2.1.toNat b r.2.2 ∧ Mod (At c) w w'
theorem pad_step {b : ByteArray} {g k : Nat} (h : k < b.size) (h0 : b[k] = 0) : pad b (g + 1) k = pad b g (k + 1) := by
  rw [pad, dif_pos h, if_pos h0]
theorem pad_bad {b : ByteArray} {g k : Nat} (h : k < b.size) (h0 : b[k] ≠ 0) : pad b (g + 1) k = 12 := by
  rw [pad, dif_pos h, if_neg h0]
theorem pad_end {b : ByteArray} {g k : Nat} (h : ¬ k < b.size) : pad b (g + 1) k = 2 := by
  rw [pad, dif_neg h]
theorem pcode_zero (s : Int) : pcode 0 s = if sz s then 0 else 4 := by
  unfold pcode
  cases h : sz s with
  | false => rfl
  | true =>
    rw [if_pos rfl, if_pos rfl]
    rcases sz_cases h with rfl | rfl | rfl | rfl <;> rfl
set_option maxRecDepth 20000 in
set_option maxHeartbeats 1000000 in
theorem take (c a : Nat) (b : ByteArray) (e s : Int) (w : World) (h : CB w c a b e) (ha : a ≤ b.size) (hz : b.size ≤ 140737488355328) :
    Calls Try.prog 51 #[.pointer (some ⟨c, 0, none⟩), .int .i64 s] w (Tk c b (ctake b a e s) w) := by
  unfold ctake
  by_cases he : e = 0
  · rw [if_neg (fun h => h he)]
    subst he
    have HP := fun w => Wd.put 0 s (by decide) (by decide) w
    rw [put_res, pcode_zero] at HP
    generalize (if sz s then putv 0 s else (⟨#[]⟩, 4)).1 = pr at HP
    cases hs : sz s with
    | false =>
      rw [hs] at HP
      replace HP : ∀ w, Calls Try.prog 68 #[.int .u64 0, .int .i64 s] w fun e w' => e = .returned (.tuple #[.string pr, .int .i64 4]) ∧ Below w.heap.size w w' := HP
      rw [if_pos rfl]
      obtain ⟨⟨c0, c1, c2⟩, g0, g2⟩ := three h
      have H := Lib.hid h
      clear h hs ha hz
      go_enter Try.func51, Try.ntmps51
      go_wp2_with fail
      refine (HP _).mono ?_
      rintro e w1 ⟨rfl, b1⟩
      have h1 := H.out.below b1
      have m1 := Mod.of (F := At c) b1
      clear b1 HP
      go_wp2_with fail
      refine (fail_ c a b 0 4 w1 h1).mono ?_
      rintro e w2 ⟨rfl, h2, m2⟩
      go_wp2
      go_ret
      exact ⟨rfl, h2, m1.trans m2 (fun k hk => .inl hk)⟩
    | true =>
      rw [hs] at HP
      replace HP : ∀ w, Calls Try.prog 68 #[.int .u64 0, .int .i64 s] w fun e w' => e = .returned (.tuple #[.string pr, .int .i64 0]) ∧ Below w.heap.size w w' := HP
      rw [if_neg (by decide)]
      have hsc := sz_cases hs
      have hG := gapv_le a s
      have HG := fun w h => gap_ c (a : Int) s w h (by omega) (by omega)
      obtain ⟨g, hg⟩ : ∃ g : Nat, gapv a s = (g : Int) := ⟨(gapv a s).toNat, by omega⟩
      rw [hg] at HG hG ⊢
      rw [Int.toNat_natCast]
      have HT := fun w => Wd.take b ((a : Int) + (g : Int)) s (by omega) (by omega) (by omega) w
      rw [hs] at HT
      replace HT : ∀ w, Calls Try.prog 77 #[.string b, .int .i64 ((a : Int) + (g : Int)), .int .i64 s] w fun e w' => e = .returned (.tuple #[.int .u64 (takev b ((a : Int) + (g : Int)) s).1, .int .i64 (takev b ((a : Int) + (g : Int)) s).2]) ∧ Below w.heap.size w w' := HT
      have hB : Hid (0 ≤ s ∧ s ≤ 8 ∧ g ≤ 7 ∧ a ≤ b.size ∧ b.size ≤ 140737488355328) := Lib.hid ⟨by omega, by omega, by omega, ha, hz⟩
      have hag : a + g ≤ 9223372036854775000 := by omega
      generalize hr : (if pad b g a ≠ 0 then ((0 : Int), (a : Int), pad b g a) else if (takev b ((a : Int) + (g : Int)) s).2 ≠ 0 then (0, (a : Int), 2) else ((takev b ((a : Int) + (g : Int)) s).1, (a : Int) + (g : Int) + s, 0)) = r
      have HR := Lib.hid hr
      clear hr
      obtain ⟨⟨c0, c1, c2⟩, g0, g2⟩ := three h
      have H := Lib.hid h
      clear h hs ha hz hG hg hsc
      go_enter Try.func51, Try.ntmps51
      go_wp2_with fail
      refine (HP _).mono ?_
      rintro e w1 ⟨rfl, b1⟩
      have h1 := H.out.below b1
      have m1 := Mod.of (F := At c) b1
      clear b1 HP H c0 c1 c2 g0 g2
      obtain ⟨⟨c0, c1, c2⟩, g0, g2⟩ := three h1
      have hlt := h1.lt
      go_wp2_with fail
      refine Reg.wp_plan (S := fun w' => w'.cell? ⟨c, 0, none⟩ = some (.int .i64 (a : Int))) 12 (.fl 0 (.fl 1 (.fl 2 (.fl 3 (.fl 4 (.fl 5 (.fl 6 (.fl 7 (.fl 8 (.one 9 (.fl 10 (.fl 11 .done)))))))))))) (by kernel_rfl) (by kernel_rfl) (by kernel_rfl) (by kernel_rfl) (fun _ _ _ d _ h => by cases d <;> exact h) ?_ (fun hHeld => ?_)
      · simpa using c0
      refine Reg.G_on (o := { dst := some 30, op := Op.move (Operand.tmp 0), type := 91, pos := "align.go:98", after := #[], guard := Option.none }) (v := ?_) (by rfl) ?_ (fun wS hSw => ?_) ?_
      rotate_left
      · kernel_rfl
      · (try dsimp only at hSw); go_simp; (try with_reducible rfl)
      try simp only [Act.put, List.setIfInBounds_toArray, List.set_cons_zero, List.set_cons_succ]
      refine Reg.G_on (o := { dst := some 31, op := Op.nilCheck (Operand.tmp 30), type := 0, pos := "align.go:98", after := #[{ on := 0, ground := Ground.data }], guard := Option.none }) (v := ?_) (by rfl) ?_ (fun wS hSw => ?_) ?_
      rotate_left
      · kernel_rfl
      · (try dsimp only at hSw); go_simp; (try with_reducible rfl)
      try simp only [Act.put, List.setIfInBounds_toArray, List.set_cons_zero, List.set_cons_succ]
      refine Reg.G_on (o := { dst := some 32, op := Op.fieldAddr 132 (Operand.tmp 31) 0, type := 0, pos := "align.go:98", after := #[{ on := 1, ground := Ground.data }], guard := Option.none }) (v := ?_) (by rfl) ?_ (fun wS hSw => ?_) ?_
      rotate_left
      · kernel_rfl
      · (try dsimp only at hSw); go_simp; (try with_reducible rfl)
      try simp only [Act.put, List.setIfInBounds_toArray, List.set_cons_zero, List.set_cons_succ]
      refine Reg.G_on (o := { dst := some 33, op := Op.fieldAddr 121 (Operand.tmp 32) 0, type := 0, pos := "align.go:98", after := #[{ on := 2, ground := Ground.data }], guard := Option.none }) (v := ?_) (by rfl) ?_ (fun wS hSw => ?_) ?_
      rotate_left
      · kernel_rfl
      · (try dsimp only at hSw); go_simp; (try with_reducible rfl)
      try simp only [Act.put, List.setIfInBounds_toArray, List.set_cons_zero, List.set_cons_succ]
      refine Reg.G_on (o := { dst := some 34, op := Op.load 3 (Operand.tmp 33), type := 3, pos := "align.go:98", after := #[{ on := 3, ground := Ground.data }], guard := Option.none }) (v := ?_) (by rfl) ?_ (fun wS hSw => ?_) ?_
      rotate_left
      · kernel_rfl
      · (try dsimp only at hSw); go_simp; (try with_reducible rfl)
      try simp only [Act.put, List.setIfInBounds_toArray, List.set_cons_zero, List.set_cons_succ]
      refine Reg.G_on (o := { dst := some 35, op := Op.move (Operand.tmp 0), type := 91, pos := "align.go:98", after := #[], guard := Option.none }) (v := ?_) (by rfl) ?_ (fun wS hSw => ?_) ?_
      rotate_left
      · kernel_rfl
      · (try dsimp only at hSw); go_simp; (try with_reducible rfl)
      try simp only [Act.put, List.setIfInBounds_toArray, List.set_cons_zero, List.set_cons_succ]
      refine Reg.G_on (o := { dst := some 36, op := Op.nilCheck (Operand.tmp 35), type := 0, pos := "align.go:98", after := #[{ on := 5, ground := Ground.data }], guard := Option.none }) (v := ?_) (by rfl) ?_ (fun wS hSw => ?_) ?_
      rotate_left
      · kernel_rfl
      · (try dsimp only at hSw); go_simp; (try with_reducible rfl)
      try simp only [Act.put, List.setIfInBounds_toArray, List.set_cons_zero, List.set_cons_succ]
      refine Reg.G_on (o := { dst := some 37, op := Op.fieldAddr 132 (Operand.tmp 36) 0, type := 0, pos := "align.go:98", after := #[{ on := 6, ground := Ground.data }], guard := Option.none }) (v := ?_) (by rfl) ?_ (fun wS hSw => ?_) ?_
      rotate_left
      · kernel_rfl
      · (try dsimp only at hSw); go_simp; (try with_reducible rfl)
      try simp only [Act.put, List.setIfInBounds_toArray, List.set_cons_zero, List.set_cons_succ]
      refine Reg.G_on (o := { dst := some 38, op := Op.move (Operand.tmp 1), type := 3, pos := "align.go:98", after := #[], guard := Option.none }) (v := ?_) (by rfl) ?_ (fun wS hSw => ?_) ?_
      rotate_left
      · kernel_rfl
      · (try dsimp only at hSw); go_simp; (try with_reducible rfl)
      try simp only [Act.put, List.setIfInBounds_toArray, List.set_cons_zero, List.set_cons_succ]
      refine Reg.G_step (o := { dst := some 39, op := Op.call { callee := Callee.value (Operand.func 69), args := #[Operand.tmp 37, Operand.tmp 38], argTypes := #[121, 3] }, type := 3, pos := "align.go:98", after := #[{ on := 7, ground := Ground.data }, { on := 8, ground := Ground.data }], guard := Option.none }) (by rfl) ?_ (fun K hK => ?_)
      · kernel_rfl
      go_simp
      refine (HG w1.drew hHeld).mono ?_
      rintro e w' ⟨rfl, hb⟩
      refine hK.out _ _ ?_ (fun hHeld => ?_)
      · exact argb hb hHeld
      clear hK K
      try simp only [Act.put, List.setIfInBounds_toArray, List.set_cons_zero, List.set_cons_succ]
      refine Reg.G_on (o := { dst := some 40, op := Op.binOp BinOp.add 3 (Operand.tmp 34) (Operand.tmp 39) 3, type := 3, pos := "align.go:98", after := #[{ on := 4, ground := Ground.data }, { on := 9, ground := Ground.data }], guard := Option.none }) (v := ?_) (by rfl) ?_ (fun wS hSw => ?_) ?_
      rotate_left
      · kernel_rfl
      · (try dsimp only at hSw); go_simp; (try with_reducible rfl)
      try simp only [Act.put, List.setIfInBounds_toArray, List.set_cons_zero, List.set_cons_succ]
      refine Reg.G_on (o := { dst := some 7, op := Op.assign (Operand.tmp 40), type := 3, pos := "align.go:98", after := #[{ on := 10, ground := Ground.data }, { on := 9, ground := Ground.chain }, { on := 0, ground := Ground.phase }, { on := 1, ground := Ground.phase }, { on := 2, ground := Ground.phase }, { on := 3, ground := Ground.phase }, { on := 4, ground := Ground.phase }, { on := 5, ground := Ground.phase }, { on := 6, ground := Ground.phase }, { on := 7, ground := Ground.phase }, { on := 8, ground := Ground.phase }, { on := 9, ground := Ground.phase }, { on := 10, ground := Ground.phase }], guard := Option.none }) (v := ?_) (by rfl) ?_ (fun wS hSw => ?_) ?_
      rotate_left
      · kernel_rfl
      · (try dsimp only at hSw); go_simp; (try with_reducible rfl)
      try simp only [Act.put, List.setIfInBounds_toArray, List.set_cons_zero, List.set_cons_succ]
      refine Reg.G_done ?_
      rename World => w2
      have hb := (Below.refl w1.heap.size w1).drew.trans hb
      have h2 := h1.below hb
      have m2 := m1.trans (Mod.of (F := At c) hb) (fun k hk => .inl hk)
      clear hb h1 m1 HG hHeld c0 c1 c2 g0 g2
      obtain ⟨⟨c0, c1, c2⟩, g0, g2⟩ := three h2
      go_wp2
      go_loop [8] (fun i => ∃ k : Nat, a ≤ k ∧ k ≤ a + g ∧ i = .int .i64 (k : Int) ∧ pad b g a = pad b (a + g - k) k) (fun i => (a + g - (intOf i).toNat))
      case atStart => exact ⟨a, by omega, by omega, rfl, by rw [Nat.add_sub_cancel_left]⟩
      case round =>
        obtain ⟨k, hk1, hk2, rfl, hpd⟩ := hrel
        have HPD := Lib.hid hpd
        clear hpd
        have k0 : (0 : Int) ≤ (k : Int) := by omega
        by_cases hkg : k < a + g
        · have hkg2 : (k : Int) < (a : Int) + (g : Int) := by omega
          have he : a + g - k = (a + g - (k + 1)) + 1 := by omega
          rw [he] at HPD
          clear he
          by_cases hkb : k < b.size
          · have hkb2 : (k : Int) < (b.size : Int) := by omega
            by_cases hb0 : b[k] = 0
            · have HS := Lib.hid (HPD.out.trans (pad_step hkb hb0))
              have hz0 : ((b[k].toNat : Int) != 0) = false := by rw [hb0]; rfl
              clear HPD hb0
              go_wp2
              go_round
              case rel => exact ⟨k + 1, by omega, by omega, by go_num, HS.out⟩
              case measure => simp [intOf]; omega
            · have HS := Lib.hid (HPD.out.trans (pad_bad hkb hb0))
              have hz0 : ((b[k].toNat : Int) != 0) = true := by
                rw [bne_iff_ne]
                intro h
                apply hb0
                apply UInt8.toNat_inj.1
                show b[k].toNat = 0
                omega
              clear HPD hb0
              go_wp2_with fail
              refine (fail_ c a b 0 12 w2 h2).mono ?_
              rintro e w3 ⟨rfl, h3, m3⟩
              go_wp2
              go_ret
              obtain rfl := HR.out
              rw [HS.out, if_pos (by decide)]
              exact ⟨rfl, by rw [Int.toNat_natCast]; exact h3, m2.trans m3 (fun k hk => .inl hk)⟩
          · have hkb2 : ¬ ((k : Int) < (b.size : Int)) := by omega
            have hkb3 : (b.size : Int) ≤ (k : Int) := by omega
            have HS := Lib.hid (HPD.out.trans (pad_end hkb))
            clear HPD
            go_wp2_with fail
            refine (fail_ c a b 0 2 w2 h2).mono ?_
            rintro e w3 ⟨rfl, h3, m3⟩
            go_wp2
            go_ret
            obtain rfl := HR.out
            rw [HS.out, if_pos (by decide)]
            exact ⟨rfl, by rw [Int.toNat_natCast]; exact h3, m2.trans m3 (fun k hk => .inl hk)⟩
        · have hkg2 : ¬ ((k : Int) < (a : Int) + (g : Int)) := by omega
          have HS : Hid (pad b g a = 0) := Lib.hid (HPD.out.trans (by rw [show a + g - k = 0 from by omega]; rfl))
          clear HPD
          by_cases ht : (takev b ((a : Int) + (g : Int)) s).2 = 0
          · have hv : (takev b ((a : Int) + (g : Int)) s).1 = (takev b ((a : Int) + (g : Int)) s).1 := rfl
            rw [ht] at HT
            have HE := Lib.hid ht
            clear ht hv
            have hw : IntKind.i64.wrap ((a : Int) + (g : Int) + s) = (a : Int) + (g : Int) + s := wrapi64 (by have := hB.out; omega) (by have := hB.out; omega)
            have hw2 : wrap64 ((a : Int) + (g : Int) + s) = (a : Int) + (g : Int) + s := by have := hB.out; unfold wrap64; omega
            go_wp2_with fail
            refine (HT _).mono ?_
            rintro e w3 ⟨rfl, b3⟩
            have h3 := h2.below b3
            have m3 := m2.trans (Mod.of (F := At c) b3) (fun k hk => .inl hk)
            clear b3 HT c0 c1 c2 g0 g2 h2 m2
            obtain ⟨⟨c0, c1, c2⟩, g0, g2⟩ := three h3
            have H3 := Lib.hid h3
            clear h3
            go_wp2
            go_ret
            obtain rfl := HR.out
            rw [HS.out, if_neg (by decide), HE.out, if_neg (by decide)]
            refine ⟨rfl, ?_, at_set m3 _ _⟩
            have hh := H3.out.place ((a : Int) + (g : Int) + s).toNat
            rw [show ((((a : Int) + (g : Int) + s).toNat : Nat) : Int) = (a : Int) + (g : Int) + s from by have := hB.out; omega] at hh
            exact hh
          · have HE := Lib.hid ht
            have hne : ((takev b ((a : Int) + (g : Int)) s).2 != 0) = true := by simpa using ht
            generalize hq : (takev b ((a : Int) + (g : Int)) s).2 = q at *
            clear ht hq
            go_wp2_with fail
            refine (HT _).mono ?_
            rintro e w3 ⟨rfl, b3⟩
            have h3 := h2.below b3
            have m3 := m2.trans (Mod.of (F := At c) b3) (fun k hk => .inl hk)
            clear b3 HT c0 c1 c2 g0 g2 h2 m2
            go_wp2_with fail
            refine (fail_ c a b 0 2 w3 h3).mono ?_
            rintro e w4 ⟨rfl, h4, m4⟩
            go_wp2
            go_ret
            obtain rfl := HR.out
            rw [HS.out, if_neg (by decide), if_pos HE.out]
            exact ⟨rfl, by rw [Int.toNat_natCast]; exact h4, m3.trans m4 (fun k hk => .inl hk)⟩
  · rw [if_pos he]
    have e1 : (e != 0) = true := by simpa using he
    obtain ⟨⟨c0, c1, c2⟩, g0, g2⟩ := three h
    have H := Lib.hid h
    clear h
    go_enter Try.func51, Try.ntmps51
    go_wp2
    go_ret
    exact ⟨rfl, H.out, Mod.refl _ _⟩
/-- What Text leaves. -/
def Tt (c : Nat) (b : ByteArray) (r : ByteArray × Int × Int) (w : World) (e : Ending) (w' : World) : Prop := e = .returned (.string r.1) ∧ CB w' c r.2.1.toNat b r.2.2 ∧ Mod (At c) w w'
set_option maxRecDepth 20000 in
set_option maxHeartbeats 1000000 in
theorem text (c a : Nat) (b : ByteArray) (e n : Int) (w : World) (h : CB w c a b e) (ha : a ≤ b.size) (hz : b.size ≤ 140737488355328) (hn1 : n < 9223372036854775808) :
    Calls Try.prog 79 #[.pointer (some ⟨c, 0, none⟩), .int .i64 n] w (Tt c b (ctext b a e n) w) := by
  unfold ctext
  by_cases he : e = 0
  · rw [if_pos he]
    subst he
    by_cases hn0 : n < 0
    · rw [if_pos hn0]
      obtain ⟨⟨c0, c1, c2⟩, g0, g2⟩ := three h
      have HF := fun x => fail_ c a b 0 x w h
      clear h ha hz hn1
      go_enter Try.func79, Try.ntmps79
      go_wp2_with fail
      refine (HF 7).mono ?_
      rintro e w3 ⟨rfl, h3, m3⟩
      go_wp2
      go_ret
      exact ⟨rfl, h3, m3⟩
    · rw [if_neg hn0]
      by_cases hlt : (b.size : Int) - a < n
      · rw [if_pos hlt]
        have hw : IntKind.i64.wrap ((b.size : Int) - (a : Int)) = (b.size : Int) - (a : Int) := wrapi64 (by omega) (by omega)
        have hw2 : wrap64 ((b.size : Int) - (a : Int)) = (b.size : Int) - (a : Int) := by unfold wrap64; omega
        have HF := fun w h x => fail_ c a b 0 x w h
        obtain ⟨⟨c0, c1, c2⟩, g0, g2⟩ := three h
        have H := Lib.hid h
        clear h ha hz hn1
        go_enter Try.func79, Try.ntmps79
        go_wp2
        go_quiet (fail)
        go_wp2_with fail
        refine (HF _ (CB.below H.out (pw_below_drewN (Below.refl _ _) _)) 2).mono ?_
        rintro e w3 ⟨rfl, h3, m3⟩
        go_wp2
        go_ret
        exact ⟨rfl, h3, (Mod.of (pw_below_drewN (Below.refl _ _) _)).trans m3 (fun k hk => .inl hk)⟩
      · rw [if_neg hlt]
        obtain ⟨m, rfl⟩ : ∃ m : Nat, n = (m : Int) := ⟨n.toNat, by omega⟩
        rw [Int.toNat_natCast]
        have hw : IntKind.i64.wrap ((b.size : Int) - (a : Int)) = (b.size : Int) - (a : Int) := wrapi64 (by omega) (by omega)
        have hw2 : wrap64 ((b.size : Int) - (a : Int)) = (b.size : Int) - (a : Int) := by unfold wrap64; omega
        have hB : Hid (a + m ≤ b.size ∧ b.size ≤ 140737488355328) := Lib.hid ⟨by omega, hz⟩
        have HM := fun w (h : CB w c a b 0) => move_ c (a : Int) (m : Int) _ _ w h rfl (by omega)
        obtain ⟨⟨c0, c1, c2⟩, g0, g2⟩ := three h
        have H := Lib.hid h
        clear h ha hz hn1
        go_enter Try.func79, Try.ntmps79
        go_wp2
        go_quiet (fail)
        rename World => w0
        generalize hq : World.drewN _ _ = w1
        have b1 : Below w0.heap.size w0 w1 := by rw [← hq]; exact pw_below_drewN (Below.refl _ _) _
        clear hq c0 c1 c2 g0 g2 hw hw2
        have h1 := H.out.below b1
        obtain ⟨⟨c0, c1, c2⟩, g0, g2⟩ := three h1
        go_wp2_with fail
        refine (HM w1 h1).mono ?_
        rintro e w2 ⟨rfl, rfl⟩
        have h2 : CB (w1.setCell ⟨c, 0, none⟩ (.int .i64 ((a : Int) + (m : Int)))) c (a + m) b 0 := h1.place (a + m)
        have m2 : Mod (At c) w0 (w1.setCell ⟨c, 0, none⟩ (.int .i64 ((a : Int) + (m : Int)))) := at_set (Mod.of b1) _ _
        have he : ((a : Int) + (m : Int)) = ((a + m : Nat) : Int) := by omega
        rw [he] at h2 m2 ⊢
        clear he
        generalize w1.setCell ⟨c, 0, none⟩ (.int .i64 ((a + m : Nat) : Int)) = w2 at *
        clear c0 c1 c2 g0 g2 h1 b1 HM
        obtain ⟨⟨c0, c1, c2⟩, g0, g2⟩ := three h2
        have H2 := Lib.hid h2
        have hlo : a ≤ a + m := by omega
        have hhi : a + m ≤ b.size := hB.out.1
        clear h2 H hn0 hlt
        generalize hx : a + m = x at *
        have HX := Lib.hid hx
        clear hx
        go_wp2
        go_quiet (fail)
        go_wp2
        go_ret
        refine ⟨rfl, ?_, m2.trans (Mod.of (F := At c) (pw_below_drewN (Below.refl _ _) _)) (fun k hk => .inl hk)⟩
        show CB _ c ((a : Int) + (m : Int)).toNat b 0
        rw [show ((a : Int) + (m : Int)).toNat = x from by have := HX.out; omega]
        exact CB.below H2.out (pw_below_drewN (Below.refl _ _) _)
  · rw [if_neg he]
    have e1 : (e != 0) = true := by simpa using he
    obtain ⟨⟨c0, c1, c2⟩, g0, g2⟩ := three h
    have H := Lib.hid h
    clear h ha hz hn1
    go_enter Try.func79, Try.ntmps79
    go_wp2
    go_ret
    exact ⟨rfl, H.out, Mod.refl _ _⟩
end Go.Proofs.Ytehojcocnndniaa.Cur
