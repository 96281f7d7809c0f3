import Derived.Test.YtimalojaiaofkaaScr4
import Derived.Test.YtimalojaiaofkaaRegion
set_option linter.unusedVariables false
set_option linter.unusedSimpArgs false
namespace Go.Proofs.Ytimalojaiaofkaa.Scr
open Go.RowKit Base Sp Flat Go.Proofs.YtimalojaiaofkaaW.PrintWords Go.Proofs.YtimalojaiaofkaaW.PrintLast Go.Proofs.YtimalojaiaofkaaW.PrintMore Wd Go.Proofs.Ytimalojaiaofkaa.PScriptPuts
theorem w_up2 {k n : Nat} (h : k < n) (h2 : n ≤ 140737488355328) : wrap64 ((k : Int) + 1) = ((k + 1 : Nat) : Int) := by unfold wrap64; omega
set_option maxRecDepth 20000 in
set_option maxHeartbeats 4000000 in
theorem puts (A : Option Addr) (cap : Nat) (l : List S41) (w : World) (hS : Kd.C k41 w A l.length l) (hc : l.length ≤ cap) (hl : l.length ≤ 140737488355328) (hr : ∀ x ∈ l, x.f0.length ≤ 140737488355328 ∧ ∀ a ∈ x.f0, Rng a) :
    Calls Try.prog 5 #[.slice A l.length cap] w fun e w' => e = .returned (.bool true) ∧ Below w.heap.size w w' := by
  obtain ⟨m, hm⟩ := much_out l hl l.length 0 0 (Nat.zero_add _)
  obtain ⟨k0, hm⟩ := hm.rounds
  have HM := broadsheetlaw45_Much.calls k0 A cap l m w hS hc hm
  have HP := fun w' (h : Below w.heap.size w w') => put A cap l w' (Kd.C_below hS h) (fun x hx a ha => ⟨((hr x hx).2 a ha).1, ((hr x hx).2 a ha).2.1⟩)
  obtain ⟨k1, h1⟩ := (rp_ev l (fun x hx => (hr x hx).2)).rounds
  have HQ := fun w' (h : Below w.heap.size w w') => broadsheetref45_Put.calls k1 A cap l (sput l).1 (sput l).2 w' (Kd.C_below hS h) hc h1
  have HL := Lib.hid hl
  have HR := Lib.hid hr
  have HC := Lib.hid hc
  clear hl hr hm h1 hc k0 k1
  generalize sput l = r at *
  obtain ⟨r1, r2⟩ := r
  dsimp only at HP HQ
  cases m with
  | true =>
    go_enter Try.func5, Try.ntmps5
    go_wp2_with fail
    refine HM.mono ?_
    rintro e w2 ⟨rfl, b2⟩
    go_wp2_with fail
    refine (awake _).mono ?_
    rintro e w3 ⟨rfl, b3⟩
    go_wp2
    go_ret
    exact ⟨rfl, bstep b2 b3⟩
  | false =>
    go_enter Try.func5, Try.ntmps5
    go_wp2_with fail
    refine HM.mono ?_
    rintro e w2 ⟨rfl, b2⟩
    go_wp2_with fail
    refine (HP _ b2).mono ?_
    rintro e w3 ⟨rfl, b3⟩
    have bb3 := bstep b2 b3
    go_wp2_with fail
    refine (HQ _ bb3).mono ?_
    rintro e w4 ⟨rfl, b4⟩
    have bb4 := bstep bb3 b4
    clear b2 b3 b4 bb3 HM HP HQ
    go_wp2
    go_loopw [7] (fun i wr => ∃ k : Nat, i = .int .i64 (k : Int) ∧ k ≤ l.length ∧ Below w.heap.size w wr) (fun i _ => (l.length - (intOf i).toNat))
    case atStart => exact ⟨0, rfl, Nat.zero_le _, bb4⟩
    case round =>
      clear bb4
      obtain ⟨k, rfl, hkl, bb⟩ := hrel
      have k0 : (0 : Int) ≤ (k : Int) := by omega
      by_cases hlt : k < l.length
      · have k2 : (k : Int) < (l.length : Int) := by omega
        obtain ⟨ad, A0, c0, rfl, hcw, hlc, hA⟩ := at_T41 hS (k : Int) k0 k2
        rw [rd41 l k hlt] at hcw hlc hA
        rw [Int.toNat_natCast] at hcw
        have hcr := cbel bb hcw (World.block_lt_of_cell? w _ hcw)
        have hwk := w_up2 hlt HL.out
        have hxl := Lib.hid (HR.out _ (List.getElem_mem hlt)).1
        have hlt2 := Lib.hid hlt
        generalize l[k] = x at *
        obtain ⟨x⟩ := x
        dsimp only at hcw hcr hlc hA hxl
        have HLC := Lib.hid hlc
        clear hlc hlt hkl
        go_wp2
        go_loopw [8] (fun i wr => ∃ j : Nat, i = .int .i64 (j : Int) ∧ j ≤ x.length ∧ Below w.heap.size w wr) (fun i _ => (x.length - (intOf i).toNat))
        case atStart => exact ⟨0, rfl, Nat.zero_le _, bb⟩
        case round =>
          rename World => w5
          clear bb hcr
          obtain ⟨j, rfl, hjl, bb⟩ := hrel
          have j0 : (0 : Int) ≤ (j : Int) := by omega
          have hcr := cbel bb hcw (World.block_lt_of_cell? w _ hcw)
          by_cases hjt : j < x.length
          · have j2 : (j : Int) < (x.length : Int) := by omega
            obtain ⟨ad2, rfl, d0, d1, d2⟩ := at_T43 (Kd.C_below hA bb) (j : Int) j0 j2
            rw [rd43 x j hjt] at d0 d1 d2
            rw [Int.toNat_natCast] at d0 d1 d2
            have hwj := w_up2 hjt hxl.out
            have hjt2 := Lib.hid hjt
            generalize x[j] = a at *
            have HP1 := fun w' => plain a w'
            have HP2 := fun w' => rplain a w'
            generalize plv a = pa at *
            obtain ⟨a0, a1, a2⟩ := a
            obtain ⟨p0, p1, p2⟩ := pa
            dsimp only at d0 d1 d2 HP1 HP2
            have hbk := World.block_lt_of_cell? w5 _ hcr
            have hbk2 := World.block_lt_of_cell? w5 _ d0
            clear hjl hjt
            go_wp2_with fail
            refine Reg.wp_plan (S := fun w' => w'.cell? (ad.add k) = some (.slice (some ad2) x.length c0) ∧ w'.cell? (ad2.add (j * 3)) = some (.int .i64 a0) ∧ w'.cell? ⟨(ad2.add (j * 3)).block, (ad2.add (j * 3)).off + 1, none⟩ = some (.int .i64 a1) ∧ w'.cell? ⟨(ad2.add (j * 3)).block, (ad2.add (j * 3)).off + 2, none⟩ = some (.string a2)) 19 (.fl 0 (.fl 1 (.fl 2 (.fl 3 (.fl 4 (.fl 5 (.fl 6 (.fl 7 (.fl 9 (.fl 10 (.fl 11 (.fl 12 (.fl 13 (.fl 14 (.fl 15 (.fl 16 (.one 8 (.one 17 (.fl 18 .done))))))))))))))))))) (by kernel_rfl) (by kernel_rfl) (by kernel_rfl) (by kernel_rfl) (fun _ _ _ d _ h => by cases d <;> exact h) ?_ (fun hHeld => ?_)
            · exact ⟨by simpa using hcr, by simpa using d0, by simpa using d1, by simpa using d2⟩
            refine Reg.G_on (o := { dst := some 38, op := Op.move (Operand.tmp 0), type := 35, pos := "law.go:37", after := #[], guard := Option.none }) (v := ?_) (by rfl) ?_ (fun wS hSw => ?_) ?_
            rotate_left
            · kernel_rfl
            · (try dsimp only at hSw); go_simp; (try with_reducible rfl)
            try simp only [Act.put, List.setIfInBounds_toArray, List.set_cons_zero, List.set_cons_succ]
            refine Reg.G_on (o := { dst := some 39, op := Op.move (Operand.tmp 7), type := 3, pos := "law.go:37", after := #[], guard := Option.none }) (v := ?_) (by rfl) ?_ (fun wS hSw => ?_) ?_
            rotate_left
            · kernel_rfl
            · (try dsimp only at hSw); go_simp; (try with_reducible rfl)
            try simp only [Act.put, List.setIfInBounds_toArray, List.set_cons_zero, List.set_cons_succ]
            refine Reg.G_on (o := { dst := some 40, op := Op.indexAddr 35 (Operand.tmp 38) (Operand.tmp 39), type := 0, pos := "law.go:37", after := #[{ on := 0, ground := Ground.data }, { on := 1, ground := Ground.data }], guard := Option.none }) (v := ?_) (by rfl) ?_ (fun wS hSw => ?_) ?_
            rotate_left
            · kernel_rfl
            · (try dsimp only at hSw); go_simp; (try with_reducible rfl)
            try simp only [Act.put, List.setIfInBounds_toArray, List.set_cons_zero, List.set_cons_succ]
            refine Reg.G_on (o := { dst := some 41, op := Op.fieldAddr 41 (Operand.tmp 40) 0, type := 0, pos := "law.go:37", after := #[{ on := 2, ground := Ground.data }], guard := Option.none }) (v := ?_) (by rfl) ?_ (fun wS hSw => ?_) ?_
            rotate_left
            · kernel_rfl
            · (try dsimp only at hSw); go_simp; (try with_reducible rfl)
            try simp only [Act.put, List.setIfInBounds_toArray, List.set_cons_zero, List.set_cons_succ]
            refine Reg.G_on (o := { dst := some 42, op := Op.load 39 (Operand.tmp 41), type := 39, pos := "law.go:37", after := #[{ on := 3, ground := Ground.data }], guard := Option.none }) (v := ?_) (by rfl) ?_ (fun wS hSw => ?_) ?_
            rotate_left
            · kernel_rfl
            · (try dsimp only at hSw); go_simp; (try with_reducible rfl)
            try simp only [Act.put, List.setIfInBounds_toArray, List.set_cons_zero, List.set_cons_succ]
            refine Reg.G_on (o := { dst := some 43, op := Op.move (Operand.tmp 8), type := 3, pos := "law.go:37", after := #[], guard := Option.none }) (v := ?_) (by rfl) ?_ (fun wS hSw => ?_) ?_
            rotate_left
            · kernel_rfl
            · (try dsimp only at hSw); go_simp; (try with_reducible rfl)
            try simp only [Act.put, List.setIfInBounds_toArray, List.set_cons_zero, List.set_cons_succ]
            refine Reg.G_on (o := { dst := some 44, op := Op.indexAddr 39 (Operand.tmp 42) (Operand.tmp 43), type := 0, pos := "law.go:37", after := #[{ on := 4, ground := Ground.data }, { on := 5, ground := Ground.data }], guard := Option.none }) (v := ?_) (by rfl) ?_ (fun wS hSw => ?_) ?_
            rotate_left
            · kernel_rfl
            · (try dsimp only at hSw); go_simp; (try with_reducible rfl)
            try simp only [Act.put, List.setIfInBounds_toArray, List.set_cons_zero, List.set_cons_succ]
            refine Reg.G_on (o := { dst := some 45, op := Op.load 43 (Operand.tmp 44), type := 43, pos := "law.go:37", after := #[{ on := 6, ground := Ground.data }], guard := Option.none }) (v := ?_) (by rfl) ?_ (fun wS hSw => ?_) ?_
            rotate_left
            · kernel_rfl
            · (try dsimp only at hSw); go_simp; (try with_reducible rfl)
            try simp only [Act.put, List.setIfInBounds_toArray, List.set_cons_zero, List.set_cons_succ]
            refine Reg.G_on (o := { dst := some 47, op := Op.move (Operand.tmp 0), type := 35, pos := "law.go:37", after := #[], guard := Option.none }) (v := ?_) (by rfl) ?_ (fun wS hSw => ?_) ?_
            rotate_left
            · kernel_rfl
            · (try dsimp only at hSw); go_simp; (try with_reducible rfl)
            try simp only [Act.put, List.setIfInBounds_toArray, List.set_cons_zero, List.set_cons_succ]
            refine Reg.G_on (o := { dst := some 48, op := Op.move (Operand.tmp 7), type := 3, pos := "law.go:37", after := #[], guard := Option.none }) (v := ?_) (by rfl) ?_ (fun wS hSw => ?_) ?_
            rotate_left
            · kernel_rfl
            · (try dsimp only at hSw); go_simp; (try with_reducible rfl)
            try simp only [Act.put, List.setIfInBounds_toArray, List.set_cons_zero, List.set_cons_succ]
            refine Reg.G_on (o := { dst := some 49, op := Op.indexAddr 35 (Operand.tmp 47) (Operand.tmp 48), type := 0, pos := "law.go:37", after := #[{ on := 9, ground := Ground.data }, { on := 10, ground := Ground.data }], guard := Option.none }) (v := ?_) (by rfl) ?_ (fun wS hSw => ?_) ?_
            rotate_left
            · kernel_rfl
            · (try dsimp only at hSw); go_simp; (try with_reducible rfl)
            try simp only [Act.put, List.setIfInBounds_toArray, List.set_cons_zero, List.set_cons_succ]
            refine Reg.G_on (o := { dst := some 50, op := Op.fieldAddr 41 (Operand.tmp 49) 0, type := 0, pos := "law.go:37", after := #[{ on := 11, ground := Ground.data }], guard := Option.none }) (v := ?_) (by rfl) ?_ (fun wS hSw => ?_) ?_
            rotate_left
            · kernel_rfl
            · (try dsimp only at hSw); go_simp; (try with_reducible rfl)
            try simp only [Act.put, List.setIfInBounds_toArray, List.set_cons_zero, List.set_cons_succ]
            refine Reg.G_on (o := { dst := some 51, op := Op.load 39 (Operand.tmp 50), type := 39, pos := "law.go:37", after := #[{ on := 12, ground := Ground.data }], guard := Option.none }) (v := ?_) (by rfl) ?_ (fun wS hSw => ?_) ?_
            rotate_left
            · kernel_rfl
            · (try dsimp only at hSw); go_simp; (try with_reducible rfl)
            try simp only [Act.put, List.setIfInBounds_toArray, List.set_cons_zero, List.set_cons_succ]
            refine Reg.G_on (o := { dst := some 52, op := Op.move (Operand.tmp 8), type := 3, pos := "law.go:37", after := #[], guard := Option.none }) (v := ?_) (by rfl) ?_ (fun wS hSw => ?_) ?_
            rotate_left
            · kernel_rfl
            · (try dsimp only at hSw); go_simp; (try with_reducible rfl)
            try simp only [Act.put, List.setIfInBounds_toArray, List.set_cons_zero, List.set_cons_succ]
            refine Reg.G_on (o := { dst := some 53, op := Op.indexAddr 39 (Operand.tmp 51) (Operand.tmp 52), type := 0, pos := "law.go:37", after := #[{ on := 13, ground := Ground.data }, { on := 14, ground := Ground.data }], guard := Option.none }) (v := ?_) (by rfl) ?_ (fun wS hSw => ?_) ?_
            rotate_left
            · kernel_rfl
            · (try dsimp only at hSw); go_simp; (try with_reducible rfl)
            try simp only [Act.put, List.setIfInBounds_toArray, List.set_cons_zero, List.set_cons_succ]
            refine Reg.G_on (o := { dst := some 54, op := Op.load 43 (Operand.tmp 53), type := 43, pos := "law.go:37", after := #[{ on := 15, ground := Ground.data }], guard := Option.none }) (v := ?_) (by rfl) ?_ (fun wS hSw => ?_) ?_
            rotate_left
            · kernel_rfl
            · (try dsimp only at hSw); go_simp; (try with_reducible rfl)
            try simp only [Act.put, List.setIfInBounds_toArray, List.set_cons_zero, List.set_cons_succ]
            refine Reg.G_step (o := { dst := some 46, op := Op.call { callee := Callee.value (Operand.func 24), args := #[Operand.tmp 45], argTypes := #[43] }, type := 43, pos := "law.go:37", after := #[{ on := 7, ground := Ground.data }], guard := Option.none }) (by rfl) ?_ (fun K hK => ?_)
            · kernel_rfl
            go_simp
            refine (HP1 _).mono ?_
            rintro e w' ⟨rfl, hb1⟩
            refine hK.out _ _ ?_ (fun hHeld => ?_)
            · exact ⟨cbel hb1 hHeld.1 hbk, cbel hb1 hHeld.2.1 hbk2, cbel hb1 hHeld.2.2.1 hbk2, cbel hb1 hHeld.2.2.2 hbk2⟩
            clear hK K
            try simp only [Act.put, List.setIfInBounds_toArray, List.set_cons_zero, List.set_cons_succ]
            skip
            refine Reg.G_step (o := { dst := some 55, op := Op.call { callee := Callee.value (Operand.func 25), args := #[Operand.tmp 54], argTypes := #[43] }, type := 43, pos := "law.go:37", after := #[{ on := 16, ground := Ground.data }, { on := 8, ground := Ground.chain }], guard := Option.none }) (by rfl) ?_ (fun K hK => ?_)
            · kernel_rfl
            go_simp
            refine (HP2 _).mono ?_
            rintro e w' ⟨rfl, hb2⟩
            refine hK.out _ _ ?_ (fun hHeld => ?_)
            · exact ⟨cbel hb2 hHeld.1 (Nat.lt_of_lt_of_le hbk hb1.size), cbel hb2 hHeld.2.1 (Nat.lt_of_lt_of_le hbk2 hb1.size), cbel hb2 hHeld.2.2.1 (Nat.lt_of_lt_of_le hbk2 hb1.size), cbel hb2 hHeld.2.2.2 (Nat.lt_of_lt_of_le hbk2 hb1.size)⟩
            clear hK K
            try simp only [Act.put, List.setIfInBounds_toArray, List.set_cons_zero, List.set_cons_succ]
            refine Reg.G_on (o := { dst := some 56, op := Op.binOp BinOp.neq 43 (Operand.tmp 46) (Operand.tmp 55) 43, type := 4, pos := "law.go:37", after := #[{ on := 8, ground := Ground.data }, { on := 17, ground := Ground.data }], guard := Option.none }) (v := ?_) (by rfl) ?_ (fun wS hSw => ?_) ?_
            rotate_left
            · kernel_rfl
            · (try dsimp only at hSw); go_simp; (try with_reducible rfl)
            try simp only [Act.put, List.setIfInBounds_toArray, List.set_cons_zero, List.set_cons_succ]
            refine Reg.G_done ?_
            have bbz := bstep (bstep bb.drew hb1) hb2
            clear hb1 hb2 HP1 HP2 hHeld bb hcr d0 d1 d2 hbk hbk2
            go_wp2
            rw [hwj]
            exact ⟨⟨j + 1, rfl, hjt2.out, bbz⟩, meas x.length j hjt2.out⟩
          · have hj : j = x.length := by omega
            subst hj
            clear hjt hjl
            go_wp2
            rw [hwk]
            exact ⟨⟨k + 1, rfl, hlt2.out, bb⟩, meas l.length k hlt2.out⟩
      · have hk : k = l.length := by omega
        subst hk
        clear hlt hkl
        go_wp2_with fail
        refine (awake _).mono ?_
        rintro e w9 ⟨rfl, b9⟩
        go_wp2
        go_ret
        exact ⟨rfl, bstep bb b9⟩
end Go.Proofs.Ytimalojaiaofkaa.Scr
