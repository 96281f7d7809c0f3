import Derived.Test.YtkijeknopnjamaaCrcRef
import Derived.Test.YtkijeknopnjamaaWZeros
set_option linter.unusedVariables false
set_option linter.unusedSimpArgs false
namespace Go.Proofs.Ytkijeknopnjamaa.CrcR
open Go.RowKit CrcP Go.Proofs.Ytkijeknopnjamaa.PMemorySteps Go.Proofs.YtkijeknopnjamaaW.PrintWords Go.Proofs.YtkijeknopnjamaaW.PrintLast Go.Proofs.YtkijeknopnjamaaW.PrintMore Base Crc

theorem rd_G (l : List Bool) (k : Nat) : rdOf false l (k : Int) = G l k := rfl
theorem info_bool : (Try.prog.info? 4).map (fun i => (i.zero, i.size, i.bytes)) = some (some (.bool false), 1, 1) := by kernel_rfl

set_option maxHeartbeats 4000000 in
set_option maxRecDepth 100000 in
theorem refsum (s : ByteArray) (w : World) (hs : s.size ≤ 1099511627776) :
    Calls Try.prog 44 #[.string s] w fun e w' => e = .returned (.int .u32 (num (CrcP.sum (Crc.bytes s)))) ∧ Below w.heap.size w w' := by
  obtain ⟨kb, hkb⟩ := bits_ev s hs
  obtain ⟨kp, hkp⟩ := poly_ev
  have hdl := data_len (Crc.bytes s)
  have hbl := bitsL_len (Crc.bytes s)
  have hsl := Crc.bytes_len s
  have HD : Hid (bitsL s.data.toList ++ List.replicate (32 : Int).toNat false = data (Crc.bytes s)) := rfl
  have HL : Hid ((bitsL s.data.toList).length = 8 * s.size) := by
    show (bitsL s.data.toList).length = 8 * s.size
    rw [bitsL_len]; simp
  have HKB := Lib.hid hkb
  have HKP := Lib.hid hkp
  clear hkb hkp
  generalize bitsL s.data.toList = bl at *
  go_enter Try.func44, Try.ntmps44
  go_wp2_with fail
  refine (broadsheetref03_bits.calls kb s bl _ HKB.out).mono ?_
  rintro e w1 ⟨v0, rfl, hr1, hb1⟩
  go_wp2_with (at_builtin; refine Kd.R_append_zeros Kd.bool (w0 := w) w.heap.size rfl (.tmp 11) (.const (.int .i64 32)) 58 3 4 (.bool false) 1 rfl Try.underlying58 Try.underlying3 info_bool rfl (by decide) (by omega) v0 bl false (32 : Int) (fun _ => True) rfl rfl rfl ?aF ?aO (by omega) ?aB ?aS ?aL ?_; (case aB => exact hb1); (case aF => exact (fun _ _ => trivial)); (case aO => exact hr1); (case aS => exact hb1.size); (case aL => have := HL.out; omega); intro v1 w2 ho2 hb2 hg2 hat2; clear hr1 hb1 hg2 hat2)
  have HD2 : Hid (bl ++ List.replicate (32 : Int).toNat false = data (Crc.bytes s)) := HD
  rw [HD2.out] at ho2
  clear HD HD2
  generalize hdd : data (Crc.bytes s) = d at *
  have hdn : d.length = 8 * s.size + 32 := by rw [hdl, hsl]
  obtain ⟨g, cap, rfl, hg0, hg1, _⟩ := Kd.R_form ho2 (by omega)
  have HN := Lib.hid hdn
  generalize hnn : d.length = n at *
  have n32 : 32 ≤ n := by omega
  have nmx : n ≤ 8796093022240 := by omega
  clear hdl hdn
  have hgb := hg0
  go_loopw [4] (fun i w' => ∃ k : Nat, k ≤ 32 ∧ i = .int .i64 (k : Int) ∧ Kd.R Kd.bool 4 w' w.heap.size (fun _ => True) (.slice (some ⟨g, 0, Option.none⟩) n cap) (flipN d k) ∧ Below w.heap.size w w' ∧ g < w'.heap.size) (fun i _ => (32 - (intOf i).toNat))
  case atStart => exact ⟨0, by omega, rfl, ho2, hb2, hg1⟩
  case round =>
    obtain ⟨k, k1, rfl, hR, hB, hgs⟩ := hrel
    have hfl : (flipN d k).length = n := by rw [flipN_len, hnn]
    by_cases hlt : k < 32
    · obtain ⟨hcell, hfro⟩ := Kd.R_celln false hR (k : Int) (by omega) (by omega)
      have hput := Kd.R_putg hR (k : Int) (!(G (flipN d k) k))
      rw [rd_G] at hcell
      rw [Int.toNat_natCast] at hcell hfro hput
      have i0 : (0 : Int) ≤ (k : Int) := by omega
      have i1 : (k : Int) < (n : Int) := by omega
      have HF : Hid ((flipN d k).set k (!(G (flipN d k) k)) = flipN d (k + 1)) := rfl
      have HP := Lib.hid hput.1
      clear hput
      go_wp2
      go_roundw
      case rel => exact ⟨k + 1, by omega, by go_num, by rw [← HF.out]; exact HP.out, hB.setCell hgb _, by simpa [World.setCell] using hgs⟩
      case measure => simp [intOf]; omega
    · obtain rfl : k = 32 := by omega
      have HW : Hid (Win d (flipN d 32) 0 (BitVec.allOnes 32)) := by
        have := win_start (Crc.bytes s)
        rw [hdd] at this
        exact this
      generalize flipN d 32 = x0 at *
      go_wp2_with fail
      refine (broadsheetref03_poly.calls kp polyL _ HKP.out).mono ?_
      rintro e w3 ⟨v3, rfl, hr3, hb3⟩
      have hR3 := Kd.R_elder' hR (Kd.R_base hr3) hb3
      have hP3 := Kd.R_lower (Kd.R_new' hr3 (Kd.R_lt hR)) hB.size
      have hB3 := below_step hB hb3
      have hg3 : g < w3.heap.size := by have := hb3.size; omega
      have hpl : polyL.length = 33 := rfl
      obtain ⟨gp, cp, rfl, hgp0, hgp1, _⟩ := Kd.R_form hP3 (by omega)
      rw [hpl] at hP3 hR3
      have hgne : gp ≠ g := fun e => hP3.1 gp rfl |>.2 (by rw [e]; rfl)
      clear hr3 hb3 hR hB hgs hfl hlt
      generalize hpq : polyL = pl at *
      have HPQ := Lib.hid hpq
      clear hpq
      have hst := hgb
      go_wp2
      go_loopw [6, 7] (fun i _ w' => ∃ (m : Nat) (x : List Bool), m ≤ 8 * s.size ∧ i = .int .i64 (m : Int) ∧ Aside0 (Win d x m (reg (Crc.bytes s) m)) ∧ x.length = n ∧
        Kd.R Kd.bool 4 w' w.heap.size (fun k => True ∧ some k ≠ (Value.slice (some ⟨gp, 0, Option.none⟩) 33 cp).ownBlock) (.slice (some ⟨g, 0, Option.none⟩) n cap) x ∧
        Kd.R Kd.bool 4 w' w.heap.size (fun k => True ∧ some k ≠ (Value.slice (some ⟨g, 0, Option.none⟩) n cap).ownBlock) (.slice (some ⟨gp, 0, Option.none⟩) 33 cp) pl ∧ Below w.heap.size w w' ∧ g < w'.heap.size) (fun i _ _ => (n - (intOf i).toNat))
      case atStart => exact ⟨0, x0, by omega, rfl, ⟨HW.out⟩, by have := HW.out.1; omega, hR3, hP3, hB3, hg3⟩
      case round =>
        obtain ⟨m, x, m1, rfl, HW1, hxl, hR, hP, hB, hgs⟩ := hrel
        have m0 : (0 : Int) ≤ (m : Int) := by omega
        by_cases hlt : m < 8 * s.size
        · have m2 : (m : Int) + 33 ≤ (n : Int) := by have := HN.out; omega
          have m3 : (m : Int) < (n : Int) := by omega
          obtain ⟨hcell, _⟩ := Kd.R_celln false hR (m : Int) (by omega) (by omega)
          rw [rd_G, Int.toNat_natCast] at hcell
          by_cases hg : G x m = true
          · rw [hg] at hcell
            go_wp2
            go_loopw [7] (fun j w' => ∃ k : Nat, k ≤ 33 ∧ j = .int .i64 (k : Int) ∧
                Kd.R Kd.bool 4 w' w.heap.size (fun k => True ∧ some k ≠ (Value.slice (some ⟨gp, 0, Option.none⟩) 33 cp).ownBlock) (.slice (some ⟨g, 0, Option.none⟩) n cap) (xorN x pl m k) ∧
                Kd.R Kd.bool 4 w' w.heap.size (fun k => True ∧ some k ≠ (Value.slice (some ⟨g, 0, Option.none⟩) n cap).ownBlock) (.slice (some ⟨gp, 0, Option.none⟩) 33 cp) pl ∧ Below w.heap.size w w' ∧ g < w'.heap.size) (fun j _ => (33 - (intOf j).toNat))
            case atStart => exact ⟨0, by omega, rfl, hR, hP, hB, hgs⟩
            case round =>
              clear hcell
              obtain ⟨k, k1, rfl, hR, hP, hB, hgs⟩ := hrel
              have k0 : (0 : Int) ≤ (k : Int) := by omega
              by_cases hk : k < 33
              · have k2 : (k : Int) < 33 := by omega
                have k3 : (m : Int) + (k : Int) < (n : Int) := by omega
                have k4 : (0 : Int) ≤ (m : Int) + (k : Int) := by omega
                obtain ⟨hc1, hf1⟩ := Kd.R_celln false hR ((m : Int) + (k : Int)) (by omega) (by omega)
                obtain ⟨hc2, _⟩ := Kd.R_celln false hP (k : Int) (by omega) (by omega)
                have e1 : ((m : Int) + (k : Int)).toNat = m + k := by omega
                have hput := Kd.R_putg hR ((m : Int) + (k : Int)) (G (xorN x pl m k) (m + k) != G pl k)
                have e2 : rdOf false (xorN x pl m k) ((m : Int) + (k : Int)) = G (xorN x pl m k) (m + k) := by unfold rdOf G; rw [e1]
                rw [e2, e1] at hc1
                rw [e1] at hf1
                rw [e1] at hput
                rw [rd_G, Int.toNat_natCast] at hc2
                have ew : IntKind.i64.wrap ((m : Int) + (k : Int)) = (m : Int) + (k : Int) := wrapi64 (by omega) (by omega)
                have HP := Lib.hid hput.1
                clear hput e2
                go_wp2
                have hc3 : Hid (wr.cell? ⟨g, m + k, Option.none⟩ = some (.bool (G (xorN x pl m k) (m + k))) ∧ wr.cell? ⟨gp, k, Option.none⟩ = some (.bool (G pl k))) := ⟨hc1, hc2⟩
                refine Reg.wp_plan (S := fun w' => w'.cell? ⟨g, m + k, Option.none⟩ = some (.bool (G (xorN x pl m k) (m + k))) ∧ w'.cell? ⟨gp, k, Option.none⟩ = some (.bool (G pl k))) 16 (.fl 0 (.fl 1 (.fl 2 (.fl 3 (.fl 4 (.fl 5 (.fl 6 (.fl 7 (.fl 8 (.fl 9 (.fl 10 (.fl 11 (.fl 12 (.fl 13 (.fl 14 (.fl 15 (.one 16 .done))))))))))))))))) (by kernel_rfl) (by kernel_rfl) (by kernel_rfl) (by kernel_rfl) (fun _ _ _ d _ h => by cases d <;> exact h) ?_ (fun hHeld => ?_)
                · exact hc3.out
                refine Reg.G_on (o := { dst := some 41, op := Op.move (Operand.tmp 3), type := 58, pos := "ref.go:37", after := #[], guard := Option.none }) (v := ?_) (by rfl) ?_ (fun wS hSw => ?_) ?_
                rotate_left
                · kernel_rfl
                · (try dsimp only at hSw); go_simp; (try with_reducible rfl)
                try simp only [Act.put, List.setIfInBounds_toArray, List.set_cons_zero, List.set_cons_succ]
                refine Reg.G_on (o := { dst := some 42, op := Op.move (Operand.tmp 6), type := 3, pos := "ref.go:37", after := #[], guard := Option.none }) (v := ?_) (by rfl) ?_ (fun wS hSw => ?_) ?_
                rotate_left
                · kernel_rfl
                · (try dsimp only at hSw); go_simp; (try with_reducible rfl)
                try simp only [Act.put, List.setIfInBounds_toArray, List.set_cons_zero, List.set_cons_succ]
                refine Reg.G_on (o := { dst := some 43, op := Op.move (Operand.tmp 7), type := 3, pos := "ref.go:37", after := #[], guard := Option.none }) (v := ?_) (by rfl) ?_ (fun wS hSw => ?_) ?_
                rotate_left
                · kernel_rfl
                · (try dsimp only at hSw); go_simp; (try with_reducible rfl)
                try simp only [Act.put, List.setIfInBounds_toArray, List.set_cons_zero, List.set_cons_succ]
                refine Reg.G_on (o := { dst := some 44, op := Op.binOp BinOp.add 3 (Operand.tmp 42) (Operand.tmp 43) 3, type := 3, pos := "ref.go:37", after := #[{ on := 1, ground := Ground.data }, { on := 2, ground := Ground.data }], guard := Option.none }) (v := ?_) (by rfl) ?_ (fun wS hSw => ?_) ?_
                rotate_left
                · kernel_rfl
                · (try dsimp only at hSw); go_simp; (try with_reducible rfl)
                try simp only [Act.put, List.setIfInBounds_toArray, List.set_cons_zero, List.set_cons_succ]
                refine Reg.G_on (o := { dst := some 45, op := Op.move (Operand.tmp 3), type := 58, pos := "ref.go:37", after := #[], guard := Option.none }) (v := ?_) (by rfl) ?_ (fun wS hSw => ?_) ?_
                rotate_left
                · kernel_rfl
                · (try dsimp only at hSw); go_simp; (try with_reducible rfl)
                try simp only [Act.put, List.setIfInBounds_toArray, List.set_cons_zero, List.set_cons_succ]
                refine Reg.G_on (o := { dst := some 46, op := Op.move (Operand.tmp 6), type := 3, pos := "ref.go:37", after := #[], guard := Option.none }) (v := ?_) (by rfl) ?_ (fun wS hSw => ?_) ?_
                rotate_left
                · kernel_rfl
                · (try dsimp only at hSw); go_simp; (try with_reducible rfl)
                try simp only [Act.put, List.setIfInBounds_toArray, List.set_cons_zero, List.set_cons_succ]
                refine Reg.G_on (o := { dst := some 47, op := Op.move (Operand.tmp 7), type := 3, pos := "ref.go:37", after := #[], guard := Option.none }) (v := ?_) (by rfl) ?_ (fun wS hSw => ?_) ?_
                rotate_left
                · kernel_rfl
                · (try dsimp only at hSw); go_simp; (try with_reducible rfl)
                try simp only [Act.put, List.setIfInBounds_toArray, List.set_cons_zero, List.set_cons_succ]
                refine Reg.G_on (o := { dst := some 48, op := Op.binOp BinOp.add 3 (Operand.tmp 46) (Operand.tmp 47) 3, type := 3, pos := "ref.go:37", after := #[{ on := 5, ground := Ground.data }, { on := 6, ground := Ground.data }], guard := Option.none }) (v := ?_) (by rfl) ?_ (fun wS hSw => ?_) ?_
                rotate_left
                · kernel_rfl
                · (try dsimp only at hSw); go_simp; (try with_reducible rfl)
                try simp only [Act.put, List.setIfInBounds_toArray, List.set_cons_zero, List.set_cons_succ]
                refine Reg.G_on (o := { dst := some 49, op := Op.indexAddr 58 (Operand.tmp 45) (Operand.tmp 48), type := 0, pos := "ref.go:37", after := #[{ on := 4, ground := Ground.data }, { on := 7, ground := Ground.data }], guard := Option.none }) (v := ?_) (by rfl) ?_ (fun wS hSw => ?_) ?_
                rotate_left
                · kernel_rfl
                · (try dsimp only at hSw); go_simp; (try with_reducible rfl)
                try simp only [Act.put, List.setIfInBounds_toArray, List.set_cons_zero, List.set_cons_succ]
                refine Reg.G_on (o := { dst := some 50, op := Op.load 4 (Operand.tmp 49), type := 4, pos := "ref.go:37", after := #[{ on := 8, ground := Ground.data }], guard := Option.none }) (v := ?_) (by rfl) ?_ (fun wS hSw => ?_) ?_
                rotate_left
                · kernel_rfl
                · (try dsimp only at hSw); go_simp; (try with_reducible rfl)
                try simp only [Act.put, List.setIfInBounds_toArray, List.set_cons_zero, List.set_cons_succ]
                refine Reg.G_on (o := { dst := some 51, op := Op.move (Operand.tmp 5), type := 58, pos := "ref.go:37", after := #[], guard := Option.none }) (v := ?_) (by rfl) ?_ (fun wS hSw => ?_) ?_
                rotate_left
                · kernel_rfl
                · (try dsimp only at hSw); go_simp; (try with_reducible rfl)
                try simp only [Act.put, List.setIfInBounds_toArray, List.set_cons_zero, List.set_cons_succ]
                refine Reg.G_on (o := { dst := some 52, op := Op.move (Operand.tmp 7), type := 3, pos := "ref.go:37", after := #[], guard := Option.none }) (v := ?_) (by rfl) ?_ (fun wS hSw => ?_) ?_
                rotate_left
                · kernel_rfl
                · (try dsimp only at hSw); go_simp; (try with_reducible rfl)
                try simp only [Act.put, List.setIfInBounds_toArray, List.set_cons_zero, List.set_cons_succ]
                refine Reg.G_on (o := { dst := some 53, op := Op.indexAddr 58 (Operand.tmp 51) (Operand.tmp 52), type := 0, pos := "ref.go:37", after := #[{ on := 10, ground := Ground.data }, { on := 11, ground := Ground.data }], guard := Option.none }) (v := ?_) (by rfl) ?_ (fun wS hSw => ?_) ?_
                rotate_left
                · kernel_rfl
                · (try dsimp only at hSw); go_simp; (try with_reducible rfl)
                try simp only [Act.put, List.setIfInBounds_toArray, List.set_cons_zero, List.set_cons_succ]
                refine Reg.G_on (o := { dst := some 54, op := Op.load 4 (Operand.tmp 53), type := 4, pos := "ref.go:37", after := #[{ on := 12, ground := Ground.data }], guard := Option.none }) (v := ?_) (by rfl) ?_ (fun wS hSw => ?_) ?_
                rotate_left
                · kernel_rfl
                · (try dsimp only at hSw); go_simp; (try with_reducible rfl)
                try simp only [Act.put, List.setIfInBounds_toArray, List.set_cons_zero, List.set_cons_succ]
                refine Reg.G_on (o := { dst := some 55, op := Op.binOp BinOp.neq 4 (Operand.tmp 50) (Operand.tmp 54) 4, type := 4, pos := "ref.go:37", after := #[{ on := 9, ground := Ground.data }, { on := 13, ground := Ground.data }], guard := Option.none }) (v := ?_) (by rfl) ?_ (fun wS hSw => ?_) ?_
                rotate_left
                · kernel_rfl
                · (try dsimp only at hSw); go_simp; (try with_reducible rfl)
                try simp only [Act.put, List.setIfInBounds_toArray, List.set_cons_zero, List.set_cons_succ]
                refine Reg.G_on (o := { dst := some 56, op := Op.indexAddr 58 (Operand.tmp 41) (Operand.tmp 44), type := 0, pos := "ref.go:37", after := #[{ on := 0, ground := Ground.data }, { on := 3, ground := Ground.data }, { on := 0, ground := Ground.phase }, { on := 1, ground := Ground.phase }, { on := 2, ground := Ground.phase }, { on := 3, ground := Ground.phase }, { on := 4, ground := Ground.phase }, { on := 5, ground := Ground.phase }, { on := 6, ground := Ground.phase }, { on := 7, ground := Ground.phase }, { on := 8, ground := Ground.phase }, { on := 9, ground := Ground.phase }, { on := 10, ground := Ground.phase }, { on := 11, ground := Ground.phase }, { on := 12, ground := Ground.phase }, { on := 13, ground := Ground.phase }, { on := 14, ground := Ground.phase }], guard := Option.none }) (v := ?_) (by rfl) ?_ (fun wS hSw => ?_) ?_
                rotate_left
                · kernel_rfl
                · (try dsimp only at hSw); go_simp; (try with_reducible rfl)
                try simp only [Act.put, List.setIfInBounds_toArray, List.set_cons_zero, List.set_cons_succ]
                refine Reg.G_last (o := { dst := Option.none, op := Op.store 4 (Operand.tmp 56) (Operand.tmp 55), type := 0, pos := "ref.go:37", after := #[{ on := 15, ground := Ground.data }, { on := 14, ground := Ground.data }, { on := 0, ground := Ground.phase }, { on := 1, ground := Ground.phase }, { on := 2, ground := Ground.phase }, { on := 3, ground := Ground.phase }, { on := 4, ground := Ground.phase }, { on := 5, ground := Ground.phase }, { on := 6, ground := Ground.phase }, { on := 7, ground := Ground.phase }, { on := 8, ground := Ground.phase }, { on := 9, ground := Ground.phase }, { on := 10, ground := Ground.phase }, { on := 11, ground := Ground.phase }, { on := 12, ground := Ground.phase }, { on := 13, ground := Ground.phase }, { on := 14, ground := Ground.phase }], guard := Option.none }) (by rfl) (by rfl) ?_ (fun K hK => ?_)
                · kernel_rfl
                go_simp
                refine hK.out _ _ ?_
                clear hK K
                try simp only [Act.put, List.setIfInBounds_toArray, List.set_cons_zero, List.set_cons_succ]
                go_wp2
                go_roundw
                case rel => exact ⟨k + 1, by omega, by go_num, Kd.R_drew HP.out, Kd.R_drew (Kd.R_far hP (fun q hq e => hq.2 (by rw [e]; rfl)) _), (hB.setCell hgb _).drew, by simpa [World.setCell, World.drew] using hgs⟩
                case measure => simp [intOf]; omega
              · obtain rfl : k = 33 := by omega
                have HW2 : Hid (Win d (xorN x pl m 33) (m + 1) (reg (Crc.bytes s) (m + 1))) := by
                  have h1 := win_step HW1.out (by omega)
                  rw [if_pos hg, HPQ.out, ← hdd, ← reg_succ _ _ (by rw [hbl, hsl]; omega), hdd] at h1
                  exact h1
                have hxl2 : (xorN x pl m 33).length = n := by rw [xorN_len, hxl]
                generalize xorN x pl m 33 = x2 at *
                go_wp2
                go_roundw
                case rel => exact ⟨m + 1, x2, by omega, by go_num, ⟨HW2.out⟩, hxl2, hR, hP, hB, hgs⟩
                case measure => simp [intOf]; omega
          · have hg' : G x m = false := by simpa using hg
            rw [hg'] at hcell
            have HW2 : Hid (Win d x (m + 1) (reg (Crc.bytes s) (m + 1))) := by
              have h1 := win_step HW1.out (by omega)
              rw [if_neg hg, ← hdd, ← reg_succ _ _ (by rw [hbl, hsl]; omega), hdd] at h1
              exact h1
            clear hg hg'
            go_wp2
            go_roundw
            case rel => exact ⟨m + 1, x, by omega, by go_num, ⟨HW2.out⟩, hxl, hR, hP, hB, hgs⟩
            case measure => simp [intOf]; omega
        · obtain rfl : m = 8 * s.size := by omega
          have n9 : ((8 * s.size : Nat) : Int) + 32 = (n : Int) := by have := HN.out; omega
          have HW3 : Hid (∀ j, j < 32 → G x (8 * s.size + j) = (stepL (BitVec.allOnes 32) (Crc.bytes s)).getLsbD j) := by
            have h1 := HW1.out
            rw [← hdd, reg_end _ _ (by rw [hbl, hsl]; exact Nat.le_refl _), ← hsl] at h1
            have h2 := fun j hj => win_end h1 j hj
            rw [hsl] at h2
            exact h2
          have HY : Hid (CrcP.sum (Crc.bytes s) = ~~~ (stepL (BitVec.allOnes 32) (Crc.bytes s))) := by
            show CrcP.sum (Crc.bytes s) = _
            unfold CrcP.sum CrcP.more
            rw [BitVec.not_zero]
          generalize stepL (BitVec.allOnes 32) (Crc.bytes s) = y at *
          clear HW1
          have HB : Hid (∀ t, t < 32 → G x (n - 1 - t) = y.getLsbD (31 - t)) := by
            intro t ht
            have h1 := HW3.out (31 - t) (by omega)
            rw [← h1]
            congr 1
            omega
          have n8 : (32 : Int) ≤ (n : Int) := by omega
          have n7 : (n : Int) ≤ 8796093022240 := by omega
          go_wp2
          go_loopw [8, 9] (fun a i w' => ∃ t : Nat, t ≤ 32 ∧ a = .int .u32 (read (~~~ y) t) ∧ i = .int .i64 ((n : Int) - 1 - (t : Int)) ∧
            Kd.R Kd.bool 4 w' w.heap.size (fun k => True ∧ some k ≠ (Value.slice (some ⟨gp, 0, Option.none⟩) 33 cp).ownBlock) (.slice (some ⟨g, 0, Option.none⟩) n cap) x ∧ Below w.heap.size w w') (fun _ i _ => (intOf i + 33 - n).toNat)
          case atStart => exact ⟨0, by omega, by rw [read_0], by simp, hR, hB⟩
          case round =>
            obtain ⟨t, t1, rfl, rfl, hR, hB⟩ := hrel
            have rb := read_hi (~~~ y) t
            by_cases ht : t < 32
            · have j0 : (0 : Int) ≤ (n : Int) - 1 - (t : Int) := by omega
              have j1 : (n : Int) - 1 - (t : Int) < (n : Int) := by omega
              have j2 : (n : Int) - 32 ≤ (n : Int) - 1 - (t : Int) := by omega
              have j3 : IntKind.i64.wrap ((n : Int) - 1 - (t : Int) - 1) = (n : Int) - 1 - ((t + 1 : Nat) : Int) := by rw [wrapi64 (by omega) (by omega)]; omega
              obtain ⟨hc, _⟩ := Kd.R_celln false hR ((n : Int) - 1 - (t : Int)) (by omega) (by omega)
              have e1 : ((n : Int) - 1 - (t : Int)).toNat = n - 1 - t := by omega
              have e2 : rdOf false x ((n : Int) - 1 - (t : Int)) = y.getLsbD (31 - t) := by
                rw [← HB.out t ht]
                unfold rdOf G
                rw [e1]
              rw [e2, e1] at hc
              obtain ⟨rs, rl⟩ := read_succ (~~~ y) t ht
              have hnb : (~~~ y).getLsbD (31 - t) = !(y.getLsbD (31 - t)) := by
                rw [BitVec.getLsbD_not]
                have : 31 - t < 32 := by omega
                simp [this]
              rw [hnb] at rs
              have RS := Lib.hid rs
              clear rs hnb e2
              generalize y.getLsbD (31 - t) = bb at *
              cases bb
              · have RS2 : Hid (read (~~~ y) t * 2 + 1 = read (~~~ y) (t + 1)) := RS.out.symm
                clear RS
                go_wp2
                go_roundw
                case rel => exact ⟨t + 1, by omega, by rw [RS2.out], by simp, hR, hB⟩
                case measure => simp [intOf]; omega
              · have RS2 : Hid (read (~~~ y) t * 2 = read (~~~ y) (t + 1)) := by
                  have := RS.out
                  simp at this
                  exact this.symm
                clear RS
                go_wp2
                go_roundw
                case rel => exact ⟨t + 1, by omega, by rw [RS2.out], by simp, hR, hB⟩
                case measure => simp [intOf]; omega
            · obtain rfl : t = 32 := by omega
              have j2 : ((n : Int) - 1 - ((32 : Nat) : Int)) < (n : Int) - 32 := by omega
              go_wp2
              go_ret
              exact ⟨bx (by rw [read_32, HY.out]), hB⟩
end Go.Proofs.Ytkijeknopnjamaa.CrcR
