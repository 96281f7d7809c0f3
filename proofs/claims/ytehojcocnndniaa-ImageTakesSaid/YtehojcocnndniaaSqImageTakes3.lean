import Derived.Test.YtehojcocnndniaaWZeros
import Derived.Test.YtehojcocnndniaaPImageTakesx0
import Derived.Test.YtehojcocnndniaaPImageTakesx3
import Derived.Test.YtehojcocnndniaaSqImageTakes2
set_option linter.unusedVariables false
set_option linter.unusedSimpArgs false
namespace Go.Proofs.Ytehojcocnndniaa.CrcR
open Go.RowKit CrcP Go.Proofs.Ytehojcocnndniaa.PImageTakes Go.Proofs.YtehojcocnndniaaW.PrintWords Go.Proofs.YtehojcocnndniaaW.PrintLast Go.Proofs.YtehojcocnndniaaW.PrintMore Base Crc

theorem rd_G (l : List Bool) (k : Nat) : rdOf false l (k : Int) = G l k := rfl
theorem info_bool : (Try.prog.info? 4).map (fun i => (i.zero, i.size, i.bytes)) = some (some (.bool false), 1, 1) := by kernel_rfl

set_option maxHeartbeats 4000000 in
set_option maxRecDepth 100000 in
theorem refsum (s : ByteArray) (w : World) (hs : s.size ≤ 1099511627776) :
    Calls Try.prog 60 #[.string s] w fun e w' => e = .returned (.int .u32 (num (CrcP.sum (Crc.bytes s)))) ∧ Below w.heap.size w w' := by
  obtain ⟨kb, hkb⟩ := bits_ev s hs
  obtain ⟨kp, hkp⟩ := poly_ev
  have hdl := data_len (Crc.bytes s)
  have hbl := bitsL_len (Crc.bytes s)
  have hsl := Crc.bytes_len s
  have HD : Hid (bitsL s.data.toList ++ List.replicate (32 : Int).toNat false = data (Crc.bytes s)) := rfl
  have HL : Hid ((bitsL s.data.toList).length = 8 * s.size) := by
    show (bitsL s.data.toList).length = 8 * s.size
    rw [bitsL_len]; simp
  have HKB := Lib.hid hkb
  have HKP := Lib.hid hkp
  clear hkb hkp
  generalize bitsL s.data.toList = bl at *
  go_enter Try.func60, Try.ntmps60
  go_wp2_with fail
  refine (broadsheetref03_bits.calls kb s bl _ HKB.out).mono ?_
  rintro e w1 ⟨v0, rfl, hr1, hb1⟩
  go_wp2_with (at_builtin; refine Kd.R_append_zeros Kd.bool (w0 := w) w.heap.size rfl (.tmp 11) (.const (.int .i64 32)) 137 3 4 (.bool false) 1 rfl Try.underlying137 Try.underlying3 info_bool rfl (by decide) (by omega) v0 bl false (32 : Int) (fun _ => True) rfl rfl rfl ?aF ?aO (by omega) ?aB ?aS ?aL ?_; (case aB => exact hb1); (case aF => exact (fun _ _ => trivial)); (case aO => exact hr1); (case aS => exact hb1.size); (case aL => have := HL.out; omega); intro v1 w2 ho2 hb2 hg2 hat2; clear hr1 hb1 hg2 hat2)
  have HD2 : Hid (bl ++ List.replicate (32 : Int).toNat false = data (Crc.bytes s)) := HD
  rw [HD2.out] at ho2
  clear HD HD2
  generalize hdd : data (Crc.bytes s) = d at *
  have hdn : d.length = 8 * s.size + 32 := by rw [hdl, hsl]
  obtain ⟨g, cap, rfl, hg0, hg1, _⟩ := Kd.R_form ho2 (by omega)
  have HN := Lib.hid hdn
  generalize hnn : d.length = n at *
  have n32 : 32 ≤ n := by omega
  have nmx : n ≤ 8796093022240 := by omega
  clear hdl hdn
  have hgb := hg0
  go_loopw [4] (fun i w' => ∃ k : Nat, k ≤ 32 ∧ i = .int .i64 (k : Int) ∧ Kd.R Kd.bool 4 w' w.heap.size (fun _ => True) (.slice (some ⟨g, 0, Option.none⟩) n cap) (flipN d k) ∧ Below w.heap.size w w' ∧ g < w'.heap.size) (fun i _ => (32 - (intOf i).toNat))
  case atStart => exact ⟨0, by omega, rfl, ho2, hb2, hg1⟩
  case round =>
    obtain ⟨k, k1, rfl, hR, hB, hgs⟩ := hrel
    have hfl : (flipN d k).length = n := by rw [flipN_len, hnn]
    by_cases hlt : k < 32
    · obtain ⟨hcell, hfro⟩ := Kd.R_celln false hR (k : Int) (by omega) (by omega)
      have hput := Kd.R_putg hR (k : Int) (!(G (flipN d k) k))
      rw [rd_G] at hcell
      rw [Int.toNat_natCast] at hcell hfro hput
      have i0 : (0 : Int) ≤ (k : Int) := by omega
      have i1 : (k : Int) < (n : Int) := by omega
      have HF : Hid ((flipN d k).set k (!(G (flipN d k) k)) = flipN d (k + 1)) := rfl
      have HP := Lib.hid hput.1
      clear hput
      go_wp2
      go_roundw
      case rel => exact ⟨k + 1, by omega, by go_num, by rw [← HF.out]; exact HP.out, hB.setCell hgb _, by simpa [World.setCell] using hgs⟩
      case measure => simp [intOf]; omega
    · obtain rfl : k = 32 := by omega
      have HW : Hid (Win d (flipN d 32) 0 (BitVec.allOnes 32)) := by
        have := win_start (Crc.bytes s)
        rw [hdd] at this
        exact this
      generalize flipN d 32 = x0 at *
      go_wp2_with fail
      refine (broadsheetref03_poly.calls kp polyL _ HKP.out).mono ?_
      rintro e w3 ⟨v3, rfl, hr3, hb3⟩
      have hR3 := Kd.R_elder' hR (Kd.R_base hr3) hb3
      have hP3 := Kd.R_lower (Kd.R_new' hr3 (Kd.R_lt hR)) hB.size
      have hB3 := below_step hB hb3
      have hg3 : g < w3.heap.size := by have := hb3.size; omega
      have hpl : polyL.length = 33 := rfl
      obtain ⟨gp, cp, rfl, hgp0, hgp1, _⟩ := Kd.R_form hP3 (by omega)
      rw [hpl] at hP3 hR3
      have hgne : gp ≠ g := fun e => hP3.1 gp rfl |>.2 (by rw [e]; rfl)
      clear hr3 hb3 hR hB hgs hfl hlt
      generalize hpq : polyL = pl at *
      have HPQ := Lib.hid hpq
      clear hpq
      have hst := hgb
      go_wp2
      go_loopw [6, 7] (fun i _ w' => ∃ (m : Nat) (x : List Bool), m ≤ 8 * s.size ∧ i = .int .i64 (m : Int) ∧ Aside0 (Win d x m (reg (Crc.bytes s) m)) ∧ x.length = n ∧
        Kd.R Kd.bool 4 w' w.heap.size (fun k => True ∧ some k ≠ (Value.slice (some ⟨gp, 0, Option.none⟩) 33 cp).ownBlock) (.slice (some ⟨g, 0, Option.none⟩) n cap) x ∧
        Kd.R Kd.bool 4 w' w.heap.size (fun k => True ∧ some k ≠ (Value.slice (some ⟨g, 0, Option.none⟩) n cap).ownBlock) (.slice (some ⟨gp, 0, Option.none⟩) 33 cp) pl ∧ Below w.heap.size w w' ∧ g < w'.heap.size) (fun i _ _ => (n - (intOf i).toNat))
      case atStart => exact ⟨0, x0, by omega, rfl, ⟨HW.out⟩, by have := HW.out.1; omega, hR3, hP3, hB3, hg3⟩
      case round =>
        obtain ⟨m, x, m1, rfl, HW1, hxl, hR, hP, hB, hgs⟩ := hrel
        have m0 : (0 : Int) ≤ (m : Int) := by omega
        by_cases hlt : m < 8 * s.size
        · have m2 : (m : Int) + 33 ≤ (n : Int) := by have := HN.out; omega
          have m3 : (m : Int) < (n : Int) := by omega
          obtain ⟨hcell, _⟩ := Kd.R_celln false hR (m : Int) (by omega) (by omega)
          rw [rd_G, Int.toNat_natCast] at hcell
          by_cases hg : G x m = true
          · rw [hg] at hcell
            go_wp2
            go_loopw [7] (fun j w' => ∃ k : Nat, k ≤ 33 ∧ j = .int .i64 (k : Int) ∧
                Kd.R Kd.bool 4 w' w.heap.size (fun k => True ∧ some k ≠ (Value.slice (some ⟨gp, 0, Option.none⟩) 33 cp).ownBlock) (.slice (some ⟨g, 0, Option.none⟩) n cap) (xorN x pl m k) ∧
                Kd.R Kd.bool 4 w' w.heap.size (fun k => True ∧ some k ≠ (Value.slice (some ⟨g, 0, Option.none⟩) n cap).ownBlock) (.slice (some ⟨gp, 0, Option.none⟩) 33 cp) pl ∧ Below w.heap.size w w' ∧ g < w'.heap.size) (fun j _ => (33 - (intOf j).toNat))
            case atStart => exact ⟨0, by omega, rfl, hR, hP, hB, hgs⟩
            case round =>
              clear hcell
              obtain ⟨k, k1, rfl, hR, hP, hB, hgs⟩ := hrel
              have k0 : (0 : Int) ≤ (k : Int) := by omega
              by_cases hk : k < 33
              · have k2 : (k : Int) < 33 := by omega
                have k3 : (m : Int) + (k : Int) < (n : Int) := by omega
                have k4 : (0 : Int) ≤ (m : Int) + (k : Int) := by omega
                obtain ⟨hc1, hf1⟩ := Kd.R_celln false hR ((m : Int) + (k : Int)) (by omega) (by omega)
                obtain ⟨hc2, _⟩ := Kd.R_celln false hP (k : Int) (by omega) (by omega)
                have e1 : ((m : Int) + (k : Int)).toNat = m + k := by omega
                have hput := Kd.R_putg hR ((m : Int) + (k : Int)) (G (xorN x pl m k) (m + k) != G pl k)
                have e2 : rdOf false (xorN x pl m k) ((m : Int) + (k : Int)) = G (xorN x pl m k) (m + k) := by unfold rdOf G; rw [e1]
                rw [e2, e1] at hc1
                rw [e1] at hf1
                rw [e1] at hput
                rw [rd_G, Int.toNat_natCast] at hc2
                have ew : IntKind.i64.wrap ((m : Int) + (k : Int)) = (m : Int) + (k : Int) := wrapi64 (by omega) (by omega)
                have HP := Lib.hid hput.1
                clear hput e2
                go_wp2
                have hc3 : Hid (wr.cell? ⟨g, m + k, Option.none⟩ = some (.bool (G (xorN x pl m k) (m + k))) ∧ wr.cell? ⟨gp, k, Option.none⟩ = some (.bool (G pl k))) := ⟨hc1, hc2⟩
                refine Reg.wp_plan (S := fun w' => w'.cell? ⟨g, m + k, Option.none⟩ = some (.bool (G (xorN x pl m k) (m + k))) ∧ w'.cell? ⟨gp, k, Option.none⟩ = some (.bool (G pl k))) 16 (.fl 0 (.fl 1 (.fl 2 (.fl 3 (.fl 4 (.fl 5 (.fl 6 (.fl 7 (.fl 8 (.fl 9 (.fl 10 (.fl 11 (.fl 12 (.fl 13 (.fl 14 (.fl 15 (.one 16 .done))))))))))))))))) (by kernel_rfl) (by kernel_rfl) (by kernel_rfl) (by kernel_rfl) (fun _ _ _ d _ h => by cases d <;> exact h) ?_ (fun hHeld => ?_)
                · exact hc3.out
                refine Reg.G_on (o := { dst := some 41, op := Op.move (Operand.tmp 3), type := 137, pos := "ref.go:37", after := #[], guard := Option.none }) (v := ?_) (by rfl) ?_ (fun wS hSw => ?_) ?_
                rotate_left
                · kernel_rfl
                · (try dsimp only at hSw); go_simp; (try with_reducible rfl)
                try simp only [Act.put, List.setIfInBounds_toArray, List.set_cons_zero, List.set_cons_succ]
                refine Reg.G_on (o := { dst := some 42, op := Op.move (Operand.tmp 6), type := 3, pos := "ref.go:37", after := #[], guard := Option.none }) (v := ?_) (by rfl) ?_ (fun wS hSw => ?_) ?_
                rotate_left
                · kernel_rfl
                · (try dsimp only at hSw); go_simp; (try with_reducible rfl)
                try simp only [Act.put, List.setIfInBounds_toArray, List.set_cons_zero, List.set_cons_succ]
                refine Reg.G_on (o := { dst := some 43, op := Op.move (Operand.tmp 7), type := 3, pos := "ref.go:37", after := #[], guard := Option.none }) (v := ?_) (by rfl) ?_ (fun wS hSw => ?_) ?_
                rotate_left
                · kernel_rfl
                · (try dsimp only at hSw); go_simp; (try with_reducible rfl)
                try simp only [Act.put, List.setIfInBounds_toArray, List.set_cons_zero, List.set_cons_succ]
                refine Reg.G_on (o := { dst := some 44, op := Op.binOp BinOp.add 3 (Operand.tmp 42) (Operand.tmp 43) 3, type := 3, pos := "ref.go:37", after := #[{ on := 1, ground := Ground.data }, { on := 2, ground := Ground.data }], guard := Option.none }) (v := ?_) (by rfl) ?_ (fun wS hSw => ?_) ?_
                rotate_left
                · kernel_rfl
                · (try dsimp only at hSw); go_simp; (try with_reducible rfl)
                try simp only [Act.put, List.setIfInBounds_toArray, List.set_cons_zero, List.set_cons_succ]
                refine Reg.G_on (o := { dst := some 45, op := Op.move (Operand.tmp 3), type := 137, pos := "ref.go:37", after := #[], guard := Option.none }) (v := ?_) (by rfl) ?_ (fun wS hSw => ?_) ?_
                rotate_left
                · kernel_rfl
                · (try dsimp only at hSw); go_simp; (try with_reducible rfl)
                try simp only [Act.put, List.setIfInBounds_toArray, List.set_cons_zero, List.set_cons_succ]
                refine Reg.G_on (o := { dst := some 46, op := Op.move (Operand.tmp 6), type := 3, pos := "ref.go:37", after := #[], guard := Option.none }) (v := ?_) (by rfl) ?_ (fun wS hSw => ?_) ?_
                rotate_left
                · kernel_rfl
                · (try dsimp only at hSw); go_simp; (try with_reducible rfl)
                try simp only [Act.put, List.setIfInBounds_toArray, List.set_cons_zero, List.set_cons_succ]
                refine Reg.G_on (o := { dst := some 47, op := Op.move (Operand.tmp 7), type := 3, pos := "ref.go:37", after := #[], guard := Option.none }) (v := ?_) (by rfl) ?_ (fun wS hSw => ?_) ?_
                rotate_left
                · kernel_rfl
                · (try dsimp only at hSw); go_simp; (try with_reducible rfl)
                try simp only [Act.put, List.setIfInBounds_toArray, List.set_cons_zero, List.set_cons_succ]
                refine Reg.G_on (o := { dst := some 48, op := Op.binOp BinOp.add 3 (Operand.tmp 46) (Operand.tmp 47) 3, type := 3, pos := "ref.go:37", after := #[{ on := 5, ground := Ground.data }, { on := 6, ground := Ground.data }], guard := Option.none }) (v := ?_) (by rfl) ?_ (fun wS hSw => ?_) ?_
                rotate_left
                · kernel_rfl
                · (try dsimp only at hSw); go_simp; (try with_reducible rfl)
                try simp only [Act.put, List.setIfInBounds_toArray, List.set_cons_zero, List.set_cons_succ]
                refine Reg.G_on (o := { dst := some 49, op := Op.indexAddr 137 (Operand.tmp 45) (Operand.tmp 48), type := 0, pos := "ref.go:37", after := #[{ on := 4, ground := Ground.data }, { on := 7, ground := Ground.data }], guard := Option.none }) (v := ?_) (by rfl) ?_ (fun wS hSw => ?_) ?_
                rotate_left
                · kernel_rfl
                · (try dsimp only at hSw); go_simp; (try with_reducible rfl)
                try simp only [Act.put, List.setIfInBounds_toArray, List.set_cons_zero, List.set_cons_succ]
                refine Reg.G_on (o := { dst := some 50, op := Op.load 4 (Operand.tmp 49), type := 4, pos := "ref.go:37", after := #[{ on := 8, ground := Ground.data }], guard := Option.none }) (v := ?_) (by rfl) ?_ (fun wS hSw => ?_) ?_
                rotate_left
                · kernel_rfl
                · (try dsimp only at hSw); go_simp; (try with_reducible rfl)
                try simp only [Act.put, List.setIfInBounds_toArray, List.set_cons_zero, List.set_cons_succ]
                refine Reg.G_on (o := { dst := some 51, op := Op.move (Operand.tmp 5), type := 137, pos := "ref.go:37", after := #[], guard := Option.none }) (v := ?_) (by rfl) ?_ (fun wS hSw => ?_) ?_
                rotate_left
                · kernel_rfl
                · (try dsimp only at hSw); go_simp; (try with_reducible rfl)
                try simp only [Act.put, List.setIfInBounds_toArray, List.set_cons_zero, List.set_cons_succ]
                refine Reg.G_on (o := { dst := some 52, op := Op.move (Operand.tmp 7), type := 3, pos := "ref.go:37", after := #[], guard := Option.none }) (v := ?_) (by rfl) ?_ (fun wS hSw => ?_) ?_
                rotate_left
                · kernel_rfl
                · (try dsimp only at hSw); go_simp; (try with_reducible rfl)
                try simp only [Act.put, List.setIfInBounds_toArray, List.set_cons_zero, List.set_cons_succ]
                refine Reg.G_on (o := { dst := some 53, op := Op.indexAddr 137 (Operand.tmp 51) (Operand.tmp 52), type := 0, pos := "ref.go:37", after := #[{ on := 10, ground := Ground.data }, { on := 11, ground := Ground.data }], guard := Option.none }) (v := ?_) (by rfl) ?_ (fun wS hSw => ?_) ?_
                rotate_left
                · kernel_rfl
                · (try dsimp only at hSw); go_simp; (try with_reducible rfl)
                try simp only [Act.put, List.setIfInBounds_toArray, List.set_cons_zero, List.set_cons_succ]
                refine Reg.G_on (o := { dst := some 54, op := Op.load 4 (Operand.tmp 53), type := 4, pos := "ref.go:37", after := #[{ on := 12, ground := Ground.data }], guard := Option.none }) (v := ?_) (by rfl) ?_ (fun wS hSw => ?_) ?_
                rotate_left
                · kernel_rfl
                · (try dsimp only at hSw); go_simp; (try with_reducible rfl)
                try simp only [Act.put, List.setIfInBounds_toArray, List.set_cons_zero, List.set_cons_succ]
                refine Reg.G_on (o := { dst := some 55, op := Op.binOp BinOp.neq 4 (Operand.tmp 50) (Operand.tmp 54) 4, type := 4, pos := "ref.go:37", after := #[{ on := 9, ground := Ground.data }, { on := 13, ground := Ground.data }], guard := Option.none }) (v := ?_) (by rfl) ?_ (fun wS hSw => ?_) ?_
                rotate_left
                · kernel_rfl
                · (try dsimp only at hSw); go_simp; (try with_reducible rfl)
                try simp only [Act.put, List.setIfInBounds_toArray, List.set_cons_zero, List.set_cons_succ]
                refine Reg.G_on (o := { dst := some 56, op := Op.indexAddr 137 (Operand.tmp 41) (Operand.tmp 44), type := 0, pos := "ref.go:37", after := #[{ on := 0, ground := Ground.data }, { on := 3, ground := Ground.data }, { on := 0, ground := Ground.phase }, { on := 1, ground := Ground.phase }, { on := 2, ground := Ground.phase }, { on := 3, ground := Ground.phase }, { on := 4, ground := Ground.phase }, { on := 5, ground := Ground.phase }, { on := 6, ground := Ground.phase }, { on := 7, ground := Ground.phase }, { on := 8, ground := Ground.phase }, { on := 9, ground := Ground.phase }, { on := 10, ground := Ground.phase }, { on := 11, ground := Ground.phase }, { on := 12, ground := Ground.phase }, { on := 13, ground := Ground.phase }, { on := 14, ground := Ground.phase }], guard := Option.none }) (v := ?_) (by rfl) ?_ (fun wS hSw => ?_) ?_
                rotate_left
                · kernel_rfl
                · (try dsimp only at hSw); go_simp; (try with_reducible rfl)
                try simp only [Act.put, List.setIfInBounds_toArray, List.set_cons_zero, List.set_cons_succ]
                refine Reg.G_last (o := { dst := Option.none, op := Op.store 4 (Operand.tmp 56) (Operand.tmp 55), type := 0, pos := "ref.go:37", after := #[{ on := 15, ground := Ground.data }, { on := 14, ground := Ground.data }, { on := 0, ground := Ground.phase }, { on := 1, ground := Ground.phase }, { on := 2, ground := Ground.phase }, { on := 3, ground := Ground.phase }, { on := 4, ground := Ground.phase }, { on := 5, ground := Ground.phase }, { on := 6, ground := Ground.phase }, { on := 7, ground := Ground.phase }, { on := 8, ground := Ground.phase }, { on := 9, ground := Ground.phase }, { on := 10, ground := Ground.phase }, { on := 11, ground := Ground.phase }, { on := 12, ground := Ground.phase }, { on := 13, ground := Ground.phase }, { on := 14, ground := Ground.phase }], guard := Option.none }) (by rfl) (by rfl) ?_ (fun K hK => ?_)
                · kernel_rfl
                go_simp
                refine hK.out _ _ ?_
                clear hK K
                try simp only [Act.put, List.setIfInBounds_toArray, List.set_cons_zero, List.set_cons_succ]
                go_wp2
                go_roundw
                case rel => exact ⟨k + 1, by omega, by go_num, Kd.R_drew HP.out, Kd.R_drew (Kd.R_far hP (fun q hq e => hq.2 (by rw [e]; rfl)) _), (hB.setCell hgb _).drew, by simpa [World.setCell, World.drew] using hgs⟩
                case measure => simp [intOf]; omega
              · obtain rfl : k = 33 := by omega
                have HW2 : Hid (Win d (xorN x pl m 33) (m + 1) (reg (Crc.bytes s) (m + 1))) := by
                  have h1 := win_step HW1.out (by omega)
                  rw [if_pos hg, HPQ.out, ← hdd, ← reg_succ _ _ (by rw [hbl, hsl]; omega), hdd] at h1
                  exact h1
                have hxl2 : (xorN x pl m 33).length = n := by rw [xorN_len, hxl]
                generalize xorN x pl m 33 = x2 at *
                go_wp2
                go_roundw
                case rel => exact ⟨m + 1, x2, by omega, by go_num, ⟨HW2.out⟩, hxl2, hR, hP, hB, hgs⟩
                case measure => simp [intOf]; omega
          · have hg' : G x m = false := by simpa using hg
            rw [hg'] at hcell
            have HW2 : Hid (Win d x (m + 1) (reg (Crc.bytes s) (m + 1))) := by
              have h1 := win_step HW1.out (by omega)
              rw [if_neg hg, ← hdd, ← reg_succ _ _ (by rw [hbl, hsl]; omega), hdd] at h1
              exact h1
            clear hg hg'
            go_wp2
            go_roundw
            case rel => exact ⟨m + 1, x, by omega, by go_num, ⟨HW2.out⟩, hxl, hR, hP, hB, hgs⟩
            case measure => simp [intOf]; omega
        · obtain rfl : m = 8 * s.size := by omega
          have n9 : ((8 * s.size : Nat) : Int) + 32 = (n : Int) := by have := HN.out; omega
          have HW3 : Hid (∀ j, j < 32 → G x (8 * s.size + j) = (stepL (BitVec.allOnes 32) (Crc.bytes s)).getLsbD j) := by
            have h1 := HW1.out
            rw [← hdd, reg_end _ _ (by rw [hbl, hsl]; exact Nat.le_refl _), ← hsl] at h1
            have h2 := fun j hj => win_end h1 j hj
            rw [hsl] at h2
            exact h2
          have HY : Hid (CrcP.sum (Crc.bytes s) = ~~~ (stepL (BitVec.allOnes 32) (Crc.bytes s))) := by
            show CrcP.sum (Crc.bytes s) = _
            unfold CrcP.sum CrcP.more
            rw [BitVec.not_zero]
          generalize stepL (BitVec.allOnes 32) (Crc.bytes s) = y at *
          clear HW1
          have HB : Hid (∀ t, t < 32 → G x (n - 1 - t) = y.getLsbD (31 - t)) := by
            intro t ht
            have h1 := HW3.out (31 - t) (by omega)
            rw [← h1]
            congr 1
            omega
          have n8 : (32 : Int) ≤ (n : Int) := by omega
          have n7 : (n : Int) ≤ 8796093022240 := by omega
          go_wp2
          go_loopw [8, 9] (fun a i w' => ∃ t : Nat, t ≤ 32 ∧ a = .int .u32 (read (~~~ y) t) ∧ i = .int .i64 ((n : Int) - 1 - (t : Int)) ∧
            Kd.R Kd.bool 4 w' w.heap.size (fun k => True ∧ some k ≠ (Value.slice (some ⟨gp, 0, Option.none⟩) 33 cp).ownBlock) (.slice (some ⟨g, 0, Option.none⟩) n cap) x ∧ Below w.heap.size w w') (fun _ i _ => (intOf i + 33 - n).toNat)
          case atStart => exact ⟨0, by omega, by rw [read_0], by simp, hR, hB⟩
          case round =>
            obtain ⟨t, t1, rfl, rfl, hR, hB⟩ := hrel
            have rb := read_hi (~~~ y) t
            by_cases ht : t < 32
            · have j0 : (0 : Int) ≤ (n : Int) - 1 - (t : Int) := by omega
              have j1 : (n : Int) - 1 - (t : Int) < (n : Int) := by omega
              have j2 : (n : Int) - 32 ≤ (n : Int) - 1 - (t : Int) := by omega
              have j3 : IntKind.i64.wrap ((n : Int) - 1 - (t : Int) - 1) = (n : Int) - 1 - ((t + 1 : Nat) : Int) := by rw [wrapi64 (by omega) (by omega)]; omega
              obtain ⟨hc, _⟩ := Kd.R_celln false hR ((n : Int) - 1 - (t : Int)) (by omega) (by omega)
              have e1 : ((n : Int) - 1 - (t : Int)).toNat = n - 1 - t := by omega
              have e2 : rdOf false x ((n : Int) - 1 - (t : Int)) = y.getLsbD (31 - t) := by
                rw [← HB.out t ht]
                unfold rdOf G
                rw [e1]
              rw [e2, e1] at hc
              obtain ⟨rs, rl⟩ := read_succ (~~~ y) t ht
              have hnb : (~~~ y).getLsbD (31 - t) = !(y.getLsbD (31 - t)) := by
                rw [BitVec.getLsbD_not]
                have : 31 - t < 32 := by omega
                simp [this]
              rw [hnb] at rs
              have RS := Lib.hid rs
              clear rs hnb e2
              generalize y.getLsbD (31 - t) = bb at *
              cases bb
              · have RS2 : Hid (read (~~~ y) t * 2 + 1 = read (~~~ y) (t + 1)) := RS.out.symm
                clear RS
                go_wp2
                go_roundw
                case rel => exact ⟨t + 1, by omega, by rw [RS2.out], by simp, hR, hB⟩
                case measure => simp [intOf]; omega
              · have RS2 : Hid (read (~~~ y) t * 2 = read (~~~ y) (t + 1)) := by
                  have := RS.out
                  simp at this
                  exact this.symm
                clear RS
                go_wp2
                go_roundw
                case rel => exact ⟨t + 1, by omega, by rw [RS2.out], by simp, hR, hB⟩
                case measure => simp [intOf]; omega
            · obtain rfl : t = 32 := by omega
              have j2 : ((n : Int) - 1 - ((32 : Nat) : Int)) < (n : Int) - 32 := by omega
              go_wp2
              go_ret
              exact ⟨bx (by rw [read_32, HY.out]), hB⟩
end Go.Proofs.Ytehojcocnndniaa.CrcR
namespace Go.Proofs.Ytehojcocnndniaa.PImageTakes
open Go.RowKit Go.Proofs.YtehojcocnndniaaW.PrintWords Go.Proofs.YtehojcocnndniaaW.PrintLast Go.Proofs.YtehojcocnndniaaW.PrintMore
attribute [local go_sem] max2_int min2_int max_two min_two max_three min_three max_four min_four   -- for this text's walks alone

/-! ### broadsheetref03_Sum: function 60, by a contract of its own -/
def broadsheetref03_Sum.f (k : Nat) (a0 : ByteArray) : Option Int := if a0.size ≤ 1099511627776 then some (CrcP.num (CrcP.sum (Crc.bytes a0))) else none
theorem broadsheetref03_Sum.mono : ∀ a0 k, LeO (broadsheetref03_Sum.f k a0) (broadsheetref03_Sum.f (k + 1) a0) := fun a0 k => LeO.refl _
theorem broadsheetref03_Sum.calls (k : Nat) (a0 : ByteArray) (r : Int) (w : World) (h : broadsheetref03_Sum.f k a0 = some r) :
    Calls Try.prog 60 #[.string a0] w fun e w' => e = .returned (.int .u32 r) ∧ Below w.heap.size w w' := by
  unfold broadsheetref03_Sum.f at h
  by_cases hs : a0.size ≤ 1099511627776
  · rw [if_pos hs] at h
    obtain rfl := Option.some.inj h
    exact CrcR.refsum a0 w hs
  · rw [if_neg hs] at h
    cases h

/-! ### broadsheetref01_Sized: function 87 -/
def broadsheetref01_Sized.f (a0 : Int) : Option (Bool) := if a0 = 1 then (some true) else (if a0 = 2 then (some true) else (if a0 = 4 then (some true) else (some (a0 == 8))))
set_option maxHeartbeats 8000000 in
set_option maxRecDepth 100000 in
theorem broadsheetref01_Sized.calls (a0 : Int) (r : Bool) (w : World) (h : broadsheetref01_Sized.f a0 = some r) :
    Calls Try.prog 87 #[.int .i64 a0] w fun e w' => e = .returned (.bool r) ∧ Drawn0 w w' := by
  have H : (if a0 = 1 then (some true) else (if a0 = 2 then (some true) else (if a0 = 4 then (some true) else (some (a0 == 8))))) = some r := h
  clear h
  by_cases c2 : a0 = 1
  · rw [if_pos c2] at H
    have c2b0 : (a0 == 1) = true := beq_iff_eq.mpr c2
    have c2b1 : (a0 != 1) = false := bne_eq_false_iff_eq.mpr c2
    clear c2
    obtain rfl := Option.some.inj H
    go_enter Try.func87, Try.ntmps87
    go_wp2
    go_ret
    exact ⟨by first | rfl | (simp; done) | (simp [*]; done), by repeat (first | exact Drawn0.refl _ | apply Drawn0.step)⟩
  · rw [if_neg c2] at H
    have c2b0 : (a0 == 1) = false := beq_eq_false_iff_ne.mpr c2
    have c2b1 : (a0 != 1) = true := bne_iff_ne.mpr c2
    by_cases c3 : a0 = 2
    · rw [if_pos c3] at H
      have c3b0 : (a0 == 2) = true := beq_iff_eq.mpr c3
      have c3b1 : (a0 != 2) = false := bne_eq_false_iff_eq.mpr c3
      clear c3
      obtain rfl := Option.some.inj H
      go_enter Try.func87, Try.ntmps87
      go_wp2
      go_ret
      exact ⟨by first | rfl | (simp; done) | (simp [*]; done), by repeat (first | exact Drawn0.refl _ | apply Drawn0.step)⟩
    · rw [if_neg c3] at H
      have c3b0 : (a0 == 2) = false := beq_eq_false_iff_ne.mpr c3
      have c3b1 : (a0 != 2) = true := bne_iff_ne.mpr c3
      by_cases c4 : a0 = 4
      · rw [if_pos c4] at H
        have c4b0 : (a0 == 4) = true := beq_iff_eq.mpr c4
        have c4b1 : (a0 != 4) = false := bne_eq_false_iff_eq.mpr c4
        clear c4
        obtain rfl := Option.some.inj H
        go_enter Try.func87, Try.ntmps87
        go_wp2
        go_ret
        exact ⟨by first | rfl | (simp; done) | (simp [*]; done), by repeat (first | exact Drawn0.refl _ | apply Drawn0.step)⟩
      · rw [if_neg c4] at H
        have c4b0 : (a0 == 4) = false := beq_eq_false_iff_ne.mpr c4
        have c4b1 : (a0 != 4) = true := bne_iff_ne.mpr c4
        obtain rfl := Option.some.inj H
        go_enter Try.func87, Try.ntmps87
        go_wp2
        go_ret
        exact ⟨by first | rfl | (simp; done) | (simp [*]; done), by repeat (first | exact Drawn0.refl _ | apply Drawn0.step)⟩

end Go.Proofs.Ytehojcocnndniaa.PImageTakes
namespace Go.Proofs.Ytehojcocnndniaa.PImageTakes
open Go.RowKit Go.Proofs.YtehojcocnndniaaW.PrintWords Go.Proofs.YtehojcocnndniaaW.PrintLast Go.Proofs.YtehojcocnndniaaW.PrintMore
attribute [local go_sem] max2_int min2_int max_two min_two max_three min_three max_four min_four   -- for this text's walks alone

/-! ### broadsheetref01_Take: function 78 -/
mutual
def broadsheetref01_Take.j0 : Nat → ByteArray → Int → Int → Bool → Option (Int × Int)
  | 0, _, _, _, _ => none
  | k + 1, x0, x1, x2, x20 => if x20 = true then (some (0, 7)) else (if (wrap64 ((x0.size : Int) - x1)) < x2 then (some (0, 2)) else (broadsheetref01_Take.l0 k x0 x1 0 (wrap64 (x2 - 1))))
def broadsheetref01_Take.l0 : Nat → ByteArray → Int → Int → Int → Option (Int × Int)
  | 0, _, _, _, _ => none
  | k + 1, x0, x1, x8, x9 => if x9 ≥ 0 then (if 0 ≤ (wrap64 (x1 + x9)) then (if (wrap64 (x1 + x9)) < (x0.size : Int) then (broadsheetref01_Take.l0 k x0 x1 (IntKind.u64.wrap ((IntKind.u64.wrap (x8 * 256)) + (IntKind.u64.wrap (bt x0 (wrap64 (x1 + x9)))))) (wrap64 (x9 - 1))) else (none)) else (none)) else (some (x8, 0))
end
def broadsheetref01_Take.f (k : Nat) (a0 : ByteArray) (a1 : Int) (a2 : Int) : Option (Int × Int) := (broadsheetref01_Sized.f a2).bind fun t150 => (if t150 = true then (if a1 < 0 then (broadsheetref01_Take.j0 k a0 a1 a2 true) else (broadsheetref01_Take.j0 k a0 a1 a2 (decide (a1 > (a0.size : Int))))) else (some (0, 4)))
theorem broadsheetref01_Take.mono_l : ∀ k, (∀ y0 y1 y2 y3, LeO (broadsheetref01_Take.j0 k y0 y1 y2 y3) (broadsheetref01_Take.j0 (k + 1) y0 y1 y2 y3)) ∧ (∀ y0 y1 y2 y3, LeO (broadsheetref01_Take.l0 k y0 y1 y2 y3) (broadsheetref01_Take.l0 (k + 1) y0 y1 y2 y3))
  | 0 => ⟨fun _ _ _ _ r h => by simp [broadsheetref01_Take.j0] at h, fun _ _ _ _ r h => by simp [broadsheetref01_Take.l0] at h⟩
  | k + 1 => by
    obtain ⟨ih0, ih1⟩ := broadsheetref01_Take.mono_l k
    refine ⟨?_, ?_⟩
    · intro y0 y1 y2 y3
      unfold broadsheetref01_Take.j0
      repeat' first
      | (with_reducible exact ih0 _ _ _ _)
      | (with_reducible exact ih1 _ _ _ _)
      | (with_reducible exact LeO.refl _)
      | (with_reducible exact LeO.none _)
      | (with_reducible refine LeO.ite ?_ ?_)
      | (with_reducible refine LeO.bind ?_ (fun _ => ?_))
      | exact ih0 _ _ _ _
      | exact ih1 _ _ _ _
      | exact LeO.none _
      | refine LeO.ite ?_ ?_
      | refine LeO.bind ?_ (fun _ => ?_)
    · intro y0 y1 y2 y3
      unfold broadsheetref01_Take.l0
      repeat' first
      | (with_reducible exact ih0 _ _ _ _)
      | (with_reducible exact ih1 _ _ _ _)
      | (with_reducible exact LeO.refl _)
      | (with_reducible exact LeO.none _)
      | (with_reducible refine LeO.ite ?_ ?_)
      | (with_reducible refine LeO.bind ?_ (fun _ => ?_))
      | exact ih0 _ _ _ _
      | exact ih1 _ _ _ _
      | exact LeO.none _
      | refine LeO.ite ?_ ?_
      | refine LeO.bind ?_ (fun _ => ?_)
theorem broadsheetref01_Take.mono : ∀ a0 a1 a2 k, LeO (broadsheetref01_Take.f k a0 a1 a2) (broadsheetref01_Take.f (k + 1) a0 a1 a2) := by
  intro a0 a1 a2 k
  obtain ⟨ih0, ih1⟩ := broadsheetref01_Take.mono_l k
  unfold broadsheetref01_Take.f
  repeat' first
      | (with_reducible exact ih0 _ _ _ _)
      | (with_reducible exact ih1 _ _ _ _)
      | (with_reducible exact LeO.refl _)
      | (with_reducible exact LeO.none _)
      | (with_reducible refine LeO.ite ?_ ?_)
      | (with_reducible refine LeO.bind ?_ (fun _ => ?_))
      | exact ih0 _ _ _ _
      | exact ih1 _ _ _ _
      | exact LeO.none _
      | refine LeO.ite ?_ ?_
      | refine LeO.bind ?_ (fun _ => ?_)
set_option maxHeartbeats 8000000 in
set_option maxRecDepth 100000 in
theorem broadsheetref01_Take.calls (k : Nat) (a0 : ByteArray) (a1 : Int) (a2 : Int) (r1 : Int) (r2 : Int) (w : World) (h : broadsheetref01_Take.f k a0 a1 a2 = some (r1, r2)) :
    Calls Try.prog 78 #[.string a0, .int .i64 a1, .int .i64 a2] w fun e w' => e = .returned (.tuple #[.int .u64 r1, .int .i64 r2]) ∧ Drawn0 w w' := by
  have H : ((broadsheetref01_Sized.f a2).bind fun t150 => (if t150 = true then (if a1 < 0 then (broadsheetref01_Take.j0 k a0 a1 a2 true) else (broadsheetref01_Take.j0 k a0 a1 a2 (decide (a1 > (a0.size : Int))))) else (some (0, 4)))) = some (r1, r2) := h
  clear h
  replace H := Option.bind_eq_some_iff.mp H
  obtain ⟨t150, A40, H⟩ := H
  replace H : (if t150 = true then (if a1 < 0 then (broadsheetref01_Take.j0 k a0 a1 a2 true) else (broadsheetref01_Take.j0 k a0 a1 a2 (decide (a1 > (a0.size : Int))))) else (some (0, 4))) = some (r1, r2) := H
  have A4 := Aside0.mk A40
  clear A40
  by_cases c5 : t150 = true
  · subst c5
    have H1 : (if a1 < 0 then (broadsheetref01_Take.j0 k a0 a1 a2 true) else (broadsheetref01_Take.j0 k a0 a1 a2 (decide (a1 > (a0.size : Int))))) = some (r1, r2) := by rw [if_pos rfl] at H; exact H
    clear H
    have H := H1
    clear H1
    have HC6 := Aside0.mk H
    clear H
    go_enter Try.func78, Try.ntmps78
    go_upto_region 3 with (first | ((with_reducible refine gate_callee (f := 87) rfl ?_); refine goesL_ (some 11) rfl rfl Try.func87 (by kernel_rfl) rfl #[.int .i64 a2] rfl (by (try simp only [List.map_toArray, List.map_cons, List.map_nil]); first | done | rfl | (simp only [List.length_drop, List.length_take]; rfl)) ?_; (with_reducible refine (broadsheetref01_Sized.calls a2 true _ A4.out).mono ?_); rintro e w' ⟨rfl, ⟨nd, rfl⟩⟩; refine ⟨_, rfl, ?_⟩))
    (try simp only [Act.put, List.setIfInBounds_toArray, List.set_cons_zero, List.set_cons_succ])
    go_cut [20] (fun v20 wc => ∃ (kq : Nat) (x20_5 : Bool), v20 = .bool x20_5 ∧ Aside0 (broadsheetref01_Take.j0 kq a0 a1 a2 x20_5 = some (r1, r2)) ∧ Aside0 (kq ≤ k) ∧ Drawn0 w wc)
    case first =>
      have H := HC6.out
      clear HC6
      by_cases c7 : a1 < 0
      · rw [if_pos c7] at H
        have c7b0 : decide (a1 < 0) = true := decide_eq_true c7
        clear c7
        (first | rw [c7b0] | (simp only [i64_w, i32_w]; rw [c7b0]) | skip)
        have H' := Aside0.mk H
        clear H
        go_wp2
        go_meet
        case rel => exact ⟨_, (true), (by first | rfl | (simp; done) | (simp [*]; done)), H', ⟨by first | omega | exact Nat.le_refl _⟩, by repeat (first | exact Drawn0.refl _ | apply Drawn0.step)⟩
      · rw [if_neg c7] at H
        have c7b0 : decide (a1 < 0) = false := decide_eq_false c7
        clear c7
        (first | rw [c7b0] | (simp only [i64_w, i32_w]; rw [c7b0]) | skip)
        have H' := Aside0.mk H
        clear H
        go_wp2
        go_meet
        case rel => exact ⟨_, (decide (a1 > (a0.size : Int))), (by first | rfl | (simp; done) | (simp [*]; done)), H', ⟨by first | omega | exact Nat.le_refl _⟩, by repeat (first | exact Drawn0.refl _ | apply Drawn0.step)⟩
    case rest =>
      clear HC6
      try clear p2
      try clear c5
      try clear c7
      try clear c7b0
      obtain ⟨kq, x20_5, rfl, HA, HJ5, ⟨mc5, rfl⟩⟩ := hcut
      cases kq with
      | zero => exact absurd HA.out (by simp [broadsheetref01_Take.j0])
      | succ kj5 =>
        have H := HA.out
        clear HA
        simp only [broadsheetref01_Take.j0] at H
        by_cases c8 : x20_5 = true
        · subst c8
          have H1 : (some (0, 7)) = some (r1, r2) := by rw [if_pos rfl] at H; exact H
          clear H
          have H := H1
          clear H1
          simp only [Option.some.injEq, Prod.mk.injEq] at H
          obtain ⟨rfl, rfl⟩ := H
          go_wp2
          go_ret2
          exact ⟨by first | rfl | (simp; done) | (simp [*]; done), by repeat (first | exact Drawn0.refl _ | apply Drawn0.step)⟩
        · replace c8 := Bool.eq_false_iff.mpr c8
          subst c8
          have H1 : (if (wrap64 ((a0.size : Int) - a1)) < a2 then (some (0, 2)) else (broadsheetref01_Take.l0 kj5 a0 a1 0 (wrap64 (a2 - 1)))) = some (r1, r2) := by rw [if_neg (show ¬ (false = true) by decide)] at H; exact H
          clear H
          have H := H1
          clear H1
          by_cases c9 : (wrap64 ((a0.size : Int) - a1)) < a2
          · rw [if_pos c9] at H
            have c9b0 : decide ((wrap64 ((a0.size : Int) - a1)) < a2) = true := decide_eq_true c9
            clear c9
            simp only [Option.some.injEq, Prod.mk.injEq] at H
            obtain ⟨rfl, rfl⟩ := H
            go_wp2
            go_ret2
            exact ⟨by first | rfl | (simp; done) | (simp [*]; done), by repeat (first | exact Drawn0.refl _ | apply Drawn0.step)⟩
          · rw [if_neg c9] at H
            have c9b0 : decide ((wrap64 ((a0.size : Int) - a1)) < a2) = false := decide_eq_false c9
            clear c9
            have H' := Aside0.mk H
            clear H
            go_wp2
            go_loopg [8, 9] kj5 (fun kq v8 v9 w' => ∃ (x8_2 : Int) (x9_2 : Int), v8 = .int .u64 x8_2 ∧ v9 = .int .i64 x9_2 ∧ Aside0 (broadsheetref01_Take.l0 kq a0 a1 x8_2 x9_2 = some (r1, r2)) ∧ Aside0 (kq ≤ kj5) ∧ Drawn0 w w')
            case atStart => exact ⟨(0), (wrap64 (a2 - 1)), (by first | rfl | (simp; done) | (simp [*]; done)), (by first | rfl | (simp; done) | (simp [*]; done)), H', ⟨Nat.le_refl _⟩, by repeat (first | exact Drawn0.refl _ | apply Drawn0.step)⟩
            case round =>
              clear H'
              try clear p2
              try clear c5
              try clear p6
              try clear c7
              try clear c7b0
              try clear c8
              try clear c9
              try clear c9b0
              try clear p2
              obtain ⟨x8_2, x9_2, rfl, rfl, HA, HK2, ⟨m2, rfl⟩⟩ := hrel
              cases gk with
              | zero => exact absurd HA.out (by simp [broadsheetref01_Take.l0])
              | succ k2 =>
                have H := HA.out
                clear HA
                simp only [broadsheetref01_Take.l0] at H
                by_cases c10 : x9_2 ≥ 0
                · rw [if_pos c10] at H
                  have c10b0 : decide (0 ≤ x9_2) = true := decide_eq_true c10
                  clear c10
                  obtain ⟨ji11, hji11⟩ : ∃ j_ : Int, (wrap64 (a1 + x9_2)) = j_ := ⟨_, rfl⟩
                  replace H : (if 0 ≤ (ji11) then (if (ji11) < (a0.size : Int) then (broadsheetref01_Take.l0 k2 a0 a1 (IntKind.u64.wrap ((IntKind.u64.wrap (x8_2 * 256)) + (IntKind.u64.wrap (bt a0 (ji11))))) (wrap64 (x9_2 - 1))) else (none)) else (none)) = some (r1, r2) := by first | (rw [hji11] at H; exact H) | (simp only [hji11] at H ⊢; exact H)
                  have hji11w : (IntKind.i64.wrap (a1 + x9_2)) = ji11 := (i64_w _).trans hji11
                  by_cases c12 : 0 ≤ (ji11)
                  · rw [if_pos c12] at H
                    have c12b0 : decide (0 ≤ (ji11)) = true := decide_eq_true c12
                    clear c12
                    by_cases c13 : (ji11) < (a0.size : Int)
                    · rw [if_pos c13] at H
                      have c13b0 : decide ((ji11) < (a0.size : Int)) = true := decide_eq_true c13
                      clear c13
                      have H' := Aside0.mk H
                      clear H
                      have p14 : 0 ≤ ((ji11) : Int) := of_decide_eq_true (by first | (with_reducible assumption) | assumption)
                      have q14 : (ji11) < (a0.size : Int) := of_decide_eq_true (by first | (with_reducible assumption) | assumption)
                      have hx14 := bt_at a0 (ji11)
                      replace p14 := eq_true p14
                      replace q14 := eq_true q14
                      go_wp2
                      go_roundg k2
                      case measure => have := HJ5.out; have := HK2.out; omega
                      case rel => exact ⟨(IntKind.u64.wrap ((IntKind.u64.wrap (x8_2 * 256)) + (IntKind.u64.wrap (bt a0 (ji11))))), (wrap64 (x9_2 - 1)), (by first | rfl | (simp; done) | (simp only [← hji11] <;> (first | rfl | simp)) | (simp [*]; done)), (by first | rfl | (simp; done) | (simp [*]; done)), H', ⟨by have := HJ5.out; have := HK2.out; omega⟩, by repeat (first | exact Drawn0.refl _ | apply Drawn0.step)⟩
                    · rw [if_neg c13] at H
                      exact absurd H (by simp)
                  · rw [if_neg c12] at H
                    exact absurd H (by simp)
                · rw [if_neg c10] at H
                  have c10b0 : decide (0 ≤ x9_2) = false := decide_eq_false c10
                  clear c10
                  simp only [Option.some.injEq, Prod.mk.injEq] at H
                  obtain ⟨rfl, rfl⟩ := H
                  go_wp2
                  go_ret2
                  exact ⟨by first | rfl | (simp; done) | (simp [*]; done), by repeat (first | exact Drawn0.refl _ | apply Drawn0.step)⟩
  · replace c5 := Bool.eq_false_iff.mpr c5
    subst c5
    have H1 : (some (0, 4)) = some (r1, r2) := by rw [if_neg (show ¬ (false = true) by decide)] at H; exact H
    clear H
    have H := H1
    clear H1
    simp only [Option.some.injEq, Prod.mk.injEq] at H
    obtain ⟨rfl, rfl⟩ := H
    go_enter Try.func78, Try.ntmps78
    go_wp2_with (first | ((with_reducible refine gate_callee (f := 87) rfl ?_); refine goesL_ (some 11) rfl rfl Try.func87 (by kernel_rfl) rfl #[.int .i64 a2] rfl (by (try simp only [List.map_toArray, List.map_cons, List.map_nil]); first | done | rfl | (simp only [List.length_drop, List.length_take]; rfl)) ?_; (with_reducible refine (broadsheetref01_Sized.calls a2 false _ A4.out).mono ?_); rintro e w' ⟨rfl, ⟨nd, rfl⟩⟩; refine ⟨_, rfl, ?_⟩))
    go_ret2
    exact ⟨by first | rfl | (simp; done) | (simp [*]; done), by repeat (first | exact Drawn0.refl _ | apply Drawn0.step)⟩

/-! ### broadsheetref02_Gap: function 88 -/
mutual
def broadsheetref02_Gap.j0 : Nat → Int → Int → Bool → Option (Int)
  | 0, _, _, _ => none
  | k + 1, x0, x1, x12 => if x12 = true then (some 0) else (broadsheetref02_Gap.l0 k x0 x1 0)
def broadsheetref02_Gap.l0 : Nat → Int → Int → Int → Option (Int)
  | 0, _, _, _ => none
  | k + 1, x0, x1, x5 => if x1 = 0 then (none) else (if (Int.tmod (wrap64 ((Int.tmod x0 8) + x5)) x1) = 0 then (some x5) else (broadsheetref02_Gap.l0 k x0 x1 (wrap64 (x5 + 1))))
end
def broadsheetref02_Gap.f (k : Nat) (a0 : Int) (a1 : Int) : Option (Int) := if a0 < 0 then (broadsheetref02_Gap.j0 k a0 a1 true) else ((broadsheetref01_Sized.f a1).bind fun t151 => (broadsheetref02_Gap.j0 k a0 a1 (!t151)))
theorem broadsheetref02_Gap.mono_l : ∀ k, (∀ y0 y1 y2, LeO (broadsheetref02_Gap.j0 k y0 y1 y2) (broadsheetref02_Gap.j0 (k + 1) y0 y1 y2)) ∧ (∀ y0 y1 y2, LeO (broadsheetref02_Gap.l0 k y0 y1 y2) (broadsheetref02_Gap.l0 (k + 1) y0 y1 y2))
  | 0 => ⟨fun _ _ _ r h => by simp [broadsheetref02_Gap.j0] at h, fun _ _ _ r h => by simp [broadsheetref02_Gap.l0] at h⟩
  | k + 1 => by
    obtain ⟨ih0, ih1⟩ := broadsheetref02_Gap.mono_l k
    refine ⟨?_, ?_⟩
    · intro y0 y1 y2
      unfold broadsheetref02_Gap.j0
      repeat' first
      | (with_reducible exact ih0 _ _ _)
      | (with_reducible exact ih1 _ _ _)
      | (with_reducible exact LeO.refl _)
      | (with_reducible exact LeO.none _)
      | (with_reducible refine LeO.ite ?_ ?_)
      | (with_reducible refine LeO.bind ?_ (fun _ => ?_))
      | exact ih0 _ _ _
      | exact ih1 _ _ _
      | exact LeO.none _
      | refine LeO.ite ?_ ?_
      | refine LeO.bind ?_ (fun _ => ?_)
    · intro y0 y1 y2
      unfold broadsheetref02_Gap.l0
      repeat' first
      | (with_reducible exact ih0 _ _ _)
      | (with_reducible exact ih1 _ _ _)
      | (with_reducible exact LeO.refl _)
      | (with_reducible exact LeO.none _)
      | (with_reducible refine LeO.ite ?_ ?_)
      | (with_reducible refine LeO.bind ?_ (fun _ => ?_))
      | exact ih0 _ _ _
      | exact ih1 _ _ _
      | exact LeO.none _
      | refine LeO.ite ?_ ?_
      | refine LeO.bind ?_ (fun _ => ?_)
theorem broadsheetref02_Gap.mono : ∀ a0 a1 k, LeO (broadsheetref02_Gap.f k a0 a1) (broadsheetref02_Gap.f (k + 1) a0 a1) := by
  intro a0 a1 k
  obtain ⟨ih0, ih1⟩ := broadsheetref02_Gap.mono_l k
  unfold broadsheetref02_Gap.f
  repeat' first
      | (with_reducible exact ih0 _ _ _)
      | (with_reducible exact ih1 _ _ _)
      | (with_reducible exact LeO.refl _)
      | (with_reducible exact LeO.none _)
      | (with_reducible refine LeO.ite ?_ ?_)
      | (with_reducible refine LeO.bind ?_ (fun _ => ?_))
      | exact ih0 _ _ _
      | exact ih1 _ _ _
      | exact LeO.none _
      | refine LeO.ite ?_ ?_
      | refine LeO.bind ?_ (fun _ => ?_)
set_option maxHeartbeats 8000000 in
set_option maxRecDepth 100000 in
theorem broadsheetref02_Gap.calls (k : Nat) (a0 : Int) (a1 : Int) (r : Int) (w : World) (h : broadsheetref02_Gap.f k a0 a1 = some r) :
    Calls Try.prog 88 #[.int .i64 a0, .int .i64 a1] w fun e w' => e = .returned (.int .i64 r) ∧ Drawn0 w w' := by
  have H : (if a0 < 0 then (broadsheetref02_Gap.j0 k a0 a1 true) else ((broadsheetref01_Sized.f a1).bind fun t151 => (broadsheetref02_Gap.j0 k a0 a1 (!t151)))) = some r := h
  clear h
  have HC3 := Aside0.mk H
  clear H
  go_enter Try.func88, Try.ntmps88
  go_upto_region 1 with (fail)
  go_cut [12] (fun v12 wc => ∃ (kq : Nat) (x12_2 : Bool), v12 = .bool x12_2 ∧ Aside0 (broadsheetref02_Gap.j0 kq a0 a1 x12_2 = some r) ∧ Aside0 (kq ≤ k) ∧ Drawn0 w wc)
  case first =>
    have H := HC3.out
    clear HC3
    by_cases c4 : a0 < 0
    · rw [if_pos c4] at H
      have c4b0 : decide (a0 < 0) = true := decide_eq_true c4
      clear c4
      (first | rw [c4b0] | (simp only [i64_w, i32_w]; rw [c4b0]) | skip)
      have H' := Aside0.mk H
      clear H
      go_wp2
      go_meet
      case rel => exact ⟨_, (true), (by first | rfl | (simp; done) | (simp [*]; done)), H', ⟨by first | omega | exact Nat.le_refl _⟩, by repeat (first | exact Drawn0.refl _ | apply Drawn0.step)⟩
    · rw [if_neg c4] at H
      have c4b0 : decide (a0 < 0) = false := decide_eq_false c4
      clear c4
      (first | rw [c4b0] | (simp only [i64_w, i32_w]; rw [c4b0]) | skip)
      replace H := Option.bind_eq_some_iff.mp H
      obtain ⟨t151, A50, H⟩ := H
      replace H : (broadsheetref02_Gap.j0 k a0 a1 (!t151)) = some r := H
      have A5 := Aside0.mk A50
      clear A50
      have H' := Aside0.mk H
      clear H
      go_wp2_with (first | (go_at_call 87; (with_reducible refine (broadsheetref01_Sized.calls a1 t151 _ A5.out).mono ?_); rintro e w' ⟨rfl, ⟨nd, rfl⟩⟩))
      go_meet
      case rel => exact ⟨_, (!t151), (by first | rfl | (simp; done) | (simp [*]; done)), H', ⟨by first | omega | exact Nat.le_refl _⟩, by repeat (first | exact Drawn0.refl _ | apply Drawn0.step)⟩
  case rest =>
    clear HC3
    try clear p2
    try clear c4
    try clear c4b0
    obtain ⟨kq, x12_2, rfl, HA, HJ2, ⟨mc2, rfl⟩⟩ := hcut
    cases kq with
    | zero => exact absurd HA.out (by simp [broadsheetref02_Gap.j0])
    | succ kj2 =>
      have H := HA.out
      clear HA
      simp only [broadsheetref02_Gap.j0] at H
      by_cases c6 : x12_2 = true
      · subst c6
        have H1 : (some 0) = some r := by rw [if_pos rfl] at H; exact H
        clear H
        have H := H1
        clear H1
        obtain rfl := Option.some.inj H
        go_wp2
        go_ret
        exact ⟨by first | rfl | (simp; done) | (simp [*]; done), by repeat (first | exact Drawn0.refl _ | apply Drawn0.step)⟩
      · replace c6 := Bool.eq_false_iff.mpr c6
        subst c6
        have H1 : (broadsheetref02_Gap.l0 kj2 a0 a1 0) = some r := by rw [if_neg (show ¬ (false = true) by decide)] at H; exact H
        clear H
        have H := H1
        clear H1
        have H' := Aside0.mk H
        clear H
        go_wp2
        go_loopg [5] kj2 (fun kq v5 w' => ∃ (x5_2 : Int), v5 = .int .i64 x5_2 ∧ Aside0 (broadsheetref02_Gap.l0 kq a0 a1 x5_2 = some r) ∧ Aside0 (kq ≤ kj2) ∧ Drawn0 w w')
        case atStart => exact ⟨(0), (by first | rfl | (simp; done) | (simp [*]; done)), H', ⟨Nat.le_refl _⟩, by repeat (first | exact Drawn0.refl _ | apply Drawn0.step)⟩
        case round =>
          clear H'
          try clear c2
          try clear p2
          try clear c4
          try clear c4b0
          try clear c6
          try clear p2
          obtain ⟨x5_2, rfl, HA, HK2, ⟨m2, rfl⟩⟩ := hrel
          cases gk with
          | zero => exact absurd HA.out (by simp [broadsheetref02_Gap.l0])
          | succ k2 =>
            have H := HA.out
            clear HA
            simp only [broadsheetref02_Gap.l0] at H
            by_cases c7 : a1 = 0
            · rw [if_pos c7] at H
              exact absurd H (by simp)
            · rw [if_neg c7] at H
              have c7b0 : (a1 == 0) = false := beq_eq_false_iff_ne.mpr c7
              have c7b1 : (a1 != 0) = true := bne_iff_ne.mpr c7
              by_cases c8 : (Int.tmod (wrap64 ((Int.tmod a0 8) + x5_2)) a1) = 0
              · rw [if_pos c8] at H
                have c8b0 : ((Int.tmod (wrap64 ((Int.tmod a0 8) + x5_2)) a1) == 0) = true := beq_iff_eq.mpr c8
                have c8b1 : ((Int.tmod (wrap64 ((Int.tmod a0 8) + x5_2)) a1) != 0) = false := bne_eq_false_iff_eq.mpr c8
                clear c8
                obtain rfl := Option.some.inj H
                go_wp2
                go_ret
                exact ⟨by first | rfl | (simp; done) | (simp [*]; done), by repeat (first | exact Drawn0.refl _ | apply Drawn0.step)⟩
              · rw [if_neg c8] at H
                have c8b0 : ((Int.tmod (wrap64 ((Int.tmod a0 8) + x5_2)) a1) == 0) = false := beq_eq_false_iff_ne.mpr c8
                have c8b1 : ((Int.tmod (wrap64 ((Int.tmod a0 8) + x5_2)) a1) != 0) = true := bne_iff_ne.mpr c8
                have H' := Aside0.mk H
                clear H
                go_wp2
                go_roundg k2
                case measure => have := HJ2.out; have := HK2.out; omega
                case rel => exact ⟨(wrap64 (x5_2 + 1)), (by first | rfl | (simp; done) | (simp [*]; done)), H', ⟨by have := HJ2.out; have := HK2.out; omega⟩, by repeat (first | exact Drawn0.refl _ | apply Drawn0.step)⟩

end Go.Proofs.Ytehojcocnndniaa.PImageTakes
namespace Go.Proofs.Ytehojcocnndniaa.RGapImg
open Go.RowKit Base Go.Proofs.YtehojcocnndniaaW.PrintWords Go.Proofs.YtehojcocnndniaaW.PrintLast Go.Proofs.YtehojcocnndniaaW.PrintMore Wd Al Go.Proofs.Ytehojcocnndniaa.PImageTakes
theorem rsized (s : Int) : broadsheetref01_Sized.f s = some (sz s) := by
  unfold broadsheetref01_Sized.f sz
  by_cases h1 : s = 1
  · simp [h1]
  · by_cases h2 : s = 2
    · simp [h2]
    · by_cases h4 : s = 4
      · simp [h4]
      · simp [h1, h2, h4]
theorem rgap_loop (a s : Int) (h0 : 0 ≤ a) (hs : sz s = true) : ∀ (j n k : Nat), ((n + j : Nat) : Int) = (-a) % s → broadsheetref02_Gap.l0 (j + 1 + k) a s (n : Int) = some ((-a) % s)
  | 0, n, k, h => by
    rw [show 0 + 1 + k = k + 1 from by omega]
    simp only [broadsheetref02_Gap.l0]
    have hc := sz_cases hs
    have hw : wrap64 (Int.tmod a 8 + n) = a % 8 + n := by
      rw [Int.tmod_eq_emod_of_nonneg h0]
      unfold wrap64
      rcases hc with rfl | rfl | rfl | rfl <;> omega
    rw [hw, if_neg (by omega), Int.tmod_eq_emod_of_nonneg (by omega), if_pos (by rcases hc with rfl | rfl | rfl | rfl <;> omega)]
    congr 1
  | j + 1, n, k, h => by
    rw [show j + 1 + 1 + k = (j + 1 + k) + 1 from by omega]
    simp only [broadsheetref02_Gap.l0]
    have hc := sz_cases hs
    have hw : wrap64 (Int.tmod a 8 + n) = a % 8 + n := by
      rw [Int.tmod_eq_emod_of_nonneg h0]
      unfold wrap64
      rcases hc with rfl | rfl | rfl | rfl <;> omega
    have hw2 : wrap64 ((n : Int) + 1) = ((n + 1 : Nat) : Int) := by
      unfold wrap64
      rcases hc with rfl | rfl | rfl | rfl <;> omega
    rw [hw, if_neg (by omega), Int.tmod_eq_emod_of_nonneg (by omega), if_neg (by rcases hc with rfl | rfl | rfl | rfl <;> omega), hw2]
    exact rgap_loop a s h0 hs j (n + 1) k (by omega)
theorem rgap_eq (a s : Int) (k : Nat) (hk : 12 ≤ k) : broadsheetref02_Gap.f k a s = some (gapv a s) := by
  obtain ⟨k, rfl⟩ : ∃ m, k = m + 1 := ⟨k - 1, by omega⟩
  unfold broadsheetref02_Gap.f gapv
  rw [rsized]
  by_cases h : a < 0
  · rw [if_pos h, if_pos h]
    simp only [broadsheetref02_Gap.j0]
    rfl
  · rw [if_neg h, if_neg h, Option.bind_some]
    cases hs : sz s with
    | false =>
      simp only [broadsheetref02_Gap.j0]
      rfl
    | true =>
      simp only [broadsheetref02_Gap.j0]
      rw [if_pos trivial]
      have hg : 0 ≤ (-a) % s ∧ (-a) % s ≤ 7 := by
        rcases sz_cases hs with rfl | rfl | rfl | rfl <;> omega
      have := rgap_loop a s (by omega) hs ((-a) % s).toNat 0 (k - 1 - ((-a) % s).toNat) (by omega)
      rw [show ((-a) % s).toNat + 1 + (k - 1 - ((-a) % s).toNat) = k from by omega] at this
      exact this
theorem rgap (a s : Int) (w : World) : Calls Try.prog 88 #[.int .i64 a, .int .i64 s] w fun e w' => e = .returned (.int .i64 (gapv a s)) ∧ Below w.heap.size w w' :=
  (broadsheetref02_Gap.calls 12 a s _ w (rgap_eq a s 12 (by decide))).mono fun _ _ h => ⟨h.1, drawn_below h.2⟩
end Go.Proofs.Ytehojcocnndniaa.RGapImg
namespace Go.Proofs.Ytehojcocnndniaa.WdI
open Wd Go.RowKit Base Go.Proofs.YtehojcocnndniaaW.PrintWords Go.Proofs.YtehojcocnndniaaW.PrintLast Go.Proofs.YtehojcocnndniaaW.PrintMore Go.Proofs.Ytehojcocnndniaa.PImageTakes
theorem rsized_t (s : Int) : broadsheetref01_Sized.f s = some (sz s) := by
  unfold broadsheetref01_Sized.f sz
  by_cases h1 : s = 1
  · simp [h1]
  · by_cases h2 : s = 2
    · simp [h2]
    · by_cases h4 : s = 4
      · simp [h4]
      · simp [h1, h2, h4]
theorem rtake_loop (b : ByteArray) (at_ : Int) (s : Nat) (hs : s ≤ 8) (ha : 0 ≤ at_) (hb : at_ + s ≤ b.size) (hz : b.size ≤ 9223372036854775807) : ∀ (j : Nat) (k : Nat), j ≤ s →
    broadsheetref01_Take.l0 (j + 1 + k) b at_ (lev (fun t => bt b (at_ + ((j + t : Nat) : Int))) (s - j)) ((j : Int) - 1) = some (lev (fun i => bt b (at_ + i)) s, 0)
  | 0, k, h => by
    rw [show 0 + 1 + k = k + 1 from by omega]
    simp only [broadsheetref01_Take.l0]
    rw [if_neg (by omega), Nat.sub_zero]
    simp only [Nat.zero_add]
  | j + 1, k, h => by
    rw [show j + 1 + 1 + k = (j + 1 + k) + 1 from by omega]
    simp only [broadsheetref01_Take.l0]
    have ea : wrap64 (at_ + (((j + 1 : Nat) : Int) - 1)) = at_ + j := by unfold wrap64; omega
    have ew : wrap64 ((((j + 1 : Nat) : Int) - 1) - 1) = (j : Int) - 1 := by unfold wrap64; omega
    have hr := bt_range b (at_ + j)
    have e1 : lev (fun t => bt b (at_ + ((j + t : Nat) : Int))) (s - j) = bt b (at_ + j) + 256 * lev (fun t => bt b (at_ + ((j + 1 + t : Nat) : Int))) (s - (j + 1)) := by
      rw [show s - j = s - (j + 1) + 1 from by omega, lev]
      simp only [Nat.add_zero]
      congr 2
      congr 1
      funext t
      rw [show j + 1 + t = j + (t + 1) from by omega]
    have lo := lev_lo (fun t => bt b (at_ + ((j + 1 + t : Nat) : Int))) (fun i => bt_range b _) (s - (j + 1))
    have hi := lev_hi (fun t => bt b (at_ + ((j + t : Nat) : Int))) (fun i => bt_range b _) (s - j)
    have hp : (256 : Int) ^ (s - j) ≤ 256 ^ 8 := pow_8 (s - j) (by omega)
    have h8 : (256 : Int) ^ 8 = 18446744073709551616 := by decide
    rw [ea, ew, if_pos (by omega), if_pos (by omega), if_pos (by omega)]
    have ex : IntKind.u64.wrap (IntKind.u64.wrap (lev (fun t => bt b (at_ + ((j + 1 + t : Nat) : Int))) (s - (j + 1)) * 256) + IntKind.u64.wrap (bt b (at_ + j))) = lev (fun t => bt b (at_ + ((j + t : Nat) : Int))) (s - j) := by
      rw [u64_mod, u64_mod, u64_mod]
      omega
    rw [ex]
    exact rtake_loop b at_ s hs ha hb hz j k (by omega)
theorem rtake_eq (b : ByteArray) (at_ s : Int) (k : Nat) (hk : 12 ≤ k) (hz : b.size ≤ 9223372036854775807) (h0 : -9223372036854775808 ≤ at_) (h1 : at_ < 9223372036854775808) : broadsheetref01_Take.f k b at_ s = some (if sz s then takev b at_ s else (0, 4)) := by
  unfold broadsheetref01_Take.f
  rw [rsized_t, Option.bind_some]
  cases h : sz s with
  | false => rfl
  | true =>
    have hs := sz_cases h
    obtain ⟨k, rfl⟩ : ∃ m, k = m + 1 := ⟨k - 1, by omega⟩
    rw [if_pos rfl, if_pos rfl]
    unfold takev
    by_cases hn : at_ < 0
    · rw [if_pos hn, if_pos (Or.inl hn)]
      simp [broadsheetref01_Take.j0]
    · rw [if_neg hn]
      by_cases hg : (b.size : Int) < at_
      · rw [show decide (at_ > (b.size : Int)) = true from decide_eq_true hg, if_pos (Or.inr hg)]
        simp [broadsheetref01_Take.j0]
      · rw [show decide (at_ > (b.size : Int)) = false from decide_eq_false hg, if_neg (by omega)]
        simp only [broadsheetref01_Take.j0]
        have ew : wrap64 ((b.size : Int) - at_) = (b.size : Int) - at_ := by unfold wrap64; omega
        rw [if_neg (by decide), ew]
        by_cases hq : (b.size : Int) - at_ < s
        · rw [if_pos hq, if_pos hq]
        · rw [if_neg hq, if_neg hq]
          obtain ⟨n, rfl⟩ : ∃ n : Nat, s = (n : Int) := ⟨s.toNat, by omega⟩
          have ew2 : wrap64 ((n : Int) - 1) = (n : Int) - 1 := by unfold wrap64; omega
          have := rtake_loop b at_ n (by omega) (by omega) (by omega) hz n (k - n - 1) (by omega)
          rw [show n + 1 + (k - n - 1) = k from by omega, Nat.sub_self] at this
          rw [ew2]
          exact this
theorem rtake (b : ByteArray) (at_ s : Int) (hz : b.size ≤ 9223372036854775807) (h0 : -9223372036854775808 ≤ at_) (h1 : at_ < 9223372036854775808) (w : World) :
    Calls Try.prog 78 #[.string b, .int .i64 at_, .int .i64 s] w fun e w' => e = .returned (.tuple #[.int .u64 (if sz s then takev b at_ s else (0, 4)).1, .int .i64 (if sz s then takev b at_ s else (0, 4)).2]) ∧ Below w.heap.size w w' :=
  (broadsheetref01_Take.calls 12 b at_ s _ _ w (rtake_eq b at_ s 12 (by decide) hz h0 h1)).mono fun _ _ h => ⟨h.1, drawn_below h.2⟩
end Go.Proofs.Ytehojcocnndniaa.WdI
