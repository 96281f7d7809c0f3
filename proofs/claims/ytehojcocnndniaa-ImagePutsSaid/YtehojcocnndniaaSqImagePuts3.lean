import Derived.Test.YtehojcocnndniaaPImageTakesx3
import Derived.Test.YtehojcocnndniaaWZeros
import Derived.Test.YtehojcocnndniaaPImagePutsx0
import Derived.Test.YtehojcocnndniaaPImagePutsx3
import Derived.Test.YtehojcocnndniaaPImagePutsx4
import Derived.Test.YtehojcocnndniaaPImagePutsx2
import Derived.Test.YtehojcocnndniaaSqImagePuts2
set_option linter.unusedVariables false
set_option linter.unusedSimpArgs false
namespace Go.Proofs.Ytehojcocnndniaa.CrcR
open Go.RowKit CrcP Go.Proofs.Ytehojcocnndniaa.PImageTakes Go.Proofs.YtehojcocnndniaaW.PrintWords Go.Proofs.YtehojcocnndniaaW.PrintLast Go.Proofs.YtehojcocnndniaaW.PrintMore Base

theorem w64 {x : Int} (h0 : 0 ≤ x) (h1 : x < 9223372036854775808) : wrap64 x = x := by unfold wrap64; omega
theorem bt_get (s : ByteArray) (i : Nat) (h : i < s.size) : bt s (i : Int) = (s[i].toNat : Int) := by
  unfold bt
  simp [h]

/-- One byte's bits. -/
theorem bits_byte (s : ByteArray) (i c : Nat) (r : List Bool) (hi : (i : Int) < 9223372036854775807) (hc : c < 256) (m : Nat) : ∀ (j : Nat) (acc : List Bool), j + m = 8 → acc.length + m ≤ 140737488355327 →
    Ev (fun k => broadsheetref03_bits.l0 k s (acc ++ bitsN c m j) ((i : Int) + 1)) r → Ev (fun k => broadsheetref03_bits.l1 k s acc (i : Int) ((c >>> j : Nat) : Int) (j : Int)) r := by
  induction m with
  | zero =>
    intro j acc hj ha h
    simp only [bitsN, List.append_nil] at h
    refine Ev.step (fun k => ?_) h
    simp only [broadsheetref03_bits.l1]
    rw [if_neg (by omega), w64 (by omega) (by omega)]
  | succ m ih =>
    intro j acc hj ha h
    have e1 : (c >>> (j + 1) : Nat) = (c >>> j) / 2 := by rw [Nat.shiftRight_succ]
    have hb : c >>> j < 256 := by rw [Nat.shiftRight_eq_div_pow]; exact Nat.lt_of_le_of_lt (Nat.div_le_self _ _) hc
    have e4 : c.testBit j = decide ((c >>> j) % 2 = 1) := by rw [Nat.testBit_eq_decide_div_mod_eq, ← Nat.shiftRight_eq_div_pow]
    have h' := ih (j + 1) (acc ++ [c.testBit j]) (by omega) (by rw [List.length_append, List.length_singleton]; omega) (by
      rw [List.append_assoc]; exact h)
    clear ih h
    generalize c >>> (j + 1) = y at *
    generalize c >>> j = x at *
    subst e1
    have e2 : (Int.tmod (x : Int) 2 == 1) = c.testBit j := by
      rw [Int.tmod_eq_emod_of_nonneg (by omega), e4]
      rcases Nat.mod_two_eq_zero_or_one x with h | h
      · have : (x : Int) % 2 = 0 := by omega
        rw [this, h]; rfl
      · have : (x : Int) % 2 = 1 := by omega
        rw [this, h]; rfl
    have e3 : Int.tdiv (x : Int) 2 = ((x / 2 : Nat) : Int) := by
      rw [Int.tdiv_eq_ediv_of_nonneg (by omega)]
      omega
    clear e4
    refine Ev.step (fun k => ?_) h'
    simp only [broadsheetref03_bits.l1]
    rw [if_pos (by omega), if_pos (by omega), e2, e3, w64 (by omega) (by omega), w64 (by omega) (by omega)]
    rfl

theorem bits_from (s : ByteArray) (hs : s.size ≤ 1099511627776) (d : Nat) : ∀ (i : Nat) (acc : List Bool), i + d = s.size → acc.length = 8 * i →
    Ev (fun k => broadsheetref03_bits.l0 k s acc (i : Int)) (acc ++ bitsL (s.data.toList.drop i)) := by
  have hsz : s.data.toList.length = s.size := by simp
  induction d with
  | zero =>
    intro i acc hi ha
    refine Ev.step (f := fun _ => some acc) (fun k => ?_) ?_
    · simp only [broadsheetref03_bits.l0]
      rw [if_neg (by omega)]
    · rw [List.drop_of_length_le (by omega)]
      simp only [bitsL, List.flatMap_nil, List.append_nil]
      exact Ev.now _
  | succ d ih =>
    intro i acc hi ha
    have hlt : i < s.size := by omega
    have hcons : s.data.toList.drop i = s[i] :: s.data.toList.drop (i + 1) := by
      rw [List.drop_eq_getElem_cons (by omega)]
      rfl
    have hl : (acc ++ bitsB s[i]).length = 8 * (i + 1) := by
      rw [List.length_append, bitsB, bitsN_len, ha]
      omega
    have h := ih (i + 1) (acc ++ bitsB s[i]) (by omega) hl
    have hc : s[i].toNat < 256 := s[i].toNat_lt
    have h2 := bits_byte s i s[i].toNat _ (by omega) hc 8 0 acc (by omega) (by omega) (by
      show Ev (fun k => broadsheetref03_bits.l0 k s (acc ++ bitsB s[i]) ((i : Int) + 1)) _
      exact h)
    rw [hcons]
    rw [List.append_assoc] at h2
    refine Ev.step (fun k => ?_) h2
    simp only [broadsheetref03_bits.l0]
    rw [if_pos (by omega), if_pos (by omega), bt_get s i hlt, w64 (by omega) (by omega)]
    rfl
theorem bits_ev (s : ByteArray) (hs : s.size ≤ 1099511627776) : ∃ k, broadsheetref03_bits.f k s = some (bitsL s.data.toList) := by
  have h := bits_from s hs s.size 0 [] (by omega) rfl
  exact Ev.rounds (g := fun k => broadsheetref03_bits.f k s) h

theorem poly_ev : ∃ k, broadsheetref03_poly.f k = some polyL := ⟨20, by decide +kernel⟩
end Go.Proofs.Ytehojcocnndniaa.CrcR
namespace Go.Proofs.Ytehojcocnndniaa.CrcR
open Go.RowKit CrcP Go.Proofs.Ytehojcocnndniaa.PImageTakes Go.Proofs.YtehojcocnndniaaW.PrintWords Go.Proofs.YtehojcocnndniaaW.PrintLast Go.Proofs.YtehojcocnndniaaW.PrintMore Base Crc

theorem rd_G (l : List Bool) (k : Nat) : rdOf false l (k : Int) = G l k := rfl
theorem info_bool : (Try.prog.info? 4).map (fun i => (i.zero, i.size, i.bytes)) = some (some (.bool false), 1, 1) := by kernel_rfl

set_option maxHeartbeats 4000000 in
set_option maxRecDepth 100000 in
theorem refsum (s : ByteArray) (w : World) (hs : s.size ≤ 1099511627776) :
    Calls Try.prog 60 #[.string s] w fun e w' => e = .returned (.int .u32 (num (CrcP.sum (Crc.bytes s)))) ∧ Below w.heap.size w w' := by
  obtain ⟨kb, hkb⟩ := bits_ev s hs
  obtain ⟨kp, hkp⟩ := poly_ev
  have hdl := data_len (Crc.bytes s)
  have hbl := bitsL_len (Crc.bytes s)
  have hsl := Crc.bytes_len s
  have HD : Hid (bitsL s.data.toList ++ List.replicate (32 : Int).toNat false = data (Crc.bytes s)) := rfl
  have HL : Hid ((bitsL s.data.toList).length = 8 * s.size) := by
    show (bitsL s.data.toList).length = 8 * s.size
    rw [bitsL_len]; simp
  have HKB := Lib.hid hkb
  have HKP := Lib.hid hkp
  clear hkb hkp
  generalize bitsL s.data.toList = bl at *
  go_enter Try.func60, Try.ntmps60
  go_wp2_with fail
  refine (broadsheetref03_bits.calls kb s bl _ HKB.out).mono ?_
  rintro e w1 ⟨v0, rfl, hr1, hb1⟩
  go_wp2_with (at_builtin; refine Kd.R_append_zeros Kd.bool (w0 := w) w.heap.size rfl (.tmp 11) (.const (.int .i64 32)) 137 3 4 (.bool false) 1 rfl Try.underlying137 Try.underlying3 info_bool rfl (by decide) (by omega) v0 bl false (32 : Int) (fun _ => True) rfl rfl rfl ?aF ?aO (by omega) ?aB ?aS ?aL ?_; (case aB => exact hb1); (case aF => exact (fun _ _ => trivial)); (case aO => exact hr1); (case aS => exact hb1.size); (case aL => have := HL.out; omega); intro v1 w2 ho2 hb2 hg2 hat2; clear hr1 hb1 hg2 hat2)
  have HD2 : Hid (bl ++ List.replicate (32 : Int).toNat false = data (Crc.bytes s)) := HD
  rw [HD2.out] at ho2
  clear HD HD2
  generalize hdd : data (Crc.bytes s) = d at *
  have hdn : d.length = 8 * s.size + 32 := by rw [hdl, hsl]
  obtain ⟨g, cap, rfl, hg0, hg1, _⟩ := Kd.R_form ho2 (by omega)
  have HN := Lib.hid hdn
  generalize hnn : d.length = n at *
  have n32 : 32 ≤ n := by omega
  have nmx : n ≤ 8796093022240 := by omega
  clear hdl hdn
  have hgb := hg0
  go_loopw [4] (fun i w' => ∃ k : Nat, k ≤ 32 ∧ i = .int .i64 (k : Int) ∧ Kd.R Kd.bool 4 w' w.heap.size (fun _ => True) (.slice (some ⟨g, 0, Option.none⟩) n cap) (flipN d k) ∧ Below w.heap.size w w' ∧ g < w'.heap.size) (fun i _ => (32 - (intOf i).toNat))
  case atStart => exact ⟨0, by omega, rfl, ho2, hb2, hg1⟩
  case round =>
    obtain ⟨k, k1, rfl, hR, hB, hgs⟩ := hrel
    have hfl : (flipN d k).length = n := by rw [flipN_len, hnn]
    by_cases hlt : k < 32
    · obtain ⟨hcell, hfro⟩ := Kd.R_celln false hR (k : Int) (by omega) (by omega)
      have hput := Kd.R_putg hR (k : Int) (!(G (flipN d k) k))
      rw [rd_G] at hcell
      rw [Int.toNat_natCast] at hcell hfro hput
      have i0 : (0 : Int) ≤ (k : Int) := by omega
      have i1 : (k : Int) < (n : Int) := by omega
      have HF : Hid ((flipN d k).set k (!(G (flipN d k) k)) = flipN d (k + 1)) := rfl
      have HP := Lib.hid hput.1
      clear hput
      go_wp2
      go_roundw
      case rel => exact ⟨k + 1, by omega, by go_num, by rw [← HF.out]; exact HP.out, hB.setCell hgb _, by simpa [World.setCell] using hgs⟩
      case measure => simp [intOf]; omega
    · obtain rfl : k = 32 := by omega
      have HW : Hid (Win d (flipN d 32) 0 (BitVec.allOnes 32)) := by
        have := win_start (Crc.bytes s)
        rw [hdd] at this
        exact this
      generalize flipN d 32 = x0 at *
      go_wp2_with fail
      refine (broadsheetref03_poly.calls kp polyL _ HKP.out).mono ?_
      rintro e w3 ⟨v3, rfl, hr3, hb3⟩
      have hR3 := Kd.R_elder' hR (Kd.R_base hr3) hb3
      have hP3 := Kd.R_lower (Kd.R_new' hr3 (Kd.R_lt hR)) hB.size
      have hB3 := below_step hB hb3
      have hg3 : g < w3.heap.size := by have := hb3.size; omega
      have hpl : polyL.length = 33 := rfl
      obtain ⟨gp, cp, rfl, hgp0, hgp1, _⟩ := Kd.R_form hP3 (by omega)
      rw [hpl] at hP3 hR3
      have hgne : gp ≠ g := fun e => hP3.1 gp rfl |>.2 (by rw [e]; rfl)
      clear hr3 hb3 hR hB hgs hfl hlt
      generalize hpq : polyL = pl at *
      have HPQ := Lib.hid hpq
      clear hpq
      have hst := hgb
      go_wp2
      go_loopw [6, 7] (fun i _ w' => ∃ (m : Nat) (x : List Bool), m ≤ 8 * s.size ∧ i = .int .i64 (m : Int) ∧ Aside0 (Win d x m (reg (Crc.bytes s) m)) ∧ x.length = n ∧
        Kd.R Kd.bool 4 w' w.heap.size (fun k => True ∧ some k ≠ (Value.slice (some ⟨gp, 0, Option.none⟩) 33 cp).ownBlock) (.slice (some ⟨g, 0, Option.none⟩) n cap) x ∧
        Kd.R Kd.bool 4 w' w.heap.size (fun k => True ∧ some k ≠ (Value.slice (some ⟨g, 0, Option.none⟩) n cap).ownBlock) (.slice (some ⟨gp, 0, Option.none⟩) 33 cp) pl ∧ Below w.heap.size w w' ∧ g < w'.heap.size) (fun i _ _ => (n - (intOf i).toNat))
      case atStart => exact ⟨0, x0, by omega, rfl, ⟨HW.out⟩, by have := HW.out.1; omega, hR3, hP3, hB3, hg3⟩
      case round =>
        obtain ⟨m, x, m1, rfl, HW1, hxl, hR, hP, hB, hgs⟩ := hrel
        have m0 : (0 : Int) ≤ (m : Int) := by omega
        by_cases hlt : m < 8 * s.size
        · have m2 : (m : Int) + 33 ≤ (n : Int) := by have := HN.out; omega
          have m3 : (m : Int) < (n : Int) := by omega
          obtain ⟨hcell, _⟩ := Kd.R_celln false hR (m : Int) (by omega) (by omega)
          rw [rd_G, Int.toNat_natCast] at hcell
          by_cases hg : G x m = true
          · rw [hg] at hcell
            go_wp2
            go_loopw [7] (fun j w' => ∃ k : Nat, k ≤ 33 ∧ j = .int .i64 (k : Int) ∧
                Kd.R Kd.bool 4 w' w.heap.size (fun k => True ∧ some k ≠ (Value.slice (some ⟨gp, 0, Option.none⟩) 33 cp).ownBlock) (.slice (some ⟨g, 0, Option.none⟩) n cap) (xorN x pl m k) ∧
                Kd.R Kd.bool 4 w' w.heap.size (fun k => True ∧ some k ≠ (Value.slice (some ⟨g, 0, Option.none⟩) n cap).ownBlock) (.slice (some ⟨gp, 0, Option.none⟩) 33 cp) pl ∧ Below w.heap.size w w' ∧ g < w'.heap.size) (fun j _ => (33 - (intOf j).toNat))
            case atStart => exact ⟨0, by omega, rfl, hR, hP, hB, hgs⟩
            case round =>
              clear hcell
              obtain ⟨k, k1, rfl, hR, hP, hB, hgs⟩ := hrel
              have k0 : (0 : Int) ≤ (k : Int) := by omega
              by_cases hk : k < 33
              · have k2 : (k : Int) < 33 := by omega
                have k3 : (m : Int) + (k : Int) < (n : Int) := by omega
                have k4 : (0 : Int) ≤ (m : Int) + (k : Int) := by omega
                obtain ⟨hc1, hf1⟩ := Kd.R_celln false hR ((m : Int) + (k : Int)) (by omega) (by omega)
                obtain ⟨hc2, _⟩ := Kd.R_celln false hP (k : Int) (by omega) (by omega)
                have e1 : ((m : Int) + (k : Int)).toNat = m + k := by omega
                have hput := Kd.R_putg hR ((m : Int) + (k : Int)) (G (xorN x pl m k) (m + k) != G pl k)
                have e2 : rdOf false (xorN x pl m k) ((m : Int) + (k : Int)) = G (xorN x pl m k) (m + k) := by unfold rdOf G; rw [e1]
                rw [e2, e1] at hc1
                rw [e1] at hf1
                rw [e1] at hput
                rw [rd_G, Int.toNat_natCast] at hc2
                have ew : IntKind.i64.wrap ((m : Int) + (k : Int)) = (m : Int) + (k : Int) := wrapi64 (by omega) (by omega)
                have HP := Lib.hid hput.1
                clear hput e2
                go_wp2
                have hc3 : Hid (wr.cell? ⟨g, m + k, Option.none⟩ = some (.bool (G (xorN x pl m k) (m + k))) ∧ wr.cell? ⟨gp, k, Option.none⟩ = some (.bool (G pl k))) := ⟨hc1, hc2⟩
                refine Reg.wp_plan (S := fun w' => w'.cell? ⟨g, m + k, Option.none⟩ = some (.bool (G (xorN x pl m k) (m + k))) ∧ w'.cell? ⟨gp, k, Option.none⟩ = some (.bool (G pl k))) 16 (.fl 0 (.fl 1 (.fl 2 (.fl 3 (.fl 4 (.fl 5 (.fl 6 (.fl 7 (.fl 8 (.fl 9 (.fl 10 (.fl 11 (.fl 12 (.fl 13 (.fl 14 (.fl 15 (.one 16 .done))))))))))))))))) (by kernel_rfl) (by kernel_rfl) (by kernel_rfl) (by kernel_rfl) (fun _ _ _ d _ h => by cases d <;> exact h) ?_ (fun hHeld => ?_)
                · exact hc3.out
                refine Reg.G_on (o := { dst := some 41, op := Op.move (Operand.tmp 3), type := 137, pos := "ref.go:37", after := #[], guard := Option.none }) (v := ?_) (by rfl) ?_ (fun wS hSw => ?_) ?_
                rotate_left
                · kernel_rfl
                · (try dsimp only at hSw); go_simp; (try with_reducible rfl)
                try simp only [Act.put, List.setIfInBounds_toArray, List.set_cons_zero, List.set_cons_succ]
                refine Reg.G_on (o := { dst := some 42, op := Op.move (Operand.tmp 6), type := 3, pos := "ref.go:37", after := #[], guard := Option.none }) (v := ?_) (by rfl) ?_ (fun wS hSw => ?_) ?_
                rotate_left
                · kernel_rfl
                · (try dsimp only at hSw); go_simp; (try with_reducible rfl)
                try simp only [Act.put, List.setIfInBounds_toArray, List.set_cons_zero, List.set_cons_succ]
                refine Reg.G_on (o := { dst := some 43, op := Op.move (Operand.tmp 7), type := 3, pos := "ref.go:37", after := #[], guard := Option.none }) (v := ?_) (by rfl) ?_ (fun wS hSw => ?_) ?_
                rotate_left
                · kernel_rfl
                · (try dsimp only at hSw); go_simp; (try with_reducible rfl)
                try simp only [Act.put, List.setIfInBounds_toArray, List.set_cons_zero, List.set_cons_succ]
                refine Reg.G_on (o := { dst := some 44, op := Op.binOp BinOp.add 3 (Operand.tmp 42) (Operand.tmp 43) 3, type := 3, pos := "ref.go:37", after := #[{ on := 1, ground := Ground.data }, { on := 2, ground := Ground.data }], guard := Option.none }) (v := ?_) (by rfl) ?_ (fun wS hSw => ?_) ?_
                rotate_left
                · kernel_rfl
                · (try dsimp only at hSw); go_simp; (try with_reducible rfl)
                try simp only [Act.put, List.setIfInBounds_toArray, List.set_cons_zero, List.set_cons_succ]
                refine Reg.G_on (o := { dst := some 45, op := Op.move (Operand.tmp 3), type := 137, pos := "ref.go:37", after := #[], guard := Option.none }) (v := ?_) (by rfl) ?_ (fun wS hSw => ?_) ?_
                rotate_left
                · kernel_rfl
                · (try dsimp only at hSw); go_simp; (try with_reducible rfl)
                try simp only [Act.put, List.setIfInBounds_toArray, List.set_cons_zero, List.set_cons_succ]
                refine Reg.G_on (o := { dst := some 46, op := Op.move (Operand.tmp 6), type := 3, pos := "ref.go:37", after := #[], guard := Option.none }) (v := ?_) (by rfl) ?_ (fun wS hSw => ?_) ?_
                rotate_left
                · kernel_rfl
                · (try dsimp only at hSw); go_simp; (try with_reducible rfl)
                try simp only [Act.put, List.setIfInBounds_toArray, List.set_cons_zero, List.set_cons_succ]
                refine Reg.G_on (o := { dst := some 47, op := Op.move (Operand.tmp 7), type := 3, pos := "ref.go:37", after := #[], guard := Option.none }) (v := ?_) (by rfl) ?_ (fun wS hSw => ?_) ?_
                rotate_left
                · kernel_rfl
                · (try dsimp only at hSw); go_simp; (try with_reducible rfl)
                try simp only [Act.put, List.setIfInBounds_toArray, List.set_cons_zero, List.set_cons_succ]
                refine Reg.G_on (o := { dst := some 48, op := Op.binOp BinOp.add 3 (Operand.tmp 46) (Operand.tmp 47) 3, type := 3, pos := "ref.go:37", after := #[{ on := 5, ground := Ground.data }, { on := 6, ground := Ground.data }], guard := Option.none }) (v := ?_) (by rfl) ?_ (fun wS hSw => ?_) ?_
                rotate_left
                · kernel_rfl
                · (try dsimp only at hSw); go_simp; (try with_reducible rfl)
                try simp only [Act.put, List.setIfInBounds_toArray, List.set_cons_zero, List.set_cons_succ]
                refine Reg.G_on (o := { dst := some 49, op := Op.indexAddr 137 (Operand.tmp 45) (Operand.tmp 48), type := 0, pos := "ref.go:37", after := #[{ on := 4, ground := Ground.data }, { on := 7, ground := Ground.data }], guard := Option.none }) (v := ?_) (by rfl) ?_ (fun wS hSw => ?_) ?_
                rotate_left
                · kernel_rfl
                · (try dsimp only at hSw); go_simp; (try with_reducible rfl)
                try simp only [Act.put, List.setIfInBounds_toArray, List.set_cons_zero, List.set_cons_succ]
                refine Reg.G_on (o := { dst := some 50, op := Op.load 4 (Operand.tmp 49), type := 4, pos := "ref.go:37", after := #[{ on := 8, ground := Ground.data }], guard := Option.none }) (v := ?_) (by rfl) ?_ (fun wS hSw => ?_) ?_
                rotate_left
                · kernel_rfl
                · (try dsimp only at hSw); go_simp; (try with_reducible rfl)
                try simp only [Act.put, List.setIfInBounds_toArray, List.set_cons_zero, List.set_cons_succ]
                refine Reg.G_on (o := { dst := some 51, op := Op.move (Operand.tmp 5), type := 137, pos := "ref.go:37", after := #[], guard := Option.none }) (v := ?_) (by rfl) ?_ (fun wS hSw => ?_) ?_
                rotate_left
                · kernel_rfl
                · (try dsimp only at hSw); go_simp; (try with_reducible rfl)
                try simp only [Act.put, List.setIfInBounds_toArray, List.set_cons_zero, List.set_cons_succ]
                refine Reg.G_on (o := { dst := some 52, op := Op.move (Operand.tmp 7), type := 3, pos := "ref.go:37", after := #[], guard := Option.none }) (v := ?_) (by rfl) ?_ (fun wS hSw => ?_) ?_
                rotate_left
                · kernel_rfl
                · (try dsimp only at hSw); go_simp; (try with_reducible rfl)
                try simp only [Act.put, List.setIfInBounds_toArray, List.set_cons_zero, List.set_cons_succ]
                refine Reg.G_on (o := { dst := some 53, op := Op.indexAddr 137 (Operand.tmp 51) (Operand.tmp 52), type := 0, pos := "ref.go:37", after := #[{ on := 10, ground := Ground.data }, { on := 11, ground := Ground.data }], guard := Option.none }) (v := ?_) (by rfl) ?_ (fun wS hSw => ?_) ?_
                rotate_left
                · kernel_rfl
                · (try dsimp only at hSw); go_simp; (try with_reducible rfl)
                try simp only [Act.put, List.setIfInBounds_toArray, List.set_cons_zero, List.set_cons_succ]
                refine Reg.G_on (o := { dst := some 54, op := Op.load 4 (Operand.tmp 53), type := 4, pos := "ref.go:37", after := #[{ on := 12, ground := Ground.data }], guard := Option.none }) (v := ?_) (by rfl) ?_ (fun wS hSw => ?_) ?_
                rotate_left
                · kernel_rfl
                · (try dsimp only at hSw); go_simp; (try with_reducible rfl)
                try simp only [Act.put, List.setIfInBounds_toArray, List.set_cons_zero, List.set_cons_succ]
                refine Reg.G_on (o := { dst := some 55, op := Op.binOp BinOp.neq 4 (Operand.tmp 50) (Operand.tmp 54) 4, type := 4, pos := "ref.go:37", after := #[{ on := 9, ground := Ground.data }, { on := 13, ground := Ground.data }], guard := Option.none }) (v := ?_) (by rfl) ?_ (fun wS hSw => ?_) ?_
                rotate_left
                · kernel_rfl
                · (try dsimp only at hSw); go_simp; (try with_reducible rfl)
                try simp only [Act.put, List.setIfInBounds_toArray, List.set_cons_zero, List.set_cons_succ]
                refine Reg.G_on (o := { dst := some 56, op := Op.indexAddr 137 (Operand.tmp 41) (Operand.tmp 44), type := 0, pos := "ref.go:37", after := #[{ on := 0, ground := Ground.data }, { on := 3, ground := Ground.data }, { on := 0, ground := Ground.phase }, { on := 1, ground := Ground.phase }, { on := 2, ground := Ground.phase }, { on := 3, ground := Ground.phase }, { on := 4, ground := Ground.phase }, { on := 5, ground := Ground.phase }, { on := 6, ground := Ground.phase }, { on := 7, ground := Ground.phase }, { on := 8, ground := Ground.phase }, { on := 9, ground := Ground.phase }, { on := 10, ground := Ground.phase }, { on := 11, ground := Ground.phase }, { on := 12, ground := Ground.phase }, { on := 13, ground := Ground.phase }, { on := 14, ground := Ground.phase }], guard := Option.none }) (v := ?_) (by rfl) ?_ (fun wS hSw => ?_) ?_
                rotate_left
                · kernel_rfl
                · (try dsimp only at hSw); go_simp; (try with_reducible rfl)
                try simp only [Act.put, List.setIfInBounds_toArray, List.set_cons_zero, List.set_cons_succ]
                refine Reg.G_last (o := { dst := Option.none, op := Op.store 4 (Operand.tmp 56) (Operand.tmp 55), type := 0, pos := "ref.go:37", after := #[{ on := 15, ground := Ground.data }, { on := 14, ground := Ground.data }, { on := 0, ground := Ground.phase }, { on := 1, ground := Ground.phase }, { on := 2, ground := Ground.phase }, { on := 3, ground := Ground.phase }, { on := 4, ground := Ground.phase }, { on := 5, ground := Ground.phase }, { on := 6, ground := Ground.phase }, { on := 7, ground := Ground.phase }, { on := 8, ground := Ground.phase }, { on := 9, ground := Ground.phase }, { on := 10, ground := Ground.phase }, { on := 11, ground := Ground.phase }, { on := 12, ground := Ground.phase }, { on := 13, ground := Ground.phase }, { on := 14, ground := Ground.phase }], guard := Option.none }) (by rfl) (by rfl) ?_ (fun K hK => ?_)
                · kernel_rfl
                go_simp
                refine hK.out _ _ ?_
                clear hK K
                try simp only [Act.put, List.setIfInBounds_toArray, List.set_cons_zero, List.set_cons_succ]
                go_wp2
                go_roundw
                case rel => exact ⟨k + 1, by omega, by go_num, Kd.R_drew HP.out, Kd.R_drew (Kd.R_far hP (fun q hq e => hq.2 (by rw [e]; rfl)) _), (hB.setCell hgb _).drew, by simpa [World.setCell, World.drew] using hgs⟩
                case measure => simp [intOf]; omega
              · obtain rfl : k = 33 := by omega
                have HW2 : Hid (Win d (xorN x pl m 33) (m + 1) (reg (Crc.bytes s) (m + 1))) := by
                  have h1 := win_step HW1.out (by omega)
                  rw [if_pos hg, HPQ.out, ← hdd, ← reg_succ _ _ (by rw [hbl, hsl]; omega), hdd] at h1
                  exact h1
                have hxl2 : (xorN x pl m 33).length = n := by rw [xorN_len, hxl]
                generalize xorN x pl m 33 = x2 at *
                go_wp2
                go_roundw
                case rel => exact ⟨m + 1, x2, by omega, by go_num, ⟨HW2.out⟩, hxl2, hR, hP, hB, hgs⟩
                case measure => simp [intOf]; omega
          · have hg' : G x m = false := by simpa using hg
            rw [hg'] at hcell
            have HW2 : Hid (Win d x (m + 1) (reg (Crc.bytes s) (m + 1))) := by
              have h1 := win_step HW1.out (by omega)
              rw [if_neg hg, ← hdd, ← reg_succ _ _ (by rw [hbl, hsl]; omega), hdd] at h1
              exact h1
            clear hg hg'
            go_wp2
            go_roundw
            case rel => exact ⟨m + 1, x, by omega, by go_num, ⟨HW2.out⟩, hxl, hR, hP, hB, hgs⟩
            case measure => simp [intOf]; omega
        · obtain rfl : m = 8 * s.size := by omega
          have n9 : ((8 * s.size : Nat) : Int) + 32 = (n : Int) := by have := HN.out; omega
          have HW3 : Hid (∀ j, j < 32 → G x (8 * s.size + j) = (stepL (BitVec.allOnes 32) (Crc.bytes s)).getLsbD j) := by
            have h1 := HW1.out
            rw [← hdd, reg_end _ _ (by rw [hbl, hsl]; exact Nat.le_refl _), ← hsl] at h1
            have h2 := fun j hj => win_end h1 j hj
            rw [hsl] at h2
            exact h2
          have HY : Hid (CrcP.sum (Crc.bytes s) = ~~~ (stepL (BitVec.allOnes 32) (Crc.bytes s))) := by
            show CrcP.sum (Crc.bytes s) = _
            unfold CrcP.sum CrcP.more
            rw [BitVec.not_zero]
          generalize stepL (BitVec.allOnes 32) (Crc.bytes s) = y at *
          clear HW1
          have HB : Hid (∀ t, t < 32 → G x (n - 1 - t) = y.getLsbD (31 - t)) := by
            intro t ht
            have h1 := HW3.out (31 - t) (by omega)
            rw [← h1]
            congr 1
            omega
          have n8 : (32 : Int) ≤ (n : Int) := by omega
          have n7 : (n : Int) ≤ 8796093022240 := by omega
          go_wp2
          go_loopw [8, 9] (fun a i w' => ∃ t : Nat, t ≤ 32 ∧ a = .int .u32 (read (~~~ y) t) ∧ i = .int .i64 ((n : Int) - 1 - (t : Int)) ∧
            Kd.R Kd.bool 4 w' w.heap.size (fun k => True ∧ some k ≠ (Value.slice (some ⟨gp, 0, Option.none⟩) 33 cp).ownBlock) (.slice (some ⟨g, 0, Option.none⟩) n cap) x ∧ Below w.heap.size w w') (fun _ i _ => (intOf i + 33 - n).toNat)
          case atStart => exact ⟨0, by omega, by rw [read_0], by simp, hR, hB⟩
          case round =>
            obtain ⟨t, t1, rfl, rfl, hR, hB⟩ := hrel
            have rb := read_hi (~~~ y) t
            by_cases ht : t < 32
            · have j0 : (0 : Int) ≤ (n : Int) - 1 - (t : Int) := by omega
              have j1 : (n : Int) - 1 - (t : Int) < (n : Int) := by omega
              have j2 : (n : Int) - 32 ≤ (n : Int) - 1 - (t : Int) := by omega
              have j3 : IntKind.i64.wrap ((n : Int) - 1 - (t : Int) - 1) = (n : Int) - 1 - ((t + 1 : Nat) : Int) := by rw [wrapi64 (by omega) (by omega)]; omega
              obtain ⟨hc, _⟩ := Kd.R_celln false hR ((n : Int) - 1 - (t : Int)) (by omega) (by omega)
              have e1 : ((n : Int) - 1 - (t : Int)).toNat = n - 1 - t := by omega
              have e2 : rdOf false x ((n : Int) - 1 - (t : Int)) = y.getLsbD (31 - t) := by
                rw [← HB.out t ht]
                unfold rdOf G
                rw [e1]
              rw [e2, e1] at hc
              obtain ⟨rs, rl⟩ := read_succ (~~~ y) t ht
              have hnb : (~~~ y).getLsbD (31 - t) = !(y.getLsbD (31 - t)) := by
                rw [BitVec.getLsbD_not]
                have : 31 - t < 32 := by omega
                simp [this]
              rw [hnb] at rs
              have RS := Lib.hid rs
              clear rs hnb e2
              generalize y.getLsbD (31 - t) = bb at *
              cases bb
              · have RS2 : Hid (read (~~~ y) t * 2 + 1 = read (~~~ y) (t + 1)) := RS.out.symm
                clear RS
                go_wp2
                go_roundw
                case rel => exact ⟨t + 1, by omega, by rw [RS2.out], by simp, hR, hB⟩
                case measure => simp [intOf]; omega
              · have RS2 : Hid (read (~~~ y) t * 2 = read (~~~ y) (t + 1)) := by
                  have := RS.out
                  simp at this
                  exact this.symm
                clear RS
                go_wp2
                go_roundw
                case rel => exact ⟨t + 1, by omega, by rw [RS2.out], by simp, hR, hB⟩
                case measure => simp [intOf]; omega
            · obtain rfl : t = 32 := by omega
              have j2 : ((n : Int) - 1 - ((32 : Nat) : Int)) < (n : Int) - 32 := by omega
              go_wp2
              go_ret
              exact ⟨bx (by rw [read_32, HY.out]), hB⟩
end Go.Proofs.Ytehojcocnndniaa.CrcR
namespace Go.Proofs.Ytehojcocnndniaa.PImagePuts
open Go.RowKit Go.Proofs.YtehojcocnndniaaW.PrintWords Go.Proofs.YtehojcocnndniaaW.PrintLast Go.Proofs.YtehojcocnndniaaW.PrintMore
attribute [local go_sem] max2_int min2_int max_two min_two max_three min_three max_four min_four   -- for this text's walks alone

/-! ### broadsheetref03_Sum: function 60, by a contract of its own -/
def broadsheetref03_Sum.f (k : Nat) (a0 : ByteArray) : Option Int := if a0.size ≤ 1099511627776 then some (CrcP.num (CrcP.sum (Crc.bytes a0))) else none
theorem broadsheetref03_Sum.mono : ∀ a0 k, LeO (broadsheetref03_Sum.f k a0) (broadsheetref03_Sum.f (k + 1) a0) := fun a0 k => LeO.refl _
theorem broadsheetref03_Sum.calls (k : Nat) (a0 : ByteArray) (r : Int) (w : World) (h : broadsheetref03_Sum.f k a0 = some r) :
    Calls Try.prog 60 #[.string a0] w fun e w' => e = .returned (.int .u32 r) ∧ Below w.heap.size w w' := by
  unfold broadsheetref03_Sum.f at h
  by_cases hs : a0.size ≤ 1099511627776
  · rw [if_pos hs] at h
    obtain rfl := Option.some.inj h
    exact CrcR.refsum a0 w hs
  · rw [if_neg hs] at h
    cases h

end Go.Proofs.Ytehojcocnndniaa.PImagePuts
namespace Go.Proofs.Ytehojcocnndniaa.PImagePuts
open Go.RowKit Go.Proofs.YtehojcocnndniaaW.PrintWords Go.Proofs.YtehojcocnndniaaW.PrintLast Go.Proofs.YtehojcocnndniaaW.PrintMore
attribute [local go_sem] max2_int min2_int max_two min_two max_three min_three max_four min_four   -- for this text's walks alone

/-! ### broadsheetref25_Put: function 31 -/
mutual
def broadsheetref25_Put.l0 : Nat → List (S98) → Int → Int → Option (ByteArray × Int)
  | 0, _, _, _ => none
  | k + 1, x0, x4, x5 => if x5 < (x0.length : Int) then (if 0 ≤ x5 then (if ((rd_T98 x0 x5).f0) < 1 then (broadsheetref25_Put.j1 k x0 x4 x5 true) else (broadsheetref25_Put.j1 k x0 x4 x5 (decide (((rd_T98 x0 x5).f0) > 255)))) else (none)) else (if x4 > 65536 then (some ((⟨#[]⟩ : ByteArray), 3)) else ((broadsheetref25_body.f k x0 0).bind fun t186 => ((broadsheetref25_put.f k t186 0 4).bind fun t187 => (if (t187.size : Int) > 65536 then (some ((⟨#[]⟩ : ByteArray), 3)) else ((broadsheetref25_body.f k x0 (t187.size : Int)).bind fun t188 => ((broadsheetref02_Zeros.f (wrap64 ((wrap64 ((t187.size : Int) - 4)) - (t188.size : Int)))).bind fun t189 => (if t188.size + t189.size ≤ 9223372036854775807 then ((broadsheetref03_Sum.f k (t188 ++ t189)).bind fun t190 => ((broadsheetref25_put4.f k (t188 ++ t189) t190).bind fun t191 => (some (t191, 0)))) else (none))))))))
def broadsheetref25_Put.j1 : Nat → List (S98) → Int → Int → Bool → Option (ByteArray × Int)
  | 0, _, _, _, _ => none
  | k + 1, x0, x4, x5, x26 => if x26 = true then (some ((⟨#[]⟩ : ByteArray), 4)) else (if x5 > 0 then (if 0 ≤ x5 then (if x5 < (x0.length : Int) then (if 0 ≤ (wrap64 (x5 - 1)) then (if (wrap64 (x5 - 1)) < (x0.length : Int) then (if ((rd_T98 x0 x5).f0) ≤ ((rd_T98 x0 (wrap64 (x5 - 1))).f0) then (some ((⟨#[]⟩ : ByteArray), 14)) else (broadsheetref25_Put.l0 k x0 (mn (wrap64 (x4 + (((rd_T98 x0 x5).f1).size : Int))) 1048576) (wrap64 (x5 + 1)))) else (none)) else (none)) else (none)) else (none)) else (if 0 ≤ x5 then (if x5 < (x0.length : Int) then (broadsheetref25_Put.l0 k x0 (mn (wrap64 (x4 + (((rd_T98 x0 x5).f1).size : Int))) 1048576) (wrap64 (x5 + 1))) else (none)) else (none)))
end
def broadsheetref25_Put.f (k : Nat) (l0 : List (S98)) : Option (ByteArray × Int) := broadsheetref25_Put.l0 k l0 0 0
theorem broadsheetref25_Put.mono_l : ∀ k, (∀ y0 y1 y2, LeO (broadsheetref25_Put.l0 k y0 y1 y2) (broadsheetref25_Put.l0 (k + 1) y0 y1 y2)) ∧ (∀ y0 y1 y2 y3, LeO (broadsheetref25_Put.j1 k y0 y1 y2 y3) (broadsheetref25_Put.j1 (k + 1) y0 y1 y2 y3))
  | 0 => ⟨fun _ _ _ r h => by simp [broadsheetref25_Put.l0] at h, fun _ _ _ _ r h => by simp [broadsheetref25_Put.j1] at h⟩
  | k + 1 => by
    obtain ⟨ih0, ih1⟩ := broadsheetref25_Put.mono_l k
    refine ⟨?_, ?_⟩
    · intro y0 y1 y2
      unfold broadsheetref25_Put.l0
      repeat' first
      | (with_reducible exact ih0 _ _ _)
      | (with_reducible exact ih1 _ _ _ _)
      | (with_reducible exact broadsheetref03_Sum.mono _ _)
      | (with_reducible exact broadsheetref25_body.mono _ _ _)
      | (with_reducible exact broadsheetref25_put.mono _ _ _ _)
      | (with_reducible exact broadsheetref25_put4.mono _ _ _)
      | (with_reducible exact LeO.refl _)
      | (with_reducible exact LeO.none _)
      | (with_reducible refine LeO.ite ?_ ?_)
      | (with_reducible refine LeO.bind ?_ (fun _ => ?_))
      | exact ih0 _ _ _
      | exact ih1 _ _ _ _
      | exact broadsheetref03_Sum.mono _ _
      | exact broadsheetref25_body.mono _ _ _
      | exact broadsheetref25_put.mono _ _ _ _
      | exact broadsheetref25_put4.mono _ _ _
      | exact LeO.none _
      | refine LeO.ite ?_ ?_
      | refine LeO.bind ?_ (fun _ => ?_)
    · intro y0 y1 y2 y3
      unfold broadsheetref25_Put.j1
      repeat' first
      | (with_reducible exact ih0 _ _ _)
      | (with_reducible exact ih1 _ _ _ _)
      | (with_reducible exact broadsheetref03_Sum.mono _ _)
      | (with_reducible exact broadsheetref25_body.mono _ _ _)
      | (with_reducible exact broadsheetref25_put.mono _ _ _ _)
      | (with_reducible exact broadsheetref25_put4.mono _ _ _)
      | (with_reducible exact LeO.refl _)
      | (with_reducible exact LeO.none _)
      | (with_reducible refine LeO.ite ?_ ?_)
      | (with_reducible refine LeO.bind ?_ (fun _ => ?_))
      | exact ih0 _ _ _
      | exact ih1 _ _ _ _
      | exact broadsheetref03_Sum.mono _ _
      | exact broadsheetref25_body.mono _ _ _
      | exact broadsheetref25_put.mono _ _ _ _
      | exact broadsheetref25_put4.mono _ _ _
      | exact LeO.none _
      | refine LeO.ite ?_ ?_
      | refine LeO.bind ?_ (fun _ => ?_)
theorem broadsheetref25_Put.mono : ∀ a0 k, LeO (broadsheetref25_Put.f k a0) (broadsheetref25_Put.f (k + 1) a0) := by
  intro a0 k
  obtain ⟨ih0, ih1⟩ := broadsheetref25_Put.mono_l k
  unfold broadsheetref25_Put.f
  repeat' first
      | (with_reducible exact ih0 _ _ _)
      | (with_reducible exact ih1 _ _ _ _)
      | (with_reducible exact broadsheetref03_Sum.mono _ _)
      | (with_reducible exact broadsheetref25_body.mono _ _ _)
      | (with_reducible exact broadsheetref25_put.mono _ _ _ _)
      | (with_reducible exact broadsheetref25_put4.mono _ _ _)
      | (with_reducible exact LeO.refl _)
      | (with_reducible exact LeO.none _)
      | (with_reducible refine LeO.ite ?_ ?_)
      | (with_reducible refine LeO.bind ?_ (fun _ => ?_))
      | exact ih0 _ _ _
      | exact ih1 _ _ _ _
      | exact broadsheetref03_Sum.mono _ _
      | exact broadsheetref25_body.mono _ _ _
      | exact broadsheetref25_put.mono _ _ _ _
      | exact broadsheetref25_put4.mono _ _ _
      | exact LeO.none _
      | refine LeO.ite ?_ ?_
      | refine LeO.bind ?_ (fun _ => ?_)
set_option maxHeartbeats 8000000 in
set_option maxRecDepth 100000 in
theorem broadsheetref25_Put.calls (k : Nat) (A0 : Option Addr) (c0 : Nat) (l0 : List (S98)) (r1 : ByteArray) (r2 : Int) (w : World) (hr0 : Kd.C k98 w A0 l0.length l0) (hc0 : l0.length ≤ c0) (h : broadsheetref25_Put.f k l0 = some (r1, r2)) :
    Calls Try.prog 31 #[.slice A0 l0.length c0] w fun e w' => e = .returned (.tuple #[.string r1, .int .i64 r2]) ∧ Below w.heap.size w w' := by
  have HR0 := Aside0.mk hr0
  have HC0 := Aside0.mk hc0
  clear hr0 hc0
  have HB := Aside0.mk (Below.refl w.heap.size w)
  have H : (broadsheetref25_Put.l0 k l0 0 0) = some (r1, r2) := h
  clear h
  have H' := Aside0.mk H
  clear H
  go_enter Try.func31, Try.ntmps31
  go_wp2
  repeat (go_quiet (fail); try go_wp2)
  go_loopg [4, 5] k (fun kq v4 v5 w' => ∃ (x4_1 : Int) (x5_1 : Int), v4 = .int .i64 x4_1 ∧ v5 = .int .i64 x5_1 ∧ Aside0 (broadsheetref25_Put.l0 kq l0 x4_1 x5_1 = some (r1, r2)) ∧ Aside0 (kq ≤ k) ∧ Aside0 (Below w.heap.size w w'))
  case atStart => exact ⟨(0), (0), (by first | rfl | (simp; done) | (simp [*]; done)), (by first | rfl | (simp; done) | (simp [*]; done)), H', ⟨Nat.le_refl _⟩, ⟨by repeat (first | (with_reducible first | exact HB.out | apply below_alloc | apply pw_below_drewN | apply below_drew1) | exact HB.out)⟩⟩
  case round =>
    clear H'
    obtain ⟨x4_1, x5_1, rfl, rfl, HA, HK1, HB⟩ := hrel
    cases gk with
    | zero => exact absurd HA.out (by simp [broadsheetref25_Put.l0])
    | succ k1 =>
      have H := HA.out
      clear HA
      simp only [broadsheetref25_Put.l0] at H
      by_cases c2 : x5_1 < (l0.length : Int)
      · rw [if_pos c2] at H
        have c2b0 : decide (x5_1 < (l0.length : Int)) = true := decide_eq_true c2
        clear c2
        have HC3 := Aside0.mk H
        clear H
        go_upto_region 5 with (fail)
        repeat (go_quiet (fail); go_upto_region 5 with (fail))
        go_cut [26] (fun v26 wc => ∃ (kq : Nat) (x26_2 : Bool), v26 = .bool x26_2 ∧ Aside0 (broadsheetref25_Put.j1 kq l0 x4_1 x5_1 x26_2 = some (r1, r2)) ∧ Aside0 (kq ≤ k1) ∧ Aside0 (Below w.heap.size w wc))
        case first =>
          have H := HC3.out
          clear HC3
          by_cases c4 : 0 ≤ x5_1
          · rw [if_pos c4] at H
            have c4b0 : decide (0 ≤ x5_1) = true := decide_eq_true c4
            clear c4
            (first | rw [c4b0] | (simp only [i64_w, i32_w]; rw [c4b0]) | skip)
            by_cases c5 : ((rd_T98 l0 x5_1).f0) < 1
            · rw [if_pos c5] at H
              have c5b0 : decide (((rd_T98 l0 x5_1).f0) < 1) = true := decide_eq_true c5
              clear c5
              have H' := Aside0.mk H
              clear H
              have p180 : 0 ≤ (x5_1 : Int) := of_decide_eq_true (by first | (with_reducible assumption) | assumption)
              have q180 : x5_1 < (l0.length : Int) := of_decide_eq_true (by first | (with_reducible assumption) | assumption)
              obtain ⟨ad180, e180, hx180_0, hx180_1⟩ := at_T98 HR0.out x5_1 p180 q180
              cases e180
              replace hx180_0 := (HB.out.cell (World.block_lt_of_cell? w _ hx180_0)).trans hx180_0
              replace hx180_1 := (HB.out.cell (World.block_lt_of_cell? w _ hx180_1)).trans hx180_1
              replace p180 := eq_true p180
              replace q180 := eq_true q180
              go_wp2
              repeat (go_quiet (fail); try go_wp2)
              go_meet
              case rel => exact ⟨_, (true), (by first | rfl | (simp; done) | (simp [*]; done)), H', ⟨by have := HK1.out; first | omega | exact Nat.le_refl _⟩, ⟨by repeat (first | (with_reducible first | exact HB.out | apply below_alloc | apply pw_below_drewN | apply below_drew1) | exact HB.out)⟩⟩
            · rw [if_neg c5] at H
              have c5b0 : decide (((rd_T98 l0 x5_1).f0) < 1) = false := decide_eq_false c5
              clear c5
              have H' := Aside0.mk H
              clear H
              have p180 : 0 ≤ (x5_1 : Int) := of_decide_eq_true (by first | (with_reducible assumption) | assumption)
              have q180 : x5_1 < (l0.length : Int) := of_decide_eq_true (by first | (with_reducible assumption) | assumption)
              obtain ⟨ad180, e180, hx180_0, hx180_1⟩ := at_T98 HR0.out x5_1 p180 q180
              cases e180
              replace hx180_0 := (HB.out.cell (World.block_lt_of_cell? w _ hx180_0)).trans hx180_0
              replace hx180_1 := (HB.out.cell (World.block_lt_of_cell? w _ hx180_1)).trans hx180_1
              replace p180 := eq_true p180
              replace q180 := eq_true q180
              have p181 : 0 ≤ (x5_1 : Int) := of_decide_eq_true (by first | (with_reducible assumption) | assumption)
              have q181 : x5_1 < (l0.length : Int) := of_decide_eq_true (by first | (with_reducible assumption) | assumption)
              obtain ⟨ad181, e181, hx181_0, hx181_1⟩ := at_T98 HR0.out x5_1 p181 q181
              obtain rfl : ad180 = ad181 := (by injection e181)
              replace hx181_0 := (HB.out.cell (World.block_lt_of_cell? w _ hx181_0)).trans hx181_0
              replace hx181_1 := (HB.out.cell (World.block_lt_of_cell? w _ hx181_1)).trans hx181_1
              replace p181 := eq_true p181
              replace q181 := eq_true q181
              go_wp2
              repeat (go_quiet (fail); try go_wp2)
              go_meet
              case rel => exact ⟨_, (decide (((rd_T98 l0 x5_1).f0) > 255)), (by first | rfl | (simp; done) | (simp [*]; done)), H', ⟨by have := HK1.out; first | omega | exact Nat.le_refl _⟩, ⟨by repeat (first | (with_reducible first | exact HB.out | apply below_alloc | apply pw_below_drewN | apply below_drew1) | exact HB.out)⟩⟩
          · rw [if_neg c4] at H
            exact absurd H (by simp)
        case rest =>
          clear HC3
          try clear p1
          try clear q1
          try clear hx1
          try clear c2
          try clear c2b0
          try clear p2
          try clear c3
          try clear c4
          try clear c4b0
          try clear c5
          try clear c5b0
          try clear hx180_0
          try clear hx180_1
          try clear hx181_0
          try clear hx181_1
          try clear p180
          try clear p181
          try clear q180
          try clear q181
          obtain ⟨kq, x26_2, rfl, HA, HJ2, HB⟩ := hcut
          cases kq with
          | zero => exact absurd HA.out (by simp [broadsheetref25_Put.j1])
          | succ kj2 =>
            have H := HA.out
            clear HA
            simp only [broadsheetref25_Put.j1] at H
            by_cases c6 : x26_2 = true
            · subst c6
              have H1 : (some ((⟨#[]⟩ : ByteArray), 4)) = some (r1, r2) := by rw [if_pos rfl] at H; exact H
              clear H
              have H := H1
              clear H1
              simp only [Option.some.injEq, Prod.mk.injEq] at H
              obtain ⟨rfl, rfl⟩ := H
              go_wp2
              repeat (go_quiet (fail); try go_wp2)
              go_ret2
              exact ⟨by first | rfl | (simp [errW_none, errW_some] <;> rfl) | (simp [*, errW_none, errW_some] <;> rfl), by repeat (first | (with_reducible first | exact HB.out | apply below_alloc | apply pw_below_drewN | apply below_drew1) | exact HB.out)⟩
            · replace c6 := Bool.eq_false_iff.mpr c6
              subst c6
              have H1 : (if x5_1 > 0 then (if 0 ≤ x5_1 then (if x5_1 < (l0.length : Int) then (if 0 ≤ (wrap64 (x5_1 - 1)) then (if (wrap64 (x5_1 - 1)) < (l0.length : Int) then (if ((rd_T98 l0 x5_1).f0) ≤ ((rd_T98 l0 (wrap64 (x5_1 - 1))).f0) then (some ((⟨#[]⟩ : ByteArray), 14)) else (broadsheetref25_Put.l0 kj2 l0 (mn (wrap64 (x4_1 + (((rd_T98 l0 x5_1).f1).size : Int))) 1048576) (wrap64 (x5_1 + 1)))) else (none)) else (none)) else (none)) else (none)) else (if 0 ≤ x5_1 then (if x5_1 < (l0.length : Int) then (broadsheetref25_Put.l0 kj2 l0 (mn (wrap64 (x4_1 + (((rd_T98 l0 x5_1).f1).size : Int))) 1048576) (wrap64 (x5_1 + 1))) else (none)) else (none))) = some (r1, r2) := by rw [if_neg (show ¬ (false = true) by decide)] at H; exact H
              clear H
              have H := H1
              clear H1
              by_cases c7 : x5_1 > 0
              · rw [if_pos c7] at H
                have c7b0 : decide (0 < x5_1) = true := decide_eq_true c7
                clear c7
                by_cases c8 : 0 ≤ x5_1
                · rw [if_pos c8] at H
                  have c8b0 : decide (0 ≤ x5_1) = true := decide_eq_true c8
                  clear c8
                  by_cases c9 : x5_1 < (l0.length : Int)
                  · rw [if_pos c9] at H
                    have c9b0 : decide (x5_1 < (l0.length : Int)) = true := decide_eq_true c9
                    clear c9
                    obtain ⟨ji10, hji10⟩ : ∃ j_ : Int, (wrap64 (x5_1 - 1)) = j_ := ⟨_, rfl⟩
                    replace H : (if 0 ≤ (ji10) then (if (ji10) < (l0.length : Int) then (if ((rd_T98 l0 x5_1).f0) ≤ ((rd_T98 l0 (ji10)).f0) then (some ((⟨#[]⟩ : ByteArray), 14)) else (broadsheetref25_Put.l0 kj2 l0 (mn (wrap64 (x4_1 + (((rd_T98 l0 x5_1).f1).size : Int))) 1048576) (wrap64 (x5_1 + 1)))) else (none)) else (none)) = some (r1, r2) := by first | (rw [hji10] at H; exact H) | (simp only [hji10] at H ⊢; exact H)
                    have hji10w : (IntKind.i64.wrap (x5_1 - 1)) = ji10 := (i64_w _).trans hji10
                    by_cases c11 : 0 ≤ (ji10)
                    · rw [if_pos c11] at H
                      have c11b0 : decide (0 ≤ (ji10)) = true := decide_eq_true c11
                      clear c11
                      by_cases c12 : (ji10) < (l0.length : Int)
                      · rw [if_pos c12] at H
                        have c12b0 : decide ((ji10) < (l0.length : Int)) = true := decide_eq_true c12
                        clear c12
                        by_cases c13 : ((rd_T98 l0 x5_1).f0) ≤ ((rd_T98 l0 (ji10)).f0)
                        · rw [if_pos c13] at H
                          have c13b0 : decide (((rd_T98 l0 x5_1).f0) ≤ ((rd_T98 l0 (ji10)).f0)) = true := decide_eq_true c13
                          clear c13
                          simp only [Option.some.injEq, Prod.mk.injEq] at H
                          obtain ⟨rfl, rfl⟩ := H
                          have p182 : 0 ≤ (x5_1 : Int) := of_decide_eq_true (by first | (with_reducible assumption) | assumption)
                          have q182 : x5_1 < (l0.length : Int) := of_decide_eq_true (by first | (with_reducible assumption) | assumption)
                          obtain ⟨ad182, e182, hx182_0, hx182_1⟩ := at_T98 HR0.out x5_1 p182 q182
                          cases e182
                          replace hx182_0 := (HB.out.cell (World.block_lt_of_cell? w _ hx182_0)).trans hx182_0
                          replace hx182_1 := (HB.out.cell (World.block_lt_of_cell? w _ hx182_1)).trans hx182_1
                          replace p182 := eq_true p182
                          replace q182 := eq_true q182
                          have p183 : 0 ≤ ((ji10) : Int) := of_decide_eq_true (by first | (with_reducible assumption) | assumption)
                          have q183 : (ji10) < (l0.length : Int) := of_decide_eq_true (by first | (with_reducible assumption) | assumption)
                          obtain ⟨ad183, e183, hx183_0, hx183_1⟩ := at_T98 HR0.out (ji10) p183 q183
                          obtain rfl : ad182 = ad183 := (by injection e183)
                          replace hx183_0 := (HB.out.cell (World.block_lt_of_cell? w _ hx183_0)).trans hx183_0
                          replace hx183_1 := (HB.out.cell (World.block_lt_of_cell? w _ hx183_1)).trans hx183_1
                          replace p183 := eq_true p183
                          replace q183 := eq_true q183
                          go_wp2
                          repeat (go_quiet (fail); try go_wp2)
                          go_ret2
                          exact ⟨by first | rfl | (simp [errW_none, errW_some] <;> rfl) | (simp only [← hji10]; first | rfl | (simp [errW_none, errW_some] <;> rfl)) | (simp [*, errW_none, errW_some] <;> rfl), by repeat (first | (with_reducible first | exact HB.out | apply below_alloc | apply pw_below_drewN | apply below_drew1) | exact HB.out)⟩
                        · rw [if_neg c13] at H
                          have c13b0 : decide (((rd_T98 l0 x5_1).f0) ≤ ((rd_T98 l0 (ji10)).f0)) = false := decide_eq_false c13
                          clear c13
                          obtain ⟨ji14, hji14⟩ : ∃ j_ : Int, (mn (wrap64 (x4_1 + (((rd_T98 l0 x5_1).f1).size : Int))) 1048576) = j_ := ⟨_, rfl⟩
                          replace H : (broadsheetref25_Put.l0 kj2 l0 ji14 (wrap64 (x5_1 + 1))) = some (r1, r2) := by first | (rw [hji14] at H; exact H) | (simp only [hji14] at H ⊢; exact H)
                          have hji14_ : (if 1048576 < (wrap64 (x4_1 + (((rd_T98 l0 x5_1).f1).size : Int))) then 1048576 else (wrap64 (x4_1 + (((rd_T98 l0 x5_1).f1).size : Int)))) = ji14 := hji14
                          have H' := Aside0.mk H
                          clear H
                          have p182 : 0 ≤ (x5_1 : Int) := of_decide_eq_true (by first | (with_reducible assumption) | assumption)
                          have q182 : x5_1 < (l0.length : Int) := of_decide_eq_true (by first | (with_reducible assumption) | assumption)
                          obtain ⟨ad182, e182, hx182_0, hx182_1⟩ := at_T98 HR0.out x5_1 p182 q182
                          cases e182
                          replace hx182_0 := (HB.out.cell (World.block_lt_of_cell? w _ hx182_0)).trans hx182_0
                          replace hx182_1 := (HB.out.cell (World.block_lt_of_cell? w _ hx182_1)).trans hx182_1
                          replace p182 := eq_true p182
                          replace q182 := eq_true q182
                          have p183 : 0 ≤ ((ji10) : Int) := of_decide_eq_true (by first | (with_reducible assumption) | assumption)
                          have q183 : (ji10) < (l0.length : Int) := of_decide_eq_true (by first | (with_reducible assumption) | assumption)
                          obtain ⟨ad183, e183, hx183_0, hx183_1⟩ := at_T98 HR0.out (ji10) p183 q183
                          obtain rfl : ad182 = ad183 := (by injection e183)
                          replace hx183_0 := (HB.out.cell (World.block_lt_of_cell? w _ hx183_0)).trans hx183_0
                          replace hx183_1 := (HB.out.cell (World.block_lt_of_cell? w _ hx183_1)).trans hx183_1
                          replace p183 := eq_true p183
                          replace q183 := eq_true q183
                          have p184 : 0 ≤ (x5_1 : Int) := of_decide_eq_true (by first | (with_reducible assumption) | assumption)
                          have q184 : x5_1 < (l0.length : Int) := of_decide_eq_true (by first | (with_reducible assumption) | assumption)
                          obtain ⟨ad184, e184, hx184_0, hx184_1⟩ := at_T98 HR0.out x5_1 p184 q184
                          obtain rfl : ad182 = ad184 := (by injection e184)
                          replace hx184_0 := (HB.out.cell (World.block_lt_of_cell? w _ hx184_0)).trans hx184_0
                          replace hx184_1 := (HB.out.cell (World.block_lt_of_cell? w _ hx184_1)).trans hx184_1
                          replace p184 := eq_true p184
                          replace q184 := eq_true q184
                          go_wp2
                          repeat (go_quiet (fail); try go_wp2)
                          go_roundg kj2
                          case measure => have := HK1.out; have := HJ2.out; omega
                          case rel => exact ⟨(ji14), (wrap64 (x5_1 + 1)), (by first | rfl | (simp; done) | (simp only [← hji14] <;> (first | rfl | simp)) | (simp [*]; done)), (by first | rfl | (simp; done) | (simp [*]; done)), H', ⟨by have := HK1.out; have := HJ2.out; omega⟩, ⟨by repeat (first | (with_reducible first | exact HB.out | apply below_alloc | apply pw_below_drewN | apply below_drew1) | exact HB.out)⟩⟩
                      · rw [if_neg c12] at H
                        exact absurd H (by simp)
                    · rw [if_neg c11] at H
                      exact absurd H (by simp)
                  · rw [if_neg c9] at H
                    exact absurd H (by simp)
                · rw [if_neg c8] at H
                  exact absurd H (by simp)
              · rw [if_neg c7] at H
                have c7b0 : decide (0 < x5_1) = false := decide_eq_false c7
                clear c7
                by_cases c15 : 0 ≤ x5_1
                · rw [if_pos c15] at H
                  have c15b0 : decide (0 ≤ x5_1) = true := decide_eq_true c15
                  clear c15
                  by_cases c16 : x5_1 < (l0.length : Int)
                  · rw [if_pos c16] at H
                    have c16b0 : decide (x5_1 < (l0.length : Int)) = true := decide_eq_true c16
                    clear c16
                    obtain ⟨ji17, hji17⟩ : ∃ j_ : Int, (mn (wrap64 (x4_1 + (((rd_T98 l0 x5_1).f1).size : Int))) 1048576) = j_ := ⟨_, rfl⟩
                    replace H : (broadsheetref25_Put.l0 kj2 l0 ji17 (wrap64 (x5_1 + 1))) = some (r1, r2) := by first | (rw [hji17] at H; exact H) | (simp only [hji17] at H ⊢; exact H)
                    have hji17_ : (if 1048576 < (wrap64 (x4_1 + (((rd_T98 l0 x5_1).f1).size : Int))) then 1048576 else (wrap64 (x4_1 + (((rd_T98 l0 x5_1).f1).size : Int)))) = ji17 := hji17
                    have H' := Aside0.mk H
                    clear H
                    have p185 : 0 ≤ (x5_1 : Int) := of_decide_eq_true (by first | (with_reducible assumption) | assumption)
                    have q185 : x5_1 < (l0.length : Int) := of_decide_eq_true (by first | (with_reducible assumption) | assumption)
                    obtain ⟨ad185, e185, hx185_0, hx185_1⟩ := at_T98 HR0.out x5_1 p185 q185
                    cases e185
                    replace hx185_0 := (HB.out.cell (World.block_lt_of_cell? w _ hx185_0)).trans hx185_0
                    replace hx185_1 := (HB.out.cell (World.block_lt_of_cell? w _ hx185_1)).trans hx185_1
                    replace p185 := eq_true p185
                    replace q185 := eq_true q185
                    go_wp2
                    repeat (go_quiet (fail); try go_wp2)
                    go_roundg kj2
                    case measure => have := HK1.out; have := HJ2.out; omega
                    case rel => exact ⟨(ji17), (wrap64 (x5_1 + 1)), (by first | rfl | (simp; done) | (simp only [← hji17] <;> (first | rfl | simp)) | (simp [*]; done)), (by first | rfl | (simp; done) | (simp [*]; done)), H', ⟨by have := HK1.out; have := HJ2.out; omega⟩, ⟨by repeat (first | (with_reducible first | exact HB.out | apply below_alloc | apply pw_below_drewN | apply below_drew1) | exact HB.out)⟩⟩
                  · rw [if_neg c16] at H
                    exact absurd H (by simp)
                · rw [if_neg c15] at H
                  exact absurd H (by simp)
      · rw [if_neg c2] at H
        have c2b0 : decide (x5_1 < (l0.length : Int)) = false := decide_eq_false c2
        clear c2
        by_cases c18 : x4_1 > 65536
        · rw [if_pos c18] at H
          have c18b0 : decide (65536 < x4_1) = true := decide_eq_true c18
          clear c18
          simp only [Option.some.injEq, Prod.mk.injEq] at H
          obtain ⟨rfl, rfl⟩ := H
          go_wp2
          repeat (go_quiet (fail); try go_wp2)
          go_ret2
          exact ⟨by first | rfl | (simp [errW_none, errW_some] <;> rfl) | (simp [*, errW_none, errW_some] <;> rfl), by repeat (first | (with_reducible first | exact HB.out | apply below_alloc | apply pw_below_drewN | apply below_drew1) | exact HB.out)⟩
        · rw [if_neg c18] at H
          have c18b0 : decide (65536 < x4_1) = false := decide_eq_false c18
          clear c18
          replace H := Option.bind_eq_some_iff.mp H
          obtain ⟨t186, A190, H⟩ := H
          replace H : ((broadsheetref25_put.f k1 t186 0 4).bind fun t187 => (if (t187.size : Int) > 65536 then (some ((⟨#[]⟩ : ByteArray), 3)) else ((broadsheetref25_body.f k1 l0 (t187.size : Int)).bind fun t188 => ((broadsheetref02_Zeros.f (wrap64 ((wrap64 ((t187.size : Int) - 4)) - (t188.size : Int)))).bind fun t189 => (if t188.size + t189.size ≤ 9223372036854775807 then ((broadsheetref03_Sum.f k1 (t188 ++ t189)).bind fun t190 => ((broadsheetref25_put4.f k1 (t188 ++ t189) t190).bind fun t191 => (some (t191, 0)))) else (none)))))) = some (r1, r2) := H
          have A19 := Aside0.mk A190
          clear A190
          replace H := Option.bind_eq_some_iff.mp H
          obtain ⟨t187, A200, H⟩ := H
          replace H : (if (t187.size : Int) > 65536 then (some ((⟨#[]⟩ : ByteArray), 3)) else ((broadsheetref25_body.f k1 l0 (t187.size : Int)).bind fun t188 => ((broadsheetref02_Zeros.f (wrap64 ((wrap64 ((t187.size : Int) - 4)) - (t188.size : Int)))).bind fun t189 => (if t188.size + t189.size ≤ 9223372036854775807 then ((broadsheetref03_Sum.f k1 (t188 ++ t189)).bind fun t190 => ((broadsheetref25_put4.f k1 (t188 ++ t189) t190).bind fun t191 => (some (t191, 0)))) else (none))))) = some (r1, r2) := H
          have A20 := Aside0.mk A200
          clear A200
          by_cases c21 : (t187.size : Int) > 65536
          · rw [if_pos c21] at H
            have c21b0 : decide (65536 < (t187.size : Int)) = true := decide_eq_true c21
            have c21b1 : decide (65536 < t187.size) = true := decide_eq_true (by omega)
            clear c21
            simp only [Option.some.injEq, Prod.mk.injEq] at H
            obtain ⟨rfl, rfl⟩ := H
            go_wp2_with (first | (go_at_call 58; (with_reducible refine (broadsheetref25_body.calls k1 _ _ l0 0 t186 _ ?side1 ?side2 A19.out).mono ?_); (case side1 => repeat (first | exact (Kd.C_below HR0.out HB.out) | (with_reducible refine Kd.C_alloc ?_ _) | (with_reducible refine Kd.C_drewN ?_ _) | (with_reducible refine Kd.C_drew ?_))); (case side2 => exact HC0.out); rintro e w22 ⟨rfl, hb⟩; have n0_ := Aside0.mk (below_step (by repeat (first | (with_reducible first | exact HB.out | apply below_alloc | apply pw_below_drewN | apply below_drew1) | exact HB.out)) hb); clear HB; have HB := n0_; clear n0_; (try clear hb); (try clear hb2); (try clear hk); (try clear hi)) | (go_at_call 57; (with_reducible refine (broadsheetref25_put.calls k1 t186 0 4 t187 _ A20.out).mono ?_); rintro e w23 ⟨rfl, hb⟩; have n0_ := Aside0.mk (below_step (by repeat (first | (with_reducible first | exact HB.out | apply below_alloc | apply pw_below_drewN | apply below_drew1) | exact HB.out)) hb); clear HB; have HB := n0_; clear n0_; (try clear hb); (try clear hb2); (try clear hk); (try clear hi)))
            repeat (go_quiet (first | (go_at_call 58; (with_reducible refine (broadsheetref25_body.calls k1 _ _ l0 0 t186 _ ?side1 ?side2 A19.out).mono ?_); (case side1 => repeat (first | exact (Kd.C_below HR0.out HB.out) | (with_reducible refine Kd.C_alloc ?_ _) | (with_reducible refine Kd.C_drewN ?_ _) | (with_reducible refine Kd.C_drew ?_))); (case side2 => exact HC0.out); rintro e w22 ⟨rfl, hb⟩; have n0_ := Aside0.mk (below_step (by repeat (first | (with_reducible first | exact HB.out | apply below_alloc | apply pw_below_drewN | apply below_drew1) | exact HB.out)) hb); clear HB; have HB := n0_; clear n0_; (try clear hb); (try clear hb2); (try clear hk); (try clear hi)) | (go_at_call 57; (with_reducible refine (broadsheetref25_put.calls k1 t186 0 4 t187 _ A20.out).mono ?_); rintro e w23 ⟨rfl, hb⟩; have n0_ := Aside0.mk (below_step (by repeat (first | (with_reducible first | exact HB.out | apply below_alloc | apply pw_below_drewN | apply below_drew1) | exact HB.out)) hb); clear HB; have HB := n0_; clear n0_; (try clear hb); (try clear hb2); (try clear hk); (try clear hi))); try go_wp2_with (first | (go_at_call 58; (with_reducible refine (broadsheetref25_body.calls k1 _ _ l0 0 t186 _ ?side1 ?side2 A19.out).mono ?_); (case side1 => repeat (first | exact (Kd.C_below HR0.out HB.out) | (with_reducible refine Kd.C_alloc ?_ _) | (with_reducible refine Kd.C_drewN ?_ _) | (with_reducible refine Kd.C_drew ?_))); (case side2 => exact HC0.out); rintro e w22 ⟨rfl, hb⟩; have n0_ := Aside0.mk (below_step (by repeat (first | (with_reducible first | exact HB.out | apply below_alloc | apply pw_below_drewN | apply below_drew1) | exact HB.out)) hb); clear HB; have HB := n0_; clear n0_; (try clear hb); (try clear hb2); (try clear hk); (try clear hi)) | (go_at_call 57; (with_reducible refine (broadsheetref25_put.calls k1 t186 0 4 t187 _ A20.out).mono ?_); rintro e w23 ⟨rfl, hb⟩; have n0_ := Aside0.mk (below_step (by repeat (first | (with_reducible first | exact HB.out | apply below_alloc | apply pw_below_drewN | apply below_drew1) | exact HB.out)) hb); clear HB; have HB := n0_; clear n0_; (try clear hb); (try clear hb2); (try clear hk); (try clear hi))))
            go_ret2
            exact ⟨by first | rfl | (simp [errW_none, errW_some] <;> rfl) | (simp [*, errW_none, errW_some] <;> rfl), by repeat (first | (with_reducible first | exact HB.out | apply below_alloc | apply pw_below_drewN | apply below_drew1) | exact HB.out)⟩
          · rw [if_neg c21] at H
            have c21b0 : decide (65536 < (t187.size : Int)) = false := decide_eq_false c21
            have c21b1 : decide (65536 < t187.size) = false := decide_eq_false (by omega)
            clear c21
            replace H := Option.bind_eq_some_iff.mp H
            obtain ⟨t188, A240, H⟩ := H
            replace H : ((broadsheetref02_Zeros.f (wrap64 ((wrap64 ((t187.size : Int) - 4)) - (t188.size : Int)))).bind fun t189 => (if t188.size + t189.size ≤ 9223372036854775807 then ((broadsheetref03_Sum.f k1 (t188 ++ t189)).bind fun t190 => ((broadsheetref25_put4.f k1 (t188 ++ t189) t190).bind fun t191 => (some (t191, 0)))) else (none))) = some (r1, r2) := H
            have A24 := Aside0.mk A240
            clear A240
            replace H := Option.bind_eq_some_iff.mp H
            obtain ⟨t189, A250, H⟩ := H
            replace H : (if t188.size + t189.size ≤ 9223372036854775807 then ((broadsheetref03_Sum.f k1 (t188 ++ t189)).bind fun t190 => ((broadsheetref25_put4.f k1 (t188 ++ t189) t190).bind fun t191 => (some (t191, 0)))) else (none)) = some (r1, r2) := H
            have A25 := Aside0.mk A250
            clear A250
            by_cases c26 : t188.size + t189.size ≤ 9223372036854775807
            · rw [if_pos c26] at H
              have c26b0 := eq_true c26
              have c26b1 : decide (t188.size + t189.size ≤ 9223372036854775807) = true := decide_eq_true c26
              try have c26b2 : (9223372036854775807 < t188.size + t189.size) = False := eq_false (Nat.not_lt.2 c26)
              replace H := Option.bind_eq_some_iff.mp H
              obtain ⟨t190, A270, H⟩ := H
              replace H : ((broadsheetref25_put4.f k1 (t188 ++ t189) t190).bind fun t191 => (some (t191, 0))) = some (r1, r2) := H
              have A27 := Aside0.mk A270
              clear A270
              replace H := Option.bind_eq_some_iff.mp H
              obtain ⟨t191, A280, H⟩ := H
              replace H : (some (t191, 0)) = some (r1, r2) := H
              have A28 := Aside0.mk A280
              clear A280
              simp only [Option.some.injEq, Prod.mk.injEq] at H
              obtain ⟨rfl, rfl⟩ := H
              go_wp2_with (first | (go_at_call 58; (with_reducible refine (broadsheetref25_body.calls k1 _ _ l0 0 t186 _ ?side1 ?side2 A19.out).mono ?_); (case side1 => repeat (first | exact (Kd.C_below HR0.out HB.out) | (with_reducible refine Kd.C_alloc ?_ _) | (with_reducible refine Kd.C_drewN ?_ _) | (with_reducible refine Kd.C_drew ?_))); (case side2 => exact HC0.out); rintro e w29 ⟨rfl, hb⟩; have n0_ := Aside0.mk (below_step (by repeat (first | (with_reducible first | exact HB.out | apply below_alloc | apply pw_below_drewN | apply below_drew1) | exact HB.out)) hb); clear HB; have HB := n0_; clear n0_; (try clear hb); (try clear hb2); (try clear hk); (try clear hi)) | (go_at_call 57; (with_reducible refine (broadsheetref25_put.calls k1 t186 0 4 t187 _ A20.out).mono ?_); rintro e w30 ⟨rfl, hb⟩; have n0_ := Aside0.mk (below_step (by repeat (first | (with_reducible first | exact HB.out | apply below_alloc | apply pw_below_drewN | apply below_drew1) | exact HB.out)) hb); clear HB; have HB := n0_; clear n0_; (try clear hb); (try clear hb2); (try clear hk); (try clear hi)) | (go_at_call 58; (with_reducible refine (broadsheetref25_body.calls k1 _ _ l0 (t187.size : Int) t188 _ ?side1 ?side2 A24.out).mono ?_); (case side1 => repeat (first | exact (Kd.C_below HR0.out HB.out) | (with_reducible refine Kd.C_alloc ?_ _) | (with_reducible refine Kd.C_drewN ?_ _) | (with_reducible refine Kd.C_drew ?_))); (case side2 => exact HC0.out); rintro e w31 ⟨rfl, hb⟩; have n0_ := Aside0.mk (below_step (by repeat (first | (with_reducible first | exact HB.out | apply below_alloc | apply pw_below_drewN | apply below_drew1) | exact HB.out)) hb); clear HB; have HB := n0_; clear n0_; (try clear hb); (try clear hb2); (try clear hk); (try clear hi)) | (go_at_call 44; (with_reducible refine (broadsheetref02_Zeros.calls (wrap64 ((wrap64 ((t187.size : Int) - 4)) - (t188.size : Int))) t189 _ A25.out).mono ?_); rintro e w32 ⟨rfl, hb⟩; have n0_ := Aside0.mk (below_step (by repeat (first | (with_reducible first | exact HB.out | apply below_alloc | apply pw_below_drewN | apply below_drew1) | exact HB.out)) hb); clear HB; have HB := n0_; clear n0_; (try clear hb); (try clear hb2); (try clear hk); (try clear hi)) | (go_at_call 60; (with_reducible refine (broadsheetref03_Sum.calls k1 (t188 ++ t189) t190 _ A27.out).mono ?_); rintro e w33 ⟨rfl, hb⟩; have n0_ := Aside0.mk (below_step (by repeat (first | (with_reducible first | exact HB.out | apply below_alloc | apply pw_below_drewN | apply below_drew1) | exact HB.out)) hb); clear HB; have HB := n0_; clear n0_; (try clear hb); (try clear hb2); (try clear hk); (try clear hi)) | (go_at_call 59; (with_reducible refine (broadsheetref25_put4.calls k1 (t188 ++ t189) t190 t191 _ A28.out).mono ?_); rintro e w34 ⟨rfl, hb⟩; have n0_ := Aside0.mk (below_step (by repeat (first | (with_reducible first | exact HB.out | apply below_alloc | apply pw_below_drewN | apply below_drew1) | exact HB.out)) hb); clear HB; have HB := n0_; clear n0_; (try clear hb); (try clear hb2); (try clear hk); (try clear hi)))
              repeat (go_quiet (first | (go_at_call 58; (with_reducible refine (broadsheetref25_body.calls k1 _ _ l0 0 t186 _ ?side1 ?side2 A19.out).mono ?_); (case side1 => repeat (first | exact (Kd.C_below HR0.out HB.out) | (with_reducible refine Kd.C_alloc ?_ _) | (with_reducible refine Kd.C_drewN ?_ _) | (with_reducible refine Kd.C_drew ?_))); (case side2 => exact HC0.out); rintro e w29 ⟨rfl, hb⟩; have n0_ := Aside0.mk (below_step (by repeat (first | (with_reducible first | exact HB.out | apply below_alloc | apply pw_below_drewN | apply below_drew1) | exact HB.out)) hb); clear HB; have HB := n0_; clear n0_; (try clear hb); (try clear hb2); (try clear hk); (try clear hi)) | (go_at_call 57; (with_reducible refine (broadsheetref25_put.calls k1 t186 0 4 t187 _ A20.out).mono ?_); rintro e w30 ⟨rfl, hb⟩; have n0_ := Aside0.mk (below_step (by repeat (first | (with_reducible first | exact HB.out | apply below_alloc | apply pw_below_drewN | apply below_drew1) | exact HB.out)) hb); clear HB; have HB := n0_; clear n0_; (try clear hb); (try clear hb2); (try clear hk); (try clear hi)) | (go_at_call 58; (with_reducible refine (broadsheetref25_body.calls k1 _ _ l0 (t187.size : Int) t188 _ ?side1 ?side2 A24.out).mono ?_); (case side1 => repeat (first | exact (Kd.C_below HR0.out HB.out) | (with_reducible refine Kd.C_alloc ?_ _) | (with_reducible refine Kd.C_drewN ?_ _) | (with_reducible refine Kd.C_drew ?_))); (case side2 => exact HC0.out); rintro e w31 ⟨rfl, hb⟩; have n0_ := Aside0.mk (below_step (by repeat (first | (with_reducible first | exact HB.out | apply below_alloc | apply pw_below_drewN | apply below_drew1) | exact HB.out)) hb); clear HB; have HB := n0_; clear n0_; (try clear hb); (try clear hb2); (try clear hk); (try clear hi)) | (go_at_call 44; (with_reducible refine (broadsheetref02_Zeros.calls (wrap64 ((wrap64 ((t187.size : Int) - 4)) - (t188.size : Int))) t189 _ A25.out).mono ?_); rintro e w32 ⟨rfl, hb⟩; have n0_ := Aside0.mk (below_step (by repeat (first | (with_reducible first | exact HB.out | apply below_alloc | apply pw_below_drewN | apply below_drew1) | exact HB.out)) hb); clear HB; have HB := n0_; clear n0_; (try clear hb); (try clear hb2); (try clear hk); (try clear hi)) | (go_at_call 60; (with_reducible refine (broadsheetref03_Sum.calls k1 (t188 ++ t189) t190 _ A27.out).mono ?_); rintro e w33 ⟨rfl, hb⟩; have n0_ := Aside0.mk (below_step (by repeat (first | (with_reducible first | exact HB.out | apply below_alloc | apply pw_below_drewN | apply below_drew1) | exact HB.out)) hb); clear HB; have HB := n0_; clear n0_; (try clear hb); (try clear hb2); (try clear hk); (try clear hi)) | (go_at_call 59; (with_reducible refine (broadsheetref25_put4.calls k1 (t188 ++ t189) t190 t191 _ A28.out).mono ?_); rintro e w34 ⟨rfl, hb⟩; have n0_ := Aside0.mk (below_step (by repeat (first | (with_reducible first | exact HB.out | apply below_alloc | apply pw_below_drewN | apply below_drew1) | exact HB.out)) hb); clear HB; have HB := n0_; clear n0_; (try clear hb); (try clear hb2); (try clear hk); (try clear hi))); try go_wp2_with (first | (go_at_call 58; (with_reducible refine (broadsheetref25_body.calls k1 _ _ l0 0 t186 _ ?side1 ?side2 A19.out).mono ?_); (case side1 => repeat (first | exact (Kd.C_below HR0.out HB.out) | (with_reducible refine Kd.C_alloc ?_ _) | (with_reducible refine Kd.C_drewN ?_ _) | (with_reducible refine Kd.C_drew ?_))); (case side2 => exact HC0.out); rintro e w29 ⟨rfl, hb⟩; have n0_ := Aside0.mk (below_step (by repeat (first | (with_reducible first | exact HB.out | apply below_alloc | apply pw_below_drewN | apply below_drew1) | exact HB.out)) hb); clear HB; have HB := n0_; clear n0_; (try clear hb); (try clear hb2); (try clear hk); (try clear hi)) | (go_at_call 57; (with_reducible refine (broadsheetref25_put.calls k1 t186 0 4 t187 _ A20.out).mono ?_); rintro e w30 ⟨rfl, hb⟩; have n0_ := Aside0.mk (below_step (by repeat (first | (with_reducible first | exact HB.out | apply below_alloc | apply pw_below_drewN | apply below_drew1) | exact HB.out)) hb); clear HB; have HB := n0_; clear n0_; (try clear hb); (try clear hb2); (try clear hk); (try clear hi)) | (go_at_call 58; (with_reducible refine (broadsheetref25_body.calls k1 _ _ l0 (t187.size : Int) t188 _ ?side1 ?side2 A24.out).mono ?_); (case side1 => repeat (first | exact (Kd.C_below HR0.out HB.out) | (with_reducible refine Kd.C_alloc ?_ _) | (with_reducible refine Kd.C_drewN ?_ _) | (with_reducible refine Kd.C_drew ?_))); (case side2 => exact HC0.out); rintro e w31 ⟨rfl, hb⟩; have n0_ := Aside0.mk (below_step (by repeat (first | (with_reducible first | exact HB.out | apply below_alloc | apply pw_below_drewN | apply below_drew1) | exact HB.out)) hb); clear HB; have HB := n0_; clear n0_; (try clear hb); (try clear hb2); (try clear hk); (try clear hi)) | (go_at_call 44; (with_reducible refine (broadsheetref02_Zeros.calls (wrap64 ((wrap64 ((t187.size : Int) - 4)) - (t188.size : Int))) t189 _ A25.out).mono ?_); rintro e w32 ⟨rfl, hb⟩; have n0_ := Aside0.mk (below_step (by repeat (first | (with_reducible first | exact HB.out | apply below_alloc | apply pw_below_drewN | apply below_drew1) | exact HB.out)) hb); clear HB; have HB := n0_; clear n0_; (try clear hb); (try clear hb2); (try clear hk); (try clear hi)) | (go_at_call 60; (with_reducible refine (broadsheetref03_Sum.calls k1 (t188 ++ t189) t190 _ A27.out).mono ?_); rintro e w33 ⟨rfl, hb⟩; have n0_ := Aside0.mk (below_step (by repeat (first | (with_reducible first | exact HB.out | apply below_alloc | apply pw_below_drewN | apply below_drew1) | exact HB.out)) hb); clear HB; have HB := n0_; clear n0_; (try clear hb); (try clear hb2); (try clear hk); (try clear hi)) | (go_at_call 59; (with_reducible refine (broadsheetref25_put4.calls k1 (t188 ++ t189) t190 t191 _ A28.out).mono ?_); rintro e w34 ⟨rfl, hb⟩; have n0_ := Aside0.mk (below_step (by repeat (first | (with_reducible first | exact HB.out | apply below_alloc | apply pw_below_drewN | apply below_drew1) | exact HB.out)) hb); clear HB; have HB := n0_; clear n0_; (try clear hb); (try clear hb2); (try clear hk); (try clear hi))))
              go_ret2
              exact ⟨by first | rfl | (simp [errW_none, errW_some] <;> rfl) | (simp [*, errW_none, errW_some] <;> rfl), by repeat (first | (with_reducible first | exact HB.out | apply below_alloc | apply pw_below_drewN | apply below_drew1) | exact HB.out)⟩
            · rw [if_neg c26] at H
              exact absurd H (by simp)

-- NOT PRINTED: function 7 (broadsheetlaw25_ImagePuts)

end Go.Proofs.Ytehojcocnndniaa.PImagePuts
namespace Go.Proofs.Ytehojcocnndniaa.Img
open Go.RowKit Base Sp Flat Go.Proofs.YtehojcocnndniaaW.PrintWords Go.Proofs.YtehojcocnndniaaW.PrintMore Wd Al Buf Cur Go.Proofs.Ytehojcocnndniaa.PImagePuts
theorem put_ev (L : List UInt8) (n s : Int) (hl : L.length ≤ 9000000000000000000) (h0 : 0 ≤ n) (h1 : n < 18446744073709551616) : Ev (fun k => broadsheetref25_put.f k (tx L) n s) (tx (pto L n s)) := by
  unfold broadsheetref25_put.f
  have hw : IntKind.u64.wrap n = n := wrapu64 h0 h1
  rw [hw]
  exact Ev.bind (Ev.of (fun k => broadsheetref02_Put.mono _ _ _ k) (rput2_eq L n s (by omega) h0 h1)) (Ev.now _)
theorem put4_ev (L : List UInt8) (n : Int) (hl : L.length ≤ 9000000000000000000) (h0 : 0 ≤ n) (h1 : n < 18446744073709551616) : Ev (fun k => broadsheetref25_put4.f k (tx L) n) (tx (pto L n 4)) := by
  unfold broadsheetref25_put4.f
  have hw : IntKind.u64.wrap n = n := wrapu64 h0 h1
  rw [hw]
  exact Ev.bind (Ev.of (fun k => broadsheetref02_Put.mono _ _ _ k) (rput2_eq L n 4 (by omega) h0 h1)) (Ev.now _)
set_option maxRecDepth 20000 in
theorem body_from (l : List S98) (hl : l.length ≤ 300) (hk : ∀ x ∈ l, 1 ≤ x.f0 ∧ x.f0 ≤ 255 ∧ x.f1.size ≤ 70000) : ∀ (d i : Nat) (L : List UInt8), i + d = l.length → L.length ≤ 34 + i * 100100 →
    Ev (fun k => broadsheetref25_body.l0 k l (tx L) (i : Int)) (tx ((prs (l.drop i)).foldl stp L))
  | 0, i, L, h, hL => by
    rw [List.drop_of_length_le (by omega)]
    refine Ev.step (f := fun _ => some _) (fun k => ?_) (Ev.now _)
    simp only [broadsheetref25_body.l0]
    rw [if_neg (by omega)]
    rfl
  | d + 1, i, L, h, hL => by
    have hi : i < l.length := by omega
    obtain ⟨k1, k2, k3⟩ := hk _ (List.getElem_mem hi)
    rw [prs_drop l i hi, List.foldl_cons]
    have hrd := rdS1_at l i hi
    generalize l[i] = x at *
    have hp1 := plen L x.f0 2 (by decide)
    have hp2 := plen (pto L x.f0 2) (x.f1.size : Int) 4 (by decide)
    have hsl : (stp L (x.f0, x.f1)).length = (pto (pto L x.f0 2) (x.f1.size : Int) 4).length + x.f1.size := by
      unfold stp
      rw [List.length_append]
      rfl
    have ih := body_from l hl hk d (i + 1) (stp L (x.f0, x.f1)) (by omega) (by omega)
    have e1 : tx (stp L (x.f0, x.f1)) = tx (pto (pto L x.f0 2) (x.f1.size : Int) 4) ++ x.f1 := by
      unfold stp
      rw [tx_app]
      rfl
    rw [e1] at ih
    refine Ev.step (fun k => by simp only [broadsheetref25_body.l0]; rw [if_pos (by omega), if_pos (by omega), hrd]) (Ev.bind (put_ev L x.f0 2 (by omega) (by omega) (by omega)) (Ev.bind (put_ev (pto L x.f0 2) (x.f1.size : Int) 4 (by omega) (by omega) (by omega)) ?_))
    simp only [if_pos (show (tx (pto (pto L x.f0 2) (x.f1.size : Int) 4)).size + x.f1.size ≤ 9223372036854775807 from by rw [tx_size]; omega), w64p (show i ≤ 4611686018427387904 by omega)]
    exact ih
set_option maxRecDepth 20000 in
theorem body_ev (l : List S98) (n : Int) (hl : l.length ≤ 300) (hk : ∀ x ∈ l, 1 ≤ x.f0 ∧ x.f0 ≤ 255 ∧ x.f1.size ≤ 70000) (h0 : 0 ≤ n) (h1 : n < 18446744073709551616) :
    Ev (fun k => broadsheetref25_body.f k l n) (tx (bod (prs l) n)) := by
  have hh := hdr_len n (l.length : Int)
  have hp1 := plen [66, 83, 72, 49] n 4 (by decide)
  have h3 : ([66, 83, 72, 49] : List UInt8).length = 4 := rfl
  have hb := body_from l hl hk l.length 0 (hdr n (l.length : Int)) (by omega) (by omega)
  rw [List.drop_zero] at hb
  unfold broadsheetref25_body.f
  refine Ev.bind (put_ev [66, 83, 72, 49] n 4 (by omega) h0 h1) (Ev.bind (put_ev _ (l.length : Int) 4 (by omega) (by omega) (by omega)) ?_)
  have e : bod (prs l) n = (prs l).foldl stp (hdr n (l.length : Int)) := by unfold bod; rw [show (prs l).length = l.length from List.length_map _]
  rw [e]
  exact hb
set_option maxRecDepth 20000 in
/-- What the reference makes behind the checks of the kinds. -/
theorem tail_ev (l : List S98) (hl : l.length ≤ 300) (hk : ∀ x ∈ l, 1 ≤ x.f0 ∧ x.f0 ≤ 255 ∧ x.f1.size ≤ 70000) :
    Ev (fun k => (broadsheetref25_body.f k l 0).bind fun t186 => ((broadsheetref25_put.f k t186 0 4).bind fun t187 => (if (t187.size : Int) > 65536 then (some ((⟨#[]⟩ : ByteArray), (3 : Int))) else ((broadsheetref25_body.f k l (t187.size : Int)).bind fun t188 => ((broadsheetref02_Zeros.f (wrap64 ((wrap64 ((t187.size : Int) - 4)) - (t188.size : Int)))).bind fun t189 => (if t188.size + t189.size ≤ 9223372036854775807 then ((broadsheetref03_Sum.f k (t188 ++ t189)).bind fun t190 => ((broadsheetref25_put4.f k (t188 ++ t189) t190).bind fun t191 => (some (t191, 0)))) else (none)))))))
      (if 65536 < ilen (prs l) then ((⟨#[]⟩ : ByteArray), (3 : Int)) else (tx (iend (bod (prs l) (ilen (prs l)))), 0)) := by
  have hps : ∀ x ∈ prs l, x.2.size ≤ 65536 ∨ x.2.size ≤ 70000 := fun x hx => by
    obtain ⟨y, hy, rfl⟩ := List.mem_map.1 hx
    exact .inr (hk y hy).2.2
  have hbl : (bod (prs l) 0).length ≤ 40000000 := by
    have h1 : ∀ (m : List (Int × ByteArray)) (L : List UInt8), (∀ x ∈ m, x.2.size ≤ 70000) → (m.foldl stp L).length ≤ L.length + m.length * 70030 := by
      intro m
      induction m with
      | nil => intro L _; simp
      | cons x m ih =>
        intro L h
        have h1 := ih (stp L x) (fun y hy => h y (List.mem_cons_of_mem _ hy))
        have h2 := plen L x.1 2 (by decide)
        have h3 := plen (pto L x.1 2) (x.2.size : Int) 4 (by decide)
        have h4 := h x List.mem_cons_self
        have h5 : (stp L x).length = (pto (pto L x.1 2) (x.2.size : Int) 4).length + x.2.size := by unfold stp; rw [List.length_append]; rfl
        rw [List.foldl_cons, List.length_cons]
        omega
    have h2 := h1 (prs l) (hdr 0 ((prs l).length : Int)) (fun x hx => by obtain ⟨y, hy, rfl⟩ := List.mem_map.1 hx; exact (hk y hy).2.2)
    have h3 := hdr_len 0 ((prs l).length : Int)
    have h4 : (prs l).length = l.length := List.length_map _
    unfold bod
    omega
  have hie := ilen_eq (prs l)
  have hp := plen (bod (prs l) 0) 0 4 (by decide)
  refine Ev.bind (body_ev l 0 hl hk (by decide) (by decide)) (Ev.bind (put_ev _ 0 4 (by omega) (by decide) (by decide)) ?_)
  rw [tx_size, ← hie]
  by_cases hN : 65536 < ilen (prs l)
  · simp only [if_pos (show ilen (prs l) > 65536 from hN)]
    exact Ev.now _
  · simp only [if_neg (show ¬ ilen (prs l) > 65536 from hN)]
    have hg := gapv_le (bod (prs l) 0).length 4
    have hil : ilen (prs l) = ((bod (prs l) 0).length : Int) + (gapv (bod (prs l) 0).length 4 + 4) := rfl
    have hcg := bod_congr (prs l) (ilen (prs l)) 0 (by omega) (by decide)
    refine Ev.bind (body_ev l (ilen (prs l)) hl hk (by omega) (by omega)) ?_
    rw [tx_size, hcg]
    have e1 : wrap64 (wrap64 (ilen (prs l) - 4) - ((bod (prs l) 0).length : Int)) = gapv (bod (prs l) 0).length 4 := by unfold wrap64; omega
    rw [e1]
    unfold broadsheetref02_Zeros.f
    simp only [if_pos hg.1, if_pos (show (gapv ((bod (prs l) 0).length : Int) 4).toNat ≤ 281474976710656 from by omega), Option.bind_some]
    rw [nums_zeros, tx_size, List.length_replicate, ← tx_app]
    simp only [if_pos (show (bod (prs l) 0).length + (gapv ((bod (prs l) 0).length : Int) 4).toNat ≤ 9223372036854775807 from by omega)]
    have ef : bod (prs l) (ilen (prs l)) ++ List.replicate (gapv ((bod (prs l) 0).length : Int) 4).toNat 0 = fil (bod (prs l) (ilen (prs l))) := by
      unfold fil
      rw [hcg]
    rw [ef]
    have hfl : (fil (bod (prs l) (ilen (prs l)))).length ≤ 40000010 := by
      unfold fil
      rw [List.length_append, List.length_replicate, hcg]
      omega
    unfold iend
    generalize fil (bod (prs l) (ilen (prs l))) = F at *
    have hn1 := CrcP.num_lo (CrcP.sum (Crc.bytes (tx F)))
    have hn2 := CrcP.num_hi (CrcP.sum (Crc.bytes (tx F)))
    unfold broadsheetref03_Sum.f
    simp only [if_pos (show (tx F).size ≤ 1099511627776 from by rw [tx_size]; omega), Option.bind_some]
    exact Ev.bind (put4_ev F _ (by omega) hn1 (by omega)) (Ev.now _)
end Go.Proofs.Ytehojcocnndniaa.Img
namespace Go.Proofs.Ytehojcocnndniaa.Img
open Go.RowKit Base Sp Flat Go.Proofs.YtehojcocnndniaaW.PrintWords Go.Proofs.YtehojcocnndniaaW.PrintMore Wd Al Buf Cur Go.Proofs.Ytehojcocnndniaa.PImagePuts
theorem secs_of {w : World} {A : Option Addr} {l : List S98} (h : Kd.C k102 w A (l.map toI).length (l.map toI)) : Secs w A (prs l) := by
  intro k hk
  have hkl : k < l.length := by rw [show (prs l).length = l.length from List.length_map _] at hk; exact hk
  obtain ⟨ad, e, c0, c1⟩ := at_T102 h (k : Int) (by omega) (by rw [List.length_map]; omega)
  rw [Int.toNat_natCast] at c0 c1
  have e2 : rd_T102 (l.map toI) (k : Int) = toI l[k] := by
    unfold rd_T102
    rw [Int.toNat_natCast, List.getD_eq_getElem?_getD, List.getElem?_map, List.getElem?_eq_getElem hkl]
    rfl
  rw [e2] at c0 c1
  have e3 : (prs l)[k]'hk = (l[k].f0, l[k].f1) := List.getElem_map _
  rw [e3]
  exact ⟨ad, e, c0, c1⟩
end Go.Proofs.Ytehojcocnndniaa.Img
namespace Go.Proofs.Ytehojcocnndniaa.Img
open Go.RowKit Base Sp Flat Go.Proofs.YtehojcocnndniaaW.PrintWords Go.Proofs.YtehojcocnndniaaW.PrintMore Wd Al Buf Cur Go.Proofs.Ytehojcocnndniaa.PImagePuts
def tl (l : List (Int × ByteArray)) : ByteArray × Int := if 65536 < ilen l then (⟨#[]⟩, 3) else (tx (iend (bod l (ilen l))), 0)
set_option maxRecDepth 20000 in
theorem rpt_from (l : List S98) (hl : l.length ≤ 300) (hz : ∀ x ∈ l, x.f1.size ≤ 70000) : ∀ (d i : Nat) (n last : Int), i + d = l.length → 0 ≤ n → n ≤ 1048576 →
    ((i = 0 ∧ last = 0) ∨ (0 < i ∧ ∃ h : i - 1 < l.length, l[i - 1].f0 = last)) → kds 0 (prs l) = kds last (prs (l.drop i)) → cap (prs l) 0 = cap (prs (l.drop i)) n →
    Ev (fun k => broadsheetref25_Put.l0 k l n (i : Int)) (if kds 0 (prs l) ≠ 0 then (⟨#[]⟩, kds 0 (prs l)) else if 65536 < cap (prs l) 0 then (⟨#[]⟩, 3) else tl (prs l))
  | 0, i, n, last, h, h0, h1, hlast, hk, hc => by
    rw [List.drop_of_length_le (by omega)] at hk hc
    have hk0 : kds 0 (prs l) = 0 := hk
    have hc0 : cap (prs l) 0 = n := hc
    rw [if_neg (fun h => h hk0), hc0]
    have hkk : ∀ x ∈ l, 1 ≤ x.f0 ∧ x.f0 ≤ 255 ∧ x.f1.size ≤ 70000 := fun x hx => by
      have := kds_ok (prs l) 0 hk0 (x.f0, x.f1) (List.mem_map.2 ⟨x, hx, rfl⟩)
      exact ⟨this.1, this.2, hz x hx⟩
    by_cases hn : 65536 < n
    · rw [if_pos hn]
      refine Ev.step (f := fun _ => some _) (fun k => ?_) (Ev.now _)
      simp only [broadsheetref25_Put.l0]
      rw [if_neg (by omega), if_pos (by omega)]
    · rw [if_neg hn]
      have hT := tail_ev l hl hkk
      refine Ev.step (fun k => ?_) hT
      simp only [broadsheetref25_Put.l0]
      rw [if_neg (by omega), if_neg (by omega)]
  | d + 1, i, n, last, h, h0, h1, hlast, hk, hc => by
    have hi : i < l.length := by omega
    have hs := hz _ (List.getElem_mem hi)
    rw [prs_drop l i hi, kds] at hk
    rw [prs_drop l i hi, cap] at hc
    have hrd := rdS1_at l i hi
    have ih := fun (n' : Int) (hn0 : 0 ≤ n') (hn1 : n' ≤ 1048576) (hk' : kds 0 (prs l) = kds (l[i]'hi).f0 (prs (l.drop (i + 1)))) (hc' : cap (prs l) 0 = cap (prs (l.drop (i + 1))) n') => rpt_from l hl hz d (i + 1) n' (l[i]'hi).f0 (by omega) hn0 hn1 (.inr ⟨by omega, by rw [Nat.add_sub_cancel]; exact hi, by simp only [Nat.add_sub_cancel]⟩) hk' hc'
    generalize l[i] = x at *
    dsimp only at hk hc
    have hj1 : ∀ t : Bool, (t = true ↔ x.f0 < 1 ∨ 255 < x.f0) → Ev (fun k => broadsheetref25_Put.j1 k l n (i : Int) t) (if kds 0 (prs l) ≠ 0 then (⟨#[]⟩, kds 0 (prs l)) else if 65536 < cap (prs l) 0 then (⟨#[]⟩, 3) else tl (prs l)) := by
      intro t ht
      by_cases hb : x.f0 < 1 ∨ 255 < x.f0
      · rw [if_pos hb] at hk
        rw [hk, ht.2 hb, if_pos (show (4 : Int) ≠ 0 from by decide)]
        refine Ev.step (f := fun _ => some _) (fun k => ?_) (Ev.now _)
        simp only [broadsheetref25_Put.j1, if_pos]
      · have htf : t = false := by cases t; rfl; exact absurd (ht.1 rfl) hb
        subst htf
        rw [if_neg hb] at hk
        by_cases ho : x.f0 ≤ last
        · rw [if_pos ho] at hk
          rw [hk, if_pos (show (14 : Int) ≠ 0 from by decide)]
          rcases hlast with ⟨_, h2⟩ | ⟨hp, hlt, h2⟩
          · omega
          · have hw : wrap64 ((i : Int) - 1) = ((i - 1 : Nat) : Int) := by unfold wrap64; omega
            refine Ev.step (f := fun _ => some _) (fun k => ?_) (Ev.now _)
            simp only [broadsheetref25_Put.j1]
            rw [if_neg (by decide), if_pos (by omega), if_pos (by omega), if_pos (by omega), hw, if_pos (by omega), if_pos (by omega), hrd, rdS1_at l (i - 1) hlt, h2, if_pos ho]
        · rw [if_neg ho] at hk
          have hw0 : wrap64 (n + (x.f1.size : Int)) = n + x.f1.size := by unfold wrap64; omega
          have ih2 := ih (if n + (x.f1.size : Int) < 1048576 then n + (x.f1.size : Int) else 1048576) (by split <;> omega) (by split <;> omega) hk hc
          rcases hlast with ⟨hp, h2⟩ | ⟨hp, hlt, h2⟩
          · refine Ev.step (fun k => ?_) ih2
            simp only [broadsheetref25_Put.j1]
            rw [if_neg (by decide), if_neg (by omega), if_pos (by omega), if_pos (by omega), hrd, hw0, mn_eq, w64p (by omega)]
          · have hw : wrap64 ((i : Int) - 1) = ((i - 1 : Nat) : Int) := by unfold wrap64; omega
            refine Ev.step (fun k => ?_) ih2
            simp only [broadsheetref25_Put.j1]
            rw [if_neg (by decide), if_pos (by omega), if_pos (by omega), if_pos (by omega), hw, if_pos (by omega), if_pos (by omega), hrd, rdS1_at l (i - 1) hlt, h2, if_neg ho, hw0, mn_eq, w64p (by omega)]
    by_cases h1' : x.f0 < 1
    · refine Ev.step (fun k => ?_) (hj1 true ⟨fun _ => .inl h1', fun _ => rfl⟩)
      simp only [broadsheetref25_Put.l0]
      rw [if_pos (by omega), if_pos (by omega), hrd, if_pos h1']
    · refine Ev.step (fun k => ?_) (hj1 (decide (x.f0 > 255)) ⟨fun h => .inr (of_decide_eq_true h), fun h => decide_eq_true (by omega)⟩)
      simp only [broadsheetref25_Put.l0]
      rw [if_pos (by omega), if_pos (by omega), hrd, if_neg h1']
theorem rpt_ev (l : List S98) (hl : l.length ≤ 300) (hz : ∀ x ∈ l, x.f1.size ≤ 70000) : Ev (fun k => broadsheetref25_Put.f k l) (ipt (prs l)) := by
  have h := rpt_from l hl hz l.length 0 0 0 (by omega) (by decide) (by decide) (.inl ⟨rfl, rfl⟩) rfl rfl
  unfold ipt
  have hc : (65536 < cap (prs l) 0) ↔ (65536 < smz (prs l)) := by
    rw [(smz_tot (prs l)).1, cap_tot (prs l) 0 (by decide) (by decide)]
    split <;> omega
  have e : ∀ x : ByteArray × Int, (if 65536 < smz (prs l) then ((⟨#[]⟩, 3) : ByteArray × Int) else x) = (if 65536 < cap (prs l) 0 then ((⟨#[]⟩, 3) : ByteArray × Int) else x) := fun x => by
    by_cases c : 65536 < smz (prs l)
    · rw [if_pos c, if_pos (hc.2 c)]
    · rw [if_neg c, if_neg (fun h => c (hc.1 h))]
  rw [e]
  exact h
set_option maxRecDepth 20000 in
set_option maxHeartbeats 2000000 in
theorem puts (A : Option Addr) (c : Nat) (l : List S98) (w : World) (hC : Kd.C k98 w A l.length l) (hc : l.length ≤ c) (hS : Small l) :
    Calls Try.prog 7 #[.slice A l.length c] w fun e w' => e = .returned (.bool true) ∧ Below w.heap.size w w' := by
  obtain ⟨k0, hk0⟩ := Ev.rounds (great_ev l hS)
  have HG := broadsheetlaw25_Great.calls k0 A c l _ w hC hc hk0
  clear hk0
  cases hg : grt (prs l) with
  | true =>
    rw [hg] at HG
    clear hg hS
    go_enter Try.func7, Try.ntmps7
    go_wp2_with fail
    refine HG.mono ?_
    rintro e w1 ⟨rfl, b1⟩
    go_wp2_with fail
    refine (awake _).mono ?_
    rintro e w2 ⟨rfl, b2⟩
    go_wp2
    go_ret
    exact ⟨rfl, bstep b1 b2⟩
  | false =>
    rw [hg] at HG
    obtain ⟨hl, ht⟩ := grt_not hg
    rw [show (prs l).length = l.length from List.length_map _] at hl
    have hz : ∀ x ∈ l, x.f1.size ≤ 70000 := fun x hx => by
      have := tot_mem (prs l) (x.f0, x.f1) (List.mem_map.2 ⟨x, hx, rfl⟩)
      dsimp only at this
      omega
    obtain ⟨k1, hk1⟩ := Ev.rounds (ours_ev l hl)
    have HO := fun W h => broadsheetlaw25_ours.calls k1 A c l _ W h hc hk1
    obtain ⟨k2, hk2⟩ := Ev.rounds (rpt_ev l hl hz)
    have HR := fun W h => broadsheetref25_Put.calls k2 A c l (ipt (prs l)).1 (ipt (prs l)).2 W h hc hk2
    have HP := fun A' c' W h => put A' c' (prs l) W h (by rw [show (prs l).length = l.length from List.length_map _]; omega)
    rw [show (prs l).length = l.length from List.length_map _] at HP
    generalize ipt (prs l) = R at *
    obtain ⟨R1, R2⟩ := R
    clear hg ht hz hk1 hk2 hS hl
    go_enter Try.func7, Try.ntmps7
    go_wp2_with fail
    refine HG.mono ?_
    rintro e w1 ⟨rfl, b1⟩
    go_wp2_with fail
    refine (HO w1 (Kd.C_below hC b1)).mono ?_
    rintro e w2 ⟨v, rfl, hr, b2⟩
    obtain ⟨A2, c2, rfl, hc2, hC2⟩ := Kd.R_reads hr
    have hSec := secs_of hC2
    rw [List.length_map]
    clear hr hC2 HG HO
    have bb2 := bstep b1 b2
    go_wp2_with fail
    refine (HP _ _ w2 hSec).mono ?_
    rintro e w3 ⟨rfl, b3⟩
    have bb3 := bstep bb2 b3
    clear HP hSec
    go_wp2_with fail
    refine (HR w3 (Kd.C_below hC bb3)).mono ?_
    rintro e w4 ⟨rfl, b4⟩
    go_wp2_with fail
    refine (awake _).mono ?_
    rintro e w5 ⟨rfl, b5⟩
    go_wp2
    go_ret
    exact ⟨rfl, bstep (bstep bb3 b4) b5⟩
end Go.Proofs.Ytehojcocnndniaa.Img
