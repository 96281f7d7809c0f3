import Derived.Test.YtkijeknopnjamaaCrcPure2
import Derived.Test.YtkijeknopnjamaaCrc
import Derived.Test.YtkijeknopnjamaaRegion
import Derived.Test.YtkijeknopnjamaaPMemoryStepsx1
set_option linter.unusedVariables false
set_option linter.unusedSimpArgs false
namespace Go.Proofs.Ytkijeknopnjamaa.CrcR
open Go.RowKit CrcP Go.Proofs.Ytkijeknopnjamaa.PMemorySteps Go.Proofs.YtkijeknopnjamaaW.PrintWords Go.Proofs.YtkijeknopnjamaaW.PrintLast Go.Proofs.YtkijeknopnjamaaW.PrintMore Base

theorem w64 {x : Int} (h0 : 0 ≤ x) (h1 : x < 9223372036854775808) : wrap64 x = x := by unfold wrap64; omega
theorem bt_get (s : ByteArray) (i : Nat) (h : i < s.size) : bt s (i : Int) = (s[i].toNat : Int) := by
  unfold bt
  simp [h]

/-- One byte's bits. -/
theorem bits_byte (s : ByteArray) (i c : Nat) (r : List Bool) (hi : (i : Int) < 9223372036854775807) (hc : c < 256) (m : Nat) : ∀ (j : Nat) (acc : List Bool), j + m = 8 → acc.length + m ≤ 140737488355327 →
    Ev (fun k => broadsheetref03_bits.l0 k s (acc ++ bitsN c m j) ((i : Int) + 1)) r → Ev (fun k => broadsheetref03_bits.l1 k s acc (i : Int) ((c >>> j : Nat) : Int) (j : Int)) r := by
  induction m with
  | zero =>
    intro j acc hj ha h
    simp only [bitsN, List.append_nil] at h
    refine Ev.step (fun k => ?_) h
    simp only [broadsheetref03_bits.l1]
    rw [if_neg (by omega), w64 (by omega) (by omega)]
  | succ m ih =>
    intro j acc hj ha h
    have e1 : (c >>> (j + 1) : Nat) = (c >>> j) / 2 := by rw [Nat.shiftRight_succ]
    have hb : c >>> j < 256 := by rw [Nat.shiftRight_eq_div_pow]; exact Nat.lt_of_le_of_lt (Nat.div_le_self _ _) hc
    have e4 : c.testBit j = decide ((c >>> j) % 2 = 1) := by rw [Nat.testBit_eq_decide_div_mod_eq, ← Nat.shiftRight_eq_div_pow]
    have h' := ih (j + 1) (acc ++ [c.testBit j]) (by omega) (by rw [List.length_append, List.length_singleton]; omega) (by
      rw [List.append_assoc]; exact h)
    clear ih h
    generalize c >>> (j + 1) = y at *
    generalize c >>> j = x at *
    subst e1
    have e2 : (Int.tmod (x : Int) 2 == 1) = c.testBit j := by
      rw [Int.tmod_eq_emod_of_nonneg (by omega), e4]
      rcases Nat.mod_two_eq_zero_or_one x with h | h
      · have : (x : Int) % 2 = 0 := by omega
        rw [this, h]; rfl
      · have : (x : Int) % 2 = 1 := by omega
        rw [this, h]; rfl
    have e3 : Int.tdiv (x : Int) 2 = ((x / 2 : Nat) : Int) := by
      rw [Int.tdiv_eq_ediv_of_nonneg (by omega)]
      omega
    clear e4
    refine Ev.step (fun k => ?_) h'
    simp only [broadsheetref03_bits.l1]
    rw [if_pos (by omega), if_pos (by omega), e2, e3, w64 (by omega) (by omega), w64 (by omega) (by omega)]
    rfl

theorem bits_from (s : ByteArray) (hs : s.size ≤ 1099511627776) (d : Nat) : ∀ (i : Nat) (acc : List Bool), i + d = s.size → acc.length = 8 * i →
    Ev (fun k => broadsheetref03_bits.l0 k s acc (i : Int)) (acc ++ bitsL (s.data.toList.drop i)) := by
  have hsz : s.data.toList.length = s.size := by simp
  induction d with
  | zero =>
    intro i acc hi ha
    refine Ev.step (f := fun _ => some acc) (fun k => ?_) ?_
    · simp only [broadsheetref03_bits.l0]
      rw [if_neg (by omega)]
    · rw [List.drop_of_length_le (by omega)]
      simp only [bitsL, List.flatMap_nil, List.append_nil]
      exact Ev.now _
  | succ d ih =>
    intro i acc hi ha
    have hlt : i < s.size := by omega
    have hcons : s.data.toList.drop i = s[i] :: s.data.toList.drop (i + 1) := by
      rw [List.drop_eq_getElem_cons (by omega)]
      rfl
    have hl : (acc ++ bitsB s[i]).length = 8 * (i + 1) := by
      rw [List.length_append, bitsB, bitsN_len, ha]
      omega
    have h := ih (i + 1) (acc ++ bitsB s[i]) (by omega) hl
    have hc : s[i].toNat < 256 := s[i].toNat_lt
    have h2 := bits_byte s i s[i].toNat _ (by omega) hc 8 0 acc (by omega) (by omega) (by
      show Ev (fun k => broadsheetref03_bits.l0 k s (acc ++ bitsB s[i]) ((i : Int) + 1)) _
      exact h)
    rw [hcons]
    rw [List.append_assoc] at h2
    refine Ev.step (fun k => ?_) h2
    simp only [broadsheetref03_bits.l0]
    rw [if_pos (by omega), if_pos (by omega), bt_get s i hlt, w64 (by omega) (by omega)]
    rfl
theorem bits_ev (s : ByteArray) (hs : s.size ≤ 1099511627776) : ∃ k, broadsheetref03_bits.f k s = some (bitsL s.data.toList) := by
  have h := bits_from s hs s.size 0 [] (by omega) rfl
  exact Ev.rounds (g := fun k => broadsheetref03_bits.f k s) h

theorem poly_ev : ∃ k, broadsheetref03_poly.f k = some polyL := ⟨20, by decide +kernel⟩
end Go.Proofs.Ytkijeknopnjamaa.CrcR
