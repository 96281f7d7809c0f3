import Derived.Test.YtehojcocnndniaaCur2
set_option linter.unusedVariables false
set_option linter.unusedSimpArgs false
namespace Go.Proofs.Ytehojcocnndniaa.Cur
open Go.RowKit Base Sp Flat Go.Proofs.YtehojcocnndniaaW.PrintWords Go.Proofs.YtehojcocnndniaaW.PrintLast Wd Al Buf
theorem ctake_at (b : ByteArray) (a : Nat) (e s : Int) (ha : a ≤ b.size) : ∃ a2 : Nat, (ctake b a e s).2.1 = (a2 : Int) ∧ a2 ≤ b.size := by
  unfold ctake
  by_cases h1 : e ≠ 0
  · rw [if_pos h1]; exact ⟨a, rfl, ha⟩
  · rw [if_neg h1]
    by_cases h2 : sz s = false
    · rw [if_pos h2]; exact ⟨a, rfl, ha⟩
    · rw [if_neg h2]
      by_cases h3 : pad b (gapv a s).toNat a ≠ 0
      · rw [if_pos h3]; exact ⟨a, rfl, ha⟩
      · rw [if_neg h3]
        by_cases h4 : (takev b ((a : Int) + gapv a s) s).2 ≠ 0
        · rw [if_pos h4]; exact ⟨a, rfl, ha⟩
        · rw [if_neg h4]
          have hs : sz s = true := by simpa using h2
          have hc := sz_cases hs
          have hg := gapv_le a s
          have h5 : ¬ ((b.size : Int) < (a : Int) + gapv a s + s) := fun h => h4 ((takev_err b _ s (by omega) (by omega)).2 h)
          exact ⟨((a : Int) + gapv a s + s).toNat, by show (a : Int) + gapv a s + s = _; omega, by omega⟩
theorem ctext_at (b : ByteArray) (a : Nat) (e n : Int) (ha : a ≤ b.size) : ∃ a2 : Nat, (ctext b a e n).2.1 = (a2 : Int) ∧ a2 ≤ b.size := by
  unfold ctext
  by_cases h1 : e = 0
  · rw [if_pos h1]
    by_cases h2 : n < 0
    · rw [if_pos h2]; exact ⟨a, rfl, ha⟩
    · rw [if_neg h2]
      by_cases h3 : (b.size : Int) - a < n
      · rw [if_pos h3]; exact ⟨a, rfl, ha⟩
      · rw [if_neg h3]
        exact ⟨((a : Int) + n).toNat, by show (a : Int) + n = _; omega, by omega⟩
  · rw [if_neg h1]; exact ⟨a, rfl, ha⟩
theorem ctext_ex (b : ByteArray) (a : Nat) (e n : Int) (ha : a ≤ b.size) : ∃ (sv : ByteArray) (a2 : Nat) (e2 : Int), ctext b a e n = (sv, (a2 : Int), e2) ∧ a2 ≤ b.size := by
  obtain ⟨a2, h, h2⟩ := ctext_at b a e n ha
  exact ⟨_, a2, _, by rw [← h], h2⟩
theorem ctake_ex (b : ByteArray) (a : Nat) (e n : Int) (ha : a ≤ b.size) : ∃ (sv : Int) (a2 : Nat) (e2 : Int), ctake b a e n = (sv, (a2 : Int), e2) ∧ a2 ≤ b.size := by
  obtain ⟨a2, h, h2⟩ := ctake_at b a e n ha
  exact ⟨_, a2, _, by rw [← h], h2⟩
theorem text_at (c a : Nat) (b : ByteArray) (e n : Int) (w : World) (h : CB w c a b e) (ha : a ≤ b.size) (hz : b.size ≤ 140737488355328) (hn : n < 9223372036854775808) {sv : ByteArray} {a2 : Nat} {e2 : Int} (hr : ctext b a e n = (sv, (a2 : Int), e2)) :
    Calls Try.prog 79 #[.pointer (some ⟨c, 0, none⟩), .int .i64 n] w fun e' w' => e' = .returned (.string sv) ∧ CB w' c a2 b e2 ∧ Mod (At c) w w' := by
  have := text c a b e n w h ha hz hn
  rw [hr] at this
  exact this
theorem take_at (c a : Nat) (b : ByteArray) (e n : Int) (w : World) (h : CB w c a b e) (ha : a ≤ b.size) (hz : b.size ≤ 140737488355328) {sv : Int} {a2 : Nat} {e2 : Int} (hr : ctake b a e n = (sv, (a2 : Int), e2)) :
    Calls Try.prog 51 #[.pointer (some ⟨c, 0, none⟩), .int .i64 n] w fun e' w' => e' = .returned (.int .u64 sv) ∧ CB w' c a2 b e2 ∧ Mod (At c) w w' := by
  have := take c a b e n w h ha hz
  rw [hr] at this
  exact this
end Go.Proofs.Ytehojcocnndniaa.Cur
