import Derived.Test.YtehojcocnndniaaWd
import Derived.Test.YtehojcocnndniaaPCallPutsx2
set_option linter.unusedVariables false
set_option linter.unusedSimpArgs false
namespace Go.Proofs.Ytehojcocnndniaa.Wd
open Go.RowKit Base Go.Proofs.YtehojcocnndniaaW.PrintWords Go.Proofs.YtehojcocnndniaaW.PrintLast Go.Proofs.YtehojcocnndniaaW.PrintMore Go.Proofs.Ytehojcocnndniaa.PCallPuts
theorem rsized_t (s : Int) : broadsheetref01_Sized.f s = some (sz s) := by
  unfold broadsheetref01_Sized.f sz
  by_cases h1 : s = 1
  · simp [h1]
  · by_cases h2 : s = 2
    · simp [h2]
    · by_cases h4 : s = 4
      · simp [h4]
      · simp [h1, h2, h4]
theorem rtake_loop (b : ByteArray) (at_ : Int) (s : Nat) (hs : s ≤ 8) (ha : 0 ≤ at_) (hb : at_ + s ≤ b.size) (hz : b.size ≤ 9223372036854775807) : ∀ (j : Nat) (k : Nat), j ≤ s →
    broadsheetref01_Take.l0 (j + 1 + k) b at_ (lev (fun t => bt b (at_ + ((j + t : Nat) : Int))) (s - j)) ((j : Int) - 1) = some (lev (fun i => bt b (at_ + i)) s, 0)
  | 0, k, h => by
    rw [show 0 + 1 + k = k + 1 from by omega]
    simp only [broadsheetref01_Take.l0]
    rw [if_neg (by omega), Nat.sub_zero]
    simp only [Nat.zero_add]
  | j + 1, k, h => by
    rw [show j + 1 + 1 + k = (j + 1 + k) + 1 from by omega]
    simp only [broadsheetref01_Take.l0]
    have ea : wrap64 (at_ + (((j + 1 : Nat) : Int) - 1)) = at_ + j := by unfold wrap64; omega
    have ew : wrap64 ((((j + 1 : Nat) : Int) - 1) - 1) = (j : Int) - 1 := by unfold wrap64; omega
    have hr := bt_range b (at_ + j)
    have e1 : lev (fun t => bt b (at_ + ((j + t : Nat) : Int))) (s - j) = bt b (at_ + j) + 256 * lev (fun t => bt b (at_ + ((j + 1 + t : Nat) : Int))) (s - (j + 1)) := by
      rw [show s - j = s - (j + 1) + 1 from by omega, lev]
      simp only [Nat.add_zero]
      congr 2
      congr 1
      funext t
      rw [show j + 1 + t = j + (t + 1) from by omega]
    have lo := lev_lo (fun t => bt b (at_ + ((j + 1 + t : Nat) : Int))) (fun i => bt_range b _) (s - (j + 1))
    have hi := lev_hi (fun t => bt b (at_ + ((j + t : Nat) : Int))) (fun i => bt_range b _) (s - j)
    have hp : (256 : Int) ^ (s - j) ≤ 256 ^ 8 := pow_8 (s - j) (by omega)
    have h8 : (256 : Int) ^ 8 = 18446744073709551616 := by decide
    rw [ea, ew, if_pos (by omega), if_pos (by omega), if_pos (by omega)]
    have ex : IntKind.u64.wrap (IntKind.u64.wrap (lev (fun t => bt b (at_ + ((j + 1 + t : Nat) : Int))) (s - (j + 1)) * 256) + IntKind.u64.wrap (bt b (at_ + j))) = lev (fun t => bt b (at_ + ((j + t : Nat) : Int))) (s - j) := by
      rw [u64_mod, u64_mod, u64_mod]
      omega
    rw [ex]
    exact rtake_loop b at_ s hs ha hb hz j k (by omega)
theorem rtake_eq (b : ByteArray) (at_ s : Int) (k : Nat) (hk : 12 ≤ k) (hz : b.size ≤ 9223372036854775807) (h0 : -9223372036854775808 ≤ at_) (h1 : at_ < 9223372036854775808) : broadsheetref01_Take.f k b at_ s = some (if sz s then takev b at_ s else (0, 4)) := by
  unfold broadsheetref01_Take.f
  rw [rsized_t, Option.bind_some]
  cases h : sz s with
  | false => rfl
  | true =>
    have hs := sz_cases h
    obtain ⟨k, rfl⟩ : ∃ m, k = m + 1 := ⟨k - 1, by omega⟩
    rw [if_pos rfl, if_pos rfl]
    unfold takev
    by_cases hn : at_ < 0
    · rw [if_pos hn, if_pos (Or.inl hn)]
      simp [broadsheetref01_Take.j0]
    · rw [if_neg hn]
      by_cases hg : (b.size : Int) < at_
      · rw [show decide (at_ > (b.size : Int)) = true from decide_eq_true hg, if_pos (Or.inr hg)]
        simp [broadsheetref01_Take.j0]
      · rw [show decide (at_ > (b.size : Int)) = false from decide_eq_false hg, if_neg (by omega)]
        simp only [broadsheetref01_Take.j0]
        have ew : wrap64 ((b.size : Int) - at_) = (b.size : Int) - at_ := by unfold wrap64; omega
        rw [if_neg (by decide), ew]
        by_cases hq : (b.size : Int) - at_ < s
        · rw [if_pos hq, if_pos hq]
        · rw [if_neg hq, if_neg hq]
          obtain ⟨n, rfl⟩ : ∃ n : Nat, s = (n : Int) := ⟨s.toNat, by omega⟩
          have ew2 : wrap64 ((n : Int) - 1) = (n : Int) - 1 := by unfold wrap64; omega
          have := rtake_loop b at_ n (by omega) (by omega) (by omega) hz n (k - n - 1) (by omega)
          rw [show n + 1 + (k - n - 1) = k from by omega, Nat.sub_self] at this
          rw [ew2]
          exact this
theorem rtake (b : ByteArray) (at_ s : Int) (hz : b.size ≤ 9223372036854775807) (h0 : -9223372036854775808 ≤ at_) (h1 : at_ < 9223372036854775808) (w : World) :
    Calls Try.prog 78 #[.string b, .int .i64 at_, .int .i64 s] w fun e w' => e = .returned (.tuple #[.int .u64 (if sz s then takev b at_ s else (0, 4)).1, .int .i64 (if sz s then takev b at_ s else (0, 4)).2]) ∧ Below w.heap.size w w' :=
  (broadsheetref01_Take.calls 12 b at_ s _ _ w (rtake_eq b at_ s 12 (by decide) hz h0 h1)).mono fun _ _ h => ⟨h.1, drawn_below h.2⟩
end Go.Proofs.Ytehojcocnndniaa.Wd
