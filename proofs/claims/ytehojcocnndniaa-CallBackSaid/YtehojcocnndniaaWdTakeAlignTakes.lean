import Derived.Test.YtehojcocnndniaaWdPutAlignTakes
import Derived.Test.YtehojcocnndniaaPCallPutsx2
set_option linter.unusedVariables false
set_option linter.unusedSimpArgs false
namespace Go.Proofs.Ytehojcocnndniaa.Wd
open Go.RowKit Base Go.Proofs.YtehojcocnndniaaW.PrintWords Go.Proofs.YtehojcocnndniaaW.PrintLast Go.Proofs.YtehojcocnndniaaW.PrintMore Go.Proofs.Ytehojcocnndniaa.PCallPuts
theorem take_loop (b : ByteArray) (at_ s : Int) (hs : s ≤ 8) (ha : 0 ≤ at_) (hb : at_ + s ≤ b.size) (hz : b.size ≤ 9223372036854775807) : ∀ (j i : Nat) (k : Nat), ((i + j : Nat) : Int) = s →
    word_Take.l0 (j + 1 + k) b at_ (lev (fun i => bt b (at_ + i)) i) s (i : Int) = some (lev (fun i => bt b (at_ + i)) s.toNat, 0)
  | 0, i, k, h => by
    rw [show 0 + 1 + k = k + 1 from by omega]
    simp only [word_Take.l0]
    rw [if_neg (by omega), show s.toNat = i from by omega]
  | j + 1, i, k, h => by
    rw [show j + 1 + 1 + k = (j + 1 + k) + 1 from by omega]
    simp only [word_Take.l0]
    have e0 : (0 : Int) ≤ IntKind.u64.wrap (wrap64 (8 * (i : Int))) := by
      rw [u64_mod]
      omega
    have ew : wrap64 ((i : Int) + 1) = ((i + 1 : Nat) : Int) := by unfold wrap64; omega
    have ea : wrap64 (at_ + (i : Int)) = at_ + i := by unfold wrap64; omega
    have hr := bt_range b (at_ + i)
    rw [ea, if_pos (by omega), if_pos (by omega), if_pos (by omega), if_pos e0, ew, or_add _ _ i (by omega) (lev_lo _ (fun i => bt_range b _) i) (lev_hi _ (fun i => bt_range b _) i) hr.1 hr.2,
      ← lev_snoc (fun i => bt b (at_ + i)) i]
    exact take_loop b at_ s hs ha hb hz j (i + 1) k (by omega)
theorem take_eq (b : ByteArray) (at_ s : Int) (k : Nat) (hk : 12 ≤ k) (hz : b.size ≤ 9223372036854775807) (h0 : -9223372036854775808 ≤ at_) (h1 : at_ < 9223372036854775808) : word_Take.f k b at_ s = some (if sz s then takev b at_ s else (0, 4)) := by
  unfold word_Take.f
  rw [sized_eq, Option.bind_some]
  cases h : sz s with
  | false => rfl
  | true =>
    have hs := sz_cases h
    obtain ⟨k, rfl⟩ : ∃ m, k = m + 1 := ⟨k - 1, by omega⟩
    rw [if_pos rfl, if_pos rfl]
    unfold takev
    by_cases hn : at_ < 0
    · rw [if_pos hn, if_pos (Or.inl hn)]
      simp [word_Take.j0]
    · rw [if_neg hn]
      by_cases hg : (b.size : Int) < at_
      · rw [show decide (at_ > (b.size : Int)) = true from decide_eq_true hg, if_pos (Or.inr hg)]
        simp [word_Take.j0]
      · rw [show decide (at_ > (b.size : Int)) = false from decide_eq_false hg, if_neg (by omega)]
        simp only [word_Take.j0]
        have ew : wrap64 ((b.size : Int) - at_) = (b.size : Int) - at_ := by unfold wrap64; omega
        rw [if_neg (by decide), ew]
        by_cases hq : (b.size : Int) - at_ < s
        · rw [if_pos hq, if_pos hq]
        · rw [if_neg hq, if_neg hq]
          obtain ⟨n, rfl⟩ : ∃ n : Nat, s = (n : Int) := ⟨s.toNat, by omega⟩
          have := take_loop b at_ n (by omega) (by omega) (by omega) hz n 0 (k - n - 1) (by omega)
          rw [show n + 1 + (k - n - 1) = k from by omega] at this
          exact this
theorem take (b : ByteArray) (at_ s : Int) (hz : b.size ≤ 9223372036854775807) (h0 : -9223372036854775808 ≤ at_) (h1 : at_ < 9223372036854775808) (w : World) :
    Calls Try.prog 77 #[.string b, .int .i64 at_, .int .i64 s] w fun e w' => e = .returned (.tuple #[.int .u64 (if sz s then takev b at_ s else (0, 4)).1, .int .i64 (if sz s then takev b at_ s else (0, 4)).2]) ∧ Below w.heap.size w w' :=
  (word_Take.calls 12 b at_ s _ _ w (take_eq b at_ s 12 (by decide) hz h0 h1)).mono fun _ _ h => ⟨h.1, drawn_below h.2⟩
end Go.Proofs.Ytehojcocnndniaa.Wd
