import Derived.Test.YtmlfnlmdnhblmaaWd
import Derived.Test.YtmlfnlmdnhblmaaPRecordPutsx1
set_option linter.unusedVariables false
set_option linter.unusedSimpArgs false
namespace Go.Proofs.Ytmlfnlmdnhblmaa.Wd
open Go.RowKit Base Go.Proofs.YtmlfnlmdnhblmaaW.PrintWords Go.Proofs.YtmlfnlmdnhblmaaW.PrintLast Go.Proofs.YtmlfnlmdnhblmaaW.PrintMore Go.Proofs.Ytmlfnlmdnhblmaa.PRecordPuts
theorem rsized_p (s : Int) : broadsheetref01_Sized.f s = some (sz s) := by
  unfold broadsheetref01_Sized.f sz
  by_cases h1 : s = 1
  · simp [h1]
  · by_cases h2 : s = 2
    · simp [h2]
    · by_cases h4 : s = 4
      · simp [h4]
      · simp [h1, h2, h4]
theorem rput_loop (s : Int) (hs : s ≤ 8) : ∀ (j i : Nat) (x : Int) (t : ByteArray) (k : Nat), ((i + j : Nat) : Int) = s → 0 ≤ x → x < 18446744073709551616 → t.size ≤ 1000 + i →
    broadsheetref01_Put.l0 (j + 1 + k) x s t (i : Int) = some (if x / 256 ^ j = 0 then (t ++ strOfNums (le x j), 0) else (⟨#[]⟩, 7))
  | 0, i, x, t, k, h, h0, h1, ht => by
    rw [show 0 + 1 + k = k + 1 from by omega]
    simp only [broadsheetref01_Put.l0]
    rw [if_neg (by omega), le, app_empty]
    by_cases hx : x = 0
    · rw [if_pos hx, if_pos (by simpa using hx)]
    · rw [if_neg hx, if_neg (by simpa using hx)]
  | j + 1, i, x, t, k, h, h0, h1, ht => by
    rw [show j + 1 + 1 + k = (j + 1 + k) + 1 from by omega]
    simp only [broadsheetref01_Put.l0]
    have ew : wrap64 ((i : Int) + 1) = ((i + 1 : Nat) : Int) := by unfold wrap64; omega
    have em : wrap64 (Int.tmod x 256) = x % 256 := by
      rw [Int.tmod_eq_emod_of_nonneg h0]
      unfold wrap64
      omega
    have ed : IntKind.u64.wrap (Int.tdiv x 256) = x / 256 := by
      rw [Int.tdiv_eq_ediv_of_nonneg h0, u64_mod]
      omega
    unfold broadsheetref01_Byte.f
    rw [if_pos (by omega), em, Option.bind_some, if_pos (by rw [strOfNums_size]; simp; omega), ew, ed, show x % 256 % 256 = x % 256 from by omega,
      rput_loop s hs j (i + 1) (x / 256) _ k (by omega) (by omega) (by omega) (by rw [ByteArray.size_append, strOfNums_size]; simp; omega)]
    rw [le, Int.pow_succ, Int.mul_comm, ← Int.ediv_ediv_of_nonneg (by decide), app_assoc, str_app]
    rfl
theorem rput_eq (a s : Int) (k : Nat) (hk : 12 ≤ k) (h0 : 0 ≤ a) (h1 : a < 18446744073709551616) : broadsheetref01_Put.f k a s = some (if sz s then putv a s else (⟨#[]⟩, 4)) := by
  unfold broadsheetref01_Put.f
  rw [rsized_p, Option.bind_some]
  cases h : sz s with
  | false => rfl
  | true =>
    have hs := sz_cases h
    rw [if_pos rfl, if_pos rfl]
    have hp : a / 256 ^ s.toNat = 0 ↔ a < pw s := by
      rcases hs with rfl | rfl | rfl | rfl
      · show a / 256 = 0 ↔ a < 256; omega
      · show a / 65536 = 0 ↔ a < 65536; omega
      · show a / 4294967296 = 0 ↔ a < 4294967296; omega
      · show a / 18446744073709551616 = 0 ↔ a < 18446744073709551616; omega
    obtain ⟨n, rfl⟩ : ∃ n : Nat, s = (n : Int) := ⟨s.toNat, by omega⟩
    have := rput_loop n (by omega) n 0 a ⟨#[]⟩ (k - n - 1) (by omega) h0 h1 (by show 0 ≤ _; omega)
    rw [show n + 1 + (k - n - 1) = k from by omega, empty_app] at this
    refine this.trans ?_
    unfold putv
    rw [Int.toNat_natCast] at hp ⊢
    by_cases hq : a < pw n
    · rw [if_pos hq, if_pos (hp.2 hq)]
    · rw [if_neg hq, if_neg (fun h => hq (hp.1 h))]
theorem rput (a s : Int) (h0 : 0 ≤ a) (h1 : a < 18446744073709551616) (w : World) :
    Calls Try.prog 47 #[.int .u64 a, .int .i64 s] w fun e w' => e = .returned (.tuple #[.string (if sz s then putv a s else (⟨#[]⟩, 4)).1, .int .i64 (if sz s then putv a s else (⟨#[]⟩, 4)).2]) ∧ Below w.heap.size w w' :=
  broadsheetref01_Put.calls 12 a s _ _ w (rput_eq a s 12 (by decide) h0 h1)
end Go.Proofs.Ytmlfnlmdnhblmaa.Wd
