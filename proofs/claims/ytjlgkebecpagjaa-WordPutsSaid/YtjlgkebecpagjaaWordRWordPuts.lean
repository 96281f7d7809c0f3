import Derived.Test.YtjlgkebecpagjaaWordTWordPuts
import Derived.Test.YtjlgkebecpagjaaPWordPutsx2
set_option linter.unusedVariables false
set_option linter.unusedSimpArgs false
namespace Go.Proofs.Ytjlgkebecpagjaa.WordPWordPuts
open Go.RowKit Base Go.Proofs.YtjlgkebecpagjaaW.PrintWords Go.Proofs.YtjlgkebecpagjaaW.PrintLast Go.Proofs.Ytjlgkebecpagjaa.PWordPuts
theorem rsized_eq (s : Int) : broadsheetref01_Sized.f s = some (sz s) := sized_eq s
theorem str_app (a b : List Int) : strOfNums a ++ strOfNums b = strOfNums (a ++ b) := by
  apply ByteArray.ext
  simp [strOfNums]
theorem app_empty (t : ByteArray) : t ++ strOfNums [] = t := by
  apply ByteArray.ext
  simp [strOfNums]
theorem empty_app (t : ByteArray) : (⟨#[]⟩ : ByteArray) ++ t = t := by
  apply ByteArray.ext
  simp
theorem app_assoc (a b c : ByteArray) : (a ++ b) ++ c = a ++ (b ++ c) := by
  apply ByteArray.ext
  simp
theorem rput_loop (s : Int) (hs : s ≤ 8) : ∀ (j i : Nat) (x : Int) (t : ByteArray) (k : Nat), ((i + j : Nat) : Int) = s → 0 ≤ x → x < 18446744073709551616 → t.size ≤ 1000 + i →
    broadsheetref01_Put.l0 (j + 1 + k) x s t (i : Int) = some (if x / 256 ^ j = 0 then (t ++ strOfNums (le x j), 0) else (⟨#[]⟩, 7))
  | 0, i, x, t, k, h, h0, h1, ht => by
    rw [show 0 + 1 + k = k + 1 from by omega]
    simp only [broadsheetref01_Put.l0]
    rw [if_neg (by omega), le, app_empty]
    by_cases hx : x = 0
    · rw [if_pos hx, if_pos (by simpa using hx)]
    · rw [if_neg hx, if_neg (by simpa using hx)]
  | j + 1, i, x, t, k, h, h0, h1, ht => by
    rw [show j + 1 + 1 + k = (j + 1 + k) + 1 from by omega]
    simp only [broadsheetref01_Put.l0]
    have ew : wrap64 ((i : Int) + 1) = ((i + 1 : Nat) : Int) := by unfold wrap64; omega
    have em : wrap64 (Int.tmod x 256) = x % 256 := by
      rw [Int.tmod_eq_emod_of_nonneg h0]
      unfold wrap64
      omega
    have ed : IntKind.u64.wrap (Int.tdiv x 256) = x / 256 := by
      rw [Int.tdiv_eq_ediv_of_nonneg h0, u64_mod]
      omega
    unfold broadsheetref01_Byte.f
    rw [if_pos (by omega), em, Option.bind_some, if_pos (by rw [strOfNums_size]; simp; omega), ew, ed, show x % 256 % 256 = x % 256 from by omega,
      rput_loop s hs j (i + 1) (x / 256) _ k (by omega) (by omega) (by omega) (by rw [ByteArray.size_append, strOfNums_size]; simp; omega)]
    rw [le, Int.pow_succ, Int.mul_comm, ← Int.ediv_ediv_of_nonneg (by decide), app_assoc, str_app]
    rfl
theorem rput_eq (a s : Int) (k : Nat) (hk : 12 ≤ k) (h0 : 0 ≤ a) (h1 : a < 18446744073709551616) : broadsheetref01_Put.f k a s = some (if sz s then putv a s else (⟨#[]⟩, 4)) := by
  unfold broadsheetref01_Put.f
  rw [rsized_eq, Option.bind_some]
  cases h : sz s with
  | false => rfl
  | true =>
    have hs := sz_cases h
    rw [if_pos rfl, if_pos rfl]
    have hp : a / 256 ^ s.toNat = 0 ↔ a < pw s := by
      rcases hs with rfl | rfl | rfl | rfl
      · show a / 256 = 0 ↔ a < 256; omega
      · show a / 65536 = 0 ↔ a < 65536; omega
      · show a / 4294967296 = 0 ↔ a < 4294967296; omega
      · show a / 18446744073709551616 = 0 ↔ a < 18446744073709551616; omega
    obtain ⟨n, rfl⟩ : ∃ n : Nat, s = (n : Int) := ⟨s.toNat, by omega⟩
    have := rput_loop n (by omega) n 0 a ⟨#[]⟩ (k - n - 1) (by omega) h0 h1 (by show 0 ≤ _; omega)
    rw [show n + 1 + (k - n - 1) = k from by omega, empty_app] at this
    refine this.trans ?_
    unfold putv
    rw [Int.toNat_natCast] at hp ⊢
    by_cases hq : a < pw n
    · rw [if_pos hq, if_pos (hp.2 hq)]
    · rw [if_neg hq, if_neg (fun h => hq (hp.1 h))]
theorem pow_8 (m : Nat) (h : m ≤ 8) : (256 : Int) ^ m ≤ 256 ^ 8 := by
  have : m = 0 ∨ m = 1 ∨ m = 2 ∨ m = 3 ∨ m = 4 ∨ m = 5 ∨ m = 6 ∨ m = 7 ∨ m = 8 := by omega
  rcases this with rfl | rfl | rfl | rfl | rfl | rfl | rfl | rfl | rfl <;> decide
theorem rtake_loop (b : ByteArray) (at_ : Int) (s : Nat) (hs : s ≤ 8) (ha : 0 ≤ at_) (hb : at_ + s ≤ b.size) (hz : b.size ≤ 9223372036854775807) : ∀ (j : Nat) (k : Nat), j ≤ s →
    broadsheetref01_Take.l0 (j + 1 + k) b at_ (lev (fun t => bt b (at_ + ((j + t : Nat) : Int))) (s - j)) ((j : Int) - 1) = some (lev (fun i => bt b (at_ + i)) s, 0)
  | 0, k, h => by
    rw [show 0 + 1 + k = k + 1 from by omega]
    simp only [broadsheetref01_Take.l0]
    rw [if_neg (by omega), Nat.sub_zero]
    simp only [Nat.zero_add]
  | j + 1, k, h => by
    rw [show j + 1 + 1 + k = (j + 1 + k) + 1 from by omega]
    simp only [broadsheetref01_Take.l0]
    have ea : wrap64 (at_ + (((j + 1 : Nat) : Int) - 1)) = at_ + j := by unfold wrap64; omega
    have ew : wrap64 ((((j + 1 : Nat) : Int) - 1) - 1) = (j : Int) - 1 := by unfold wrap64; omega
    have hr := bt_range b (at_ + j)
    have e1 : lev (fun t => bt b (at_ + ((j + t : Nat) : Int))) (s - j) = bt b (at_ + j) + 256 * lev (fun t => bt b (at_ + ((j + 1 + t : Nat) : Int))) (s - (j + 1)) := by
      rw [show s - j = s - (j + 1) + 1 from by omega, lev]
      simp only [Nat.add_zero]
      congr 2
      congr 1
      funext t
      rw [show j + 1 + t = j + (t + 1) from by omega]
    have lo := lev_lo (fun t => bt b (at_ + ((j + 1 + t : Nat) : Int))) (fun i => bt_range b _) (s - (j + 1))
    have hi := lev_hi (fun t => bt b (at_ + ((j + t : Nat) : Int))) (fun i => bt_range b _) (s - j)
    have hp : (256 : Int) ^ (s - j) ≤ 256 ^ 8 := pow_8 (s - j) (by omega)
    have h8 : (256 : Int) ^ 8 = 18446744073709551616 := by decide
    rw [ea, ew, if_pos (by omega), if_pos (by omega), if_pos (by omega)]
    have ex : IntKind.u64.wrap (IntKind.u64.wrap (lev (fun t => bt b (at_ + ((j + 1 + t : Nat) : Int))) (s - (j + 1)) * 256) + IntKind.u64.wrap (bt b (at_ + j))) = lev (fun t => bt b (at_ + ((j + t : Nat) : Int))) (s - j) := by
      rw [u64_mod, u64_mod, u64_mod]
      omega
    rw [ex]
    exact rtake_loop b at_ s hs ha hb hz j k (by omega)
theorem rtake_eq (b : ByteArray) (at_ s : Int) (k : Nat) (hk : 12 ≤ k) (hz : b.size ≤ 9223372036854775807) (h0 : -9223372036854775808 ≤ at_) (h1 : at_ < 9223372036854775808) : broadsheetref01_Take.f k b at_ s = some (if sz s then takev b at_ s else (0, 4)) := by
  unfold broadsheetref01_Take.f
  rw [rsized_eq, Option.bind_some]
  cases h : sz s with
  | false => rfl
  | true =>
    have hs := sz_cases h
    obtain ⟨k, rfl⟩ : ∃ m, k = m + 1 := ⟨k - 1, by omega⟩
    rw [if_pos rfl, if_pos rfl]
    unfold takev
    by_cases hn : at_ < 0
    · rw [if_pos hn, if_pos (Or.inl hn)]
      simp [broadsheetref01_Take.j0]
    · rw [if_neg hn]
      by_cases hg : (b.size : Int) < at_
      · rw [show decide (at_ > (b.size : Int)) = true from decide_eq_true hg, if_pos (Or.inr hg)]
        simp [broadsheetref01_Take.j0]
      · rw [show decide (at_ > (b.size : Int)) = false from decide_eq_false hg, if_neg (by omega)]
        simp only [broadsheetref01_Take.j0]
        have ew : wrap64 ((b.size : Int) - at_) = (b.size : Int) - at_ := by unfold wrap64; omega
        rw [if_neg (by decide), ew]
        by_cases hq : (b.size : Int) - at_ < s
        · rw [if_pos hq, if_pos hq]
        · rw [if_neg hq, if_neg hq]
          obtain ⟨n, rfl⟩ : ∃ n : Nat, s = (n : Int) := ⟨s.toNat, by omega⟩
          have ew2 : wrap64 ((n : Int) - 1) = (n : Int) - 1 := by unfold wrap64; omega
          have := rtake_loop b at_ n (by omega) (by omega) (by omega) hz n (k - n - 1) (by omega)
          rw [show n + 1 + (k - n - 1) = k from by omega, Nat.sub_self] at this
          rw [ew2]
          exact this
end Go.Proofs.Ytjlgkebecpagjaa.WordPWordPuts
