import Derived.Test.YtjlgkebecpagjaaWordQWordBack
import Derived.Test.YtjlgkebecpagjaaPWordBackx1
set_option linter.unusedVariables false
set_option linter.unusedSimpArgs false
namespace Go.Proofs.Ytjlgkebecpagjaa.WordPWordBack
open Go.RowKit Base Go.Proofs.YtjlgkebecpagjaaW.PrintWords Go.Proofs.YtjlgkebecpagjaaW.PrintLast Go.Proofs.Ytjlgkebecpagjaa.PWordBack
/-- The number of bytes, the lowest first. -/
def lev (f : Nat → Int) : Nat → Int
  | 0 => 0
  | k + 1 => f 0 + 256 * lev (fun i => f (i + 1)) k
theorem lev_lo (f : Nat → Int) (hf : ∀ i, 0 ≤ f i ∧ f i ≤ 255) : ∀ k, 0 ≤ lev f k := by
  intro k
  induction k generalizing f with
  | zero => exact Int.le_refl 0
  | succ k ih =>
    have := ih (fun i => f (i + 1)) (fun i => hf (i + 1))
    have := (hf 0).1
    rw [lev]
    omega
theorem lev_hi (f : Nat → Int) (hf : ∀ i, 0 ≤ f i ∧ f i ≤ 255) : ∀ k, lev f k < 256 ^ k := by
  intro k
  induction k generalizing f with
  | zero => simp [lev]
  | succ k ih =>
    have := ih (fun i => f (i + 1)) (fun i => hf (i + 1))
    have := (hf 0).2
    rw [lev, Int.pow_succ]
    omega
theorem lev_snoc (f : Nat → Int) : ∀ k, lev f (k + 1) = lev f k + f k * 256 ^ k := by
  intro k
  induction k generalizing f with
  | zero => simp [lev]
  | succ k ih =>
    rw [lev, ih (fun i => f (i + 1)), lev, Int.pow_succ, Int.mul_add]
    generalize lev (fun i => f (i + 1)) k = x
    generalize (256 : Int) ^ k = p
    have e : f (k + 1) * (p * 256) = 256 * (f (k + 1) * p) := by rw [Int.mul_comm p 256, ← Int.mul_assoc, Int.mul_comm (f (k + 1)) 256, Int.mul_assoc]
    rw [e]
    omega
/-- What Take answers. -/
def takev (b : ByteArray) (at_ s : Int) : Int × Int :=
  if at_ < 0 ∨ (b.size : Int) < at_ then (0, 7) else if (b.size : Int) - at_ < s then (0, 2) else (lev (fun i => bt b (at_ + i)) s.toNat, 0)
theorem or_add (x c : Int) (i : Nat) (hi : i < 8) (hx0 : 0 ≤ x) (hx : x < 256 ^ i) (hc0 : 0 ≤ c) (hc : c ≤ 255) :
    Go.bits .or .u64 x (shl .u64 (IntKind.u64.wrap c) (IntKind.u64.wrap (wrap64 (8 * (i : Int))))) = x + c * 256 ^ i := by
  have e : IntKind.u64.wrap (wrap64 (8 * (i : Int))) = ((8 * i : Nat) : Int) := by
    rw [u64_mod]
    unfold wrap64
    omega
  have ew : IntKind.u64.wrap c = c := by rw [u64_mod]; omega
  obtain ⟨n, rfl⟩ : ∃ n : Nat, x = (n : Int) := ⟨x.toNat, by omega⟩
  obtain ⟨m, rfl⟩ : ∃ m : Nat, c = (m : Int) := ⟨c.toNat, by omega⟩
  have hp : (256 : Int) ^ i = ((2 ^ (8 * i) : Nat) : Int) := by
    rw [Nat.pow_mul]
    simp
  have hn : n < 2 ^ (8 * i) := by rw [hp] at hx; omega
  have hq : 2 ^ (8 * i) ≤ 2 ^ 56 := Nat.pow_le_pow_right (by decide) (by omega)
  have h56 : (2 : Nat) ^ 56 = 72057594037927936 := by decide
  have h64 : (2 : Nat) ^ 64 = 18446744073709551616 := by decide
  have hm : m * 2 ^ (8 * i) ≤ 255 * 2 ^ 56 := Nat.mul_le_mul (by omega) hq
  have hd : m * 2 ^ (8 * i) + 2 ^ (8 * i) ≤ 2 ^ 64 := by
    have h1 : (m + 1) * 2 ^ (8 * i) ≤ 256 * 2 ^ 56 := Nat.mul_le_mul (by omega) hq
    rw [Nat.add_mul, Nat.one_mul] at h1
    omega
  rw [e, ew, sl_ _ (8 * i) (by omega), hp]
  have e2 : (m : Int) * 2 ^ (8 * i) % 18446744073709551616 = ((m * 2 ^ (8 * i) : Nat) : Int) := by
    have e3 : (m : Int) * 2 ^ (8 * i) = ((m * 2 ^ (8 * i) : Nat) : Int) := by simp
    rw [e3]
    generalize m * 2 ^ (8 * i) = y at *
    omega
  rw [e2]
  show IntKind.u64.wrap (((BitVec.ofInt 64 (n : Int) ||| BitVec.ofInt 64 ((m * 2 ^ (8 * i) : Nat) : Int)).toNat : Nat) : Int) = _
  have eor : n ||| (m * 2 ^ (8 * i)) = m * 2 ^ (8 * i) + n := by rw [Nat.or_comm, Nat.mul_comm m, ← Nat.two_pow_add_eq_or_of_lt hn]
  rw [of_nat, of_nat, BitVec.toNat_or, BitVec.toNat_ofNat, BitVec.toNat_ofNat, Nat.mod_eq_of_lt (by omega), Nat.mod_eq_of_lt (by omega), eor, u64_mod]
  have e4 : (m : Int) * ((2 ^ (8 * i) : Nat) : Int) = ((m * 2 ^ (8 * i) : Nat) : Int) := by simp
  rw [e4]
  generalize m * 2 ^ (8 * i) = y at *
  generalize 2 ^ (8 * i) = q at *
  omega
theorem take_loop (b : ByteArray) (at_ s : Int) (hs : s ≤ 8) (ha : 0 ≤ at_) (hb : at_ + s ≤ b.size) (hz : b.size ≤ 9223372036854775807) : ∀ (j i : Nat) (k : Nat), ((i + j : Nat) : Int) = s →
    word_Take.l0 (j + 1 + k) b at_ (lev (fun i => bt b (at_ + i)) i) s (i : Int) = some (lev (fun i => bt b (at_ + i)) s.toNat, 0)
  | 0, i, k, h => by
    rw [show 0 + 1 + k = k + 1 from by omega]
    simp only [word_Take.l0]
    rw [if_neg (by omega), show s.toNat = i from by omega]
  | j + 1, i, k, h => by
    rw [show j + 1 + 1 + k = (j + 1 + k) + 1 from by omega]
    simp only [word_Take.l0]
    have e0 : (0 : Int) ≤ IntKind.u64.wrap (wrap64 (8 * (i : Int))) := by
      rw [u64_mod]
      omega
    have ew : wrap64 ((i : Int) + 1) = ((i + 1 : Nat) : Int) := by unfold wrap64; omega
    have ea : wrap64 (at_ + (i : Int)) = at_ + i := by unfold wrap64; omega
    have hr := bt_range b (at_ + i)
    rw [ea, if_pos (by omega), if_pos (by omega), if_pos (by omega), if_pos e0, ew, or_add _ _ i (by omega) (lev_lo _ (fun i => bt_range b _) i) (lev_hi _ (fun i => bt_range b _) i) hr.1 hr.2,
      ← lev_snoc (fun i => bt b (at_ + i)) i]
    exact take_loop b at_ s hs ha hb hz j (i + 1) k (by omega)
theorem take_eq (b : ByteArray) (at_ s : Int) (k : Nat) (hk : 12 ≤ k) (hz : b.size ≤ 9223372036854775807) (h0 : -9223372036854775808 ≤ at_) (h1 : at_ < 9223372036854775808) : word_Take.f k b at_ s = some (if sz s then takev b at_ s else (0, 4)) := by
  unfold word_Take.f
  rw [sized_eq, Option.bind_some]
  cases h : sz s with
  | false => rfl
  | true =>
    have hs := sz_cases h
    obtain ⟨k, rfl⟩ : ∃ m, k = m + 1 := ⟨k - 1, by omega⟩
    rw [if_pos rfl, if_pos rfl]
    unfold takev
    by_cases hn : at_ < 0
    · rw [if_pos hn, if_pos (Or.inl hn)]
      simp [word_Take.j0]
    · rw [if_neg hn]
      by_cases hg : (b.size : Int) < at_
      · rw [show decide (at_ > (b.size : Int)) = true from decide_eq_true hg, if_pos (Or.inr hg)]
        simp [word_Take.j0]
      · rw [show decide (at_ > (b.size : Int)) = false from decide_eq_false hg, if_neg (by omega)]
        simp only [word_Take.j0]
        have ew : wrap64 ((b.size : Int) - at_) = (b.size : Int) - at_ := by unfold wrap64; omega
        rw [if_neg (by decide), ew]
        by_cases hq : (b.size : Int) - at_ < s
        · rw [if_pos hq, if_pos hq]
        · rw [if_neg hq, if_neg hq]
          obtain ⟨n, rfl⟩ : ∃ n : Nat, s = (n : Int) := ⟨s.toNat, by omega⟩
          have := take_loop b at_ n (by omega) (by omega) (by omega) hz n 0 (k - n - 1) (by omega)
          rw [show n + 1 + (k - n - 1) = k from by omega] at this
          exact this
end Go.Proofs.Ytjlgkebecpagjaa.WordPWordBack
