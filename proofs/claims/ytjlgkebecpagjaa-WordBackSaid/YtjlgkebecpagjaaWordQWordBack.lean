import Derived.Test.YtjlgkebecpagjaaWordPWordBack
import Derived.Test.YtjlgkebecpagjaaPWordBackx1
set_option linter.unusedVariables false
set_option linter.unusedSimpArgs false
namespace Go.Proofs.Ytjlgkebecpagjaa.WordPWordBack
open Go.RowKit Base Go.Proofs.YtjlgkebecpagjaaW.PrintWords Go.Proofs.YtjlgkebecpagjaaW.PrintLast Go.Proofs.Ytjlgkebecpagjaa.PWordBack
/-- A number's lowest bytes. -/
def le : Int → Nat → List Int
  | _, 0 => []
  | n, k + 1 => n % 256 :: le (n / 256) k
theorem le_len : ∀ (n : Int) (k : Nat), (le n k).length = k
  | _, 0 => rfl
  | n, k + 1 => by rw [le, List.length_cons, le_len]
/-- What Put answers. -/
def putv (n s : Int) : ByteArray × Int := if n < pw s then (strOfNums (le n s.toNat), 0) else (⟨#[]⟩, 7)
theorem shr_8 (a : Int) (i : Nat) (h : i ≤ 8) : shr .u64 a (IntKind.u64.wrap (wrap64 (8 * (i : Int)))) = a / 256 ^ i := by
  have e : IntKind.u64.wrap (wrap64 (8 * (i : Int))) = ((8 * i : Nat) : Int) := by
    rw [u64_mod]
    unfold wrap64
    omega
  rw [e, sh a (8 * i) (by omega), show (256 : Int) = 2 ^ 8 from by decide, ← Int.pow_mul]
theorem put_loop (a s : Int) (hs : s ≤ 8) : ∀ (j i : Nat) (pre : List Int) (k : Nat), ((i + j : Nat) : Int) = s → pre.length = i →
    word_Put.l0 (j + 1 + k) a (pre ++ List.replicate j 0) s (i : Int) = some (strOfNums (pre ++ le (a / 256 ^ i) j), 0)
  | 0, i, pre, k, h, hp => by
    rw [show 0 + 1 + k = k + 1 from by omega]
    simp only [word_Put.l0]
    rw [if_neg (by omega)]
    simp [le]
  | j + 1, i, pre, k, h, hp => by
    rw [show j + 1 + 1 + k = (j + 1 + k) + 1 from by omega]
    simp only [word_Put.l0]
    have e0 : (0 : Int) ≤ IntKind.u64.wrap (wrap64 (8 * (i : Int))) := by
      rw [u64_mod]
      omega
    have ew : wrap64 ((i : Int) + 1) = ((i + 1 : Nat) : Int) := by unfold wrap64; omega
    have es : (pre ++ List.replicate (j + 1) 0).set ((i : Int)).toNat (shr .u64 a (IntKind.u64.wrap (wrap64 (8 * (i : Int)))) % 256) = (pre ++ [a / 256 ^ i % 256]) ++ List.replicate j 0 := by
      rw [Int.toNat_natCast, List.set_append_right _ _ (by omega), hp, Nat.sub_self, shr_8 a i (by omega)]
      simp [List.replicate_succ]
    rw [if_pos (by omega), if_pos e0, if_pos (by omega), if_pos (by simp; omega), ew, es, put_loop a s hs j (i + 1) (pre ++ [a / 256 ^ i % 256]) k (by omega) (by simp [hp])]
    congr 2
    rw [le, List.append_assoc, List.singleton_append, Int.pow_succ, Int.ediv_ediv_of_nonneg (Int.pow_nonneg (by decide))]
theorem put_eq (a s : Int) (k : Nat) (hk : 12 ≤ k) (h0 : 0 ≤ a) (h1 : a < 18446744073709551616) : word_Put.f k a s = some (if sz s then putv a s else (⟨#[]⟩, 4)) := by
  unfold word_Put.f
  rw [sized_eq, Option.bind_some]
  cases h : sz s with
  | false => rfl
  | true =>
    have hs := sz_cases h
    rw [if_pos rfl, mask_eq h, Option.bind_some, if_pos rfl]
    unfold putv
    by_cases hp : a < pw s
    · rw [if_pos ((andNot_mask h h0 h1).2 hp), if_pos (by omega), if_pos (by omega), if_pos hp]
      obtain ⟨n, rfl⟩ : ∃ n : Nat, s = (n : Int) := ⟨s.toNat, by omega⟩
      have := put_loop a n (by omega) n 0 [] (k - n - 1) (by omega) rfl
      rw [show n + 1 + (k - n - 1) = k from by omega, List.nil_append, List.nil_append] at this
      simp only [Int.toNat_natCast]
      rw [show ((0 : Nat) : Int) = 0 from rfl] at this
      rw [this]
      simp
    · rw [if_neg (fun h' => hp ((andNot_mask h h0 h1).1 h')), if_neg hp]
theorem awake_eq (k : Nat) (hk : 12 ≤ k) : broadsheetlaw01_awake.f k = some true := by
  unfold broadsheetlaw01_awake.f
  rw [put_eq 258 2 k hk (by decide) (by decide), bits_eq (-2) 2 (by decide) (by decide), sign_eq 255 1]
  simp only [Option.bind_some]
  rw [show sz 2 = true from rfl, show sz 1 = true from rfl, if_pos rfl, if_pos rfl, if_pos rfl]
  rw [show putv 258 2 = (strOfNums [2, 1], 0) from by kernel_rfl, show bitv (-2) 2 = (65534, 0) from by kernel_rfl, show sgn 255 1 = -1 from by kernel_rfl]
  kernel_rfl
end Go.Proofs.Ytjlgkebecpagjaa.WordPWordBack
