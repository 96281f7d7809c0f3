import Derived.Test.YtjlgkebecpagjaaPWordBackx1
import Derived.Test.YtjlgkebecpagjaaBase
import Derived.KernelRfl
set_option linter.unusedVariables false
set_option linter.unusedSimpArgs false
namespace Go.Proofs.Ytjlgkebecpagjaa.WordPWordBack
open Go.RowKit Go.Proofs.YtjlgkebecpagjaaW.PrintWords Go.Proofs.YtjlgkebecpagjaaW.PrintLast Go.Proofs.Ytjlgkebecpagjaa.PWordBack
/-- Is it a size? -/
def sz (s : Int) : Bool := s == 1 || s == 2 || s == 4 || s == 8
theorem sz_cases {s : Int} (h : sz s = true) : s = 1 ∨ s = 2 ∨ s = 4 ∨ s = 8 := by
  unfold sz at h
  simp at h
  omega
theorem sized_eq (s : Int) : word_sized.f s = some (sz s) := by
  unfold word_sized.f sz
  by_cases h1 : s = 1
  · simp [h1]
  · by_cases h2 : s = 2
    · simp [h2]
    · by_cases h4 : s = 4
      · simp [h4]
      · simp [h1, h2, h4]
/-- 256 to a size. -/
def pw (s : Int) : Int := if s = 1 then 256 else if s = 2 then 65536 else if s = 4 then 4294967296 else 18446744073709551616
def hf (s : Int) : Int := if s = 1 then 128 else if s = 2 then 32768 else if s = 4 then 2147483648 else 9223372036854775808
/-- The number with a sign of some lowest bits. -/
def sgn (n s : Int) : Int := if n % pw s < hf s then n % pw s else n % pw s - pw s
theorem u64_mod (x : Int) : IntKind.u64.wrap x = x % 18446744073709551616 := by
  simp [IntKind.wrap, IntKind.bits, IntKind.signed]
theorem sh (x : Int) (n : Nat) (h : n ≤ 64) : shr .u64 x (n : Int) = x / 2 ^ n := by
  unfold shr
  rw [Int.toNat_natCast, show IntKind.u64.bits = 64 from rfl, Nat.min_eq_left h]
theorem shi (x : Int) (n : Nat) (h : n ≤ 64) : shr .i64 x (n : Int) = x / 2 ^ n := by
  unfold shr
  rw [Int.toNat_natCast, show IntKind.i64.bits = 64 from rfl, Nat.min_eq_left h]
theorem sl_ (x : Int) (n : Nat) (h : n ≤ 64) : shl .u64 x (n : Int) = x * 2 ^ n % 18446744073709551616 := by
  unfold shl
  rw [Int.toNat_natCast, show IntKind.u64.bits = 64 from rfl, Nat.min_eq_left h, u64_mod]
theorem sign_1 (n : Int) : word_Sign.f n 1 = some (sgn n 1) := by
  unfold word_Sign.f
  rw [sized_eq, show sz 1 = true from rfl, Option.bind_some, if_pos rfl, show IntKind.u64.wrap (wrap64 (64 - wrap64 (8 * 1))) = ((56 : Nat) : Int) from by kernel_rfl, if_pos (by decide), shi _ _ (by decide), sl_ _ _ (by decide)]
  congr 1
  unfold sgn pw hf wrap64
  simp only [if_true]
  omega
theorem sign_2 (n : Int) : word_Sign.f n 2 = some (sgn n 2) := by
  unfold word_Sign.f
  rw [sized_eq, show sz 2 = true from rfl, Option.bind_some, if_pos rfl, show IntKind.u64.wrap (wrap64 (64 - wrap64 (8 * 2))) = ((48 : Nat) : Int) from by kernel_rfl, if_pos (by decide), shi _ _ (by decide), sl_ _ _ (by decide)]
  congr 1
  unfold sgn pw hf wrap64
  simp
  omega
theorem sign_4 (n : Int) : word_Sign.f n 4 = some (sgn n 4) := by
  unfold word_Sign.f
  rw [sized_eq, show sz 4 = true from rfl, Option.bind_some, if_pos rfl, show IntKind.u64.wrap (wrap64 (64 - wrap64 (8 * 4))) = ((32 : Nat) : Int) from by kernel_rfl, if_pos (by decide), shi _ _ (by decide), sl_ _ _ (by decide)]
  congr 1
  unfold sgn pw hf wrap64
  simp
  omega
theorem sign_8 (n : Int) : word_Sign.f n 8 = some (sgn n 8) := by
  unfold word_Sign.f
  rw [sized_eq, show sz 8 = true from rfl, Option.bind_some, if_pos rfl, show IntKind.u64.wrap (wrap64 (64 - wrap64 (8 * 8))) = ((0 : Nat) : Int) from by kernel_rfl, if_pos (by decide), shi _ _ (by decide), sl_ _ _ (by decide)]
  congr 1
  unfold sgn pw hf wrap64
  simp
  omega
theorem sign_eq (n s : Int) : word_Sign.f n s = some (if sz s then sgn n s else 0) := by
  cases h : sz s with
  | false =>
    unfold word_Sign.f
    rw [sized_eq, h]
    rfl
  | true =>
    rcases sz_cases h with rfl | rfl | rfl | rfl
    · exact sign_1 n
    · exact sign_2 n
    · exact sign_4 n
    · exact sign_8 n
theorem mask_eq {s : Int} (h : sz s = true) : word_mask.f s = some (pw s - 1) := by
  rcases sz_cases h with rfl | rfl | rfl | rfl <;> kernel_rfl
theorem of_nat (n : Nat) : BitVec.ofInt 64 (n : Int) = BitVec.ofNat 64 n := by rw [BitVec.ofInt_natCast]
theorem and_pow (n k : Nat) (hn : n < 2 ^ 64) (hk : k ≤ 64) : Go.bits .and .u64 (n : Int) (((2 ^ k - 1 : Nat)) : Int) = ((n % 2 ^ k : Nat) : Int) := by
  have hp : 2 ^ k ≤ 2 ^ 64 := Nat.pow_le_pow_right (by decide) hk
  have hp0 : 0 < 2 ^ k := Nat.pow_pos (by decide)
  show IntKind.u64.wrap (((BitVec.ofInt 64 (n : Int) &&& BitVec.ofInt 64 (((2 ^ k - 1 : Nat)) : Int)).toNat : Nat) : Int) = _
  rw [of_nat, of_nat, BitVec.toNat_and, BitVec.toNat_ofNat, BitVec.toNat_ofNat, Nat.mod_eq_of_lt hn, Nat.mod_eq_of_lt (by omega), Nat.and_two_pow_sub_one_eq_mod, u64_mod]
  have := Nat.mod_lt n hp0
  have h64 : (2 : Nat) ^ 64 = 18446744073709551616 := by decide
  omega
theorem andNot_pow (n k : Nat) (hn : n < 2 ^ 64) (hk : k ≤ 64) : Go.bits .andNot .u64 (n : Int) (((2 ^ k - 1 : Nat)) : Int) = 0 ↔ n < 2 ^ k := by
  have hp : 2 ^ k ≤ 2 ^ 64 := Nat.pow_le_pow_right (by decide) hk
  have hp0 : 0 < 2 ^ k := Nat.pow_pos (by decide)
  have h64 : (2 : Nat) ^ 64 = 18446744073709551616 := by decide
  have e : Go.bits .andNot .u64 (n : Int) (((2 ^ k - 1 : Nat)) : Int) = (((BitVec.ofNat 64 n &&& ~~~ BitVec.ofNat 64 (2 ^ k - 1)).toNat : Nat) : Int) := by
    show IntKind.u64.wrap (((BitVec.ofInt 64 (n : Int) &&& ~~~ BitVec.ofInt 64 (((2 ^ k - 1 : Nat)) : Int)).toNat : Nat) : Int) = _
    rw [of_nat, of_nat, u64_mod]
    have := (BitVec.ofNat 64 n &&& ~~~ BitVec.ofNat 64 (2 ^ k - 1)).isLt
    omega
  rw [e]
  have key : BitVec.ofNat 64 n &&& ~~~ BitVec.ofNat 64 (2 ^ k - 1) = 0#64 ↔ BitVec.ofNat 64 n &&& BitVec.ofNat 64 (2 ^ k - 1) = BitVec.ofNat 64 n := by
    generalize BitVec.ofNat 64 n = x
    generalize BitVec.ofNat 64 (2 ^ k - 1) = m
    constructor
    · intro h
      apply BitVec.eq_of_getLsbD_eq
      intro i hi
      have := congrArg (fun z => z.getLsbD i) h
      simp [hi] at this ⊢
      cases hx : x.getLsbD i <;> cases hm : m.getLsbD i <;> simp_all
    · intro h
      apply BitVec.eq_of_getLsbD_eq
      intro i hi
      have := congrArg (fun z => z.getLsbD i) h
      simp [hi] at this ⊢
      cases hx : x.getLsbD i <;> cases hm : m.getLsbD i <;> simp_all
  have hz : (((BitVec.ofNat 64 n &&& ~~~ BitVec.ofNat 64 (2 ^ k - 1)).toNat : Nat) : Int) = 0 ↔ BitVec.ofNat 64 n &&& ~~~ BitVec.ofNat 64 (2 ^ k - 1) = 0#64 := by
    constructor
    · intro h
      apply BitVec.eq_of_toNat_eq
      simpa using h
    · intro h
      rw [h]
      rfl
  rw [hz, key]
  constructor
  · intro h
    have h := congrArg BitVec.toNat h
    rw [BitVec.toNat_and, BitVec.toNat_ofNat, BitVec.toNat_ofNat, Nat.mod_eq_of_lt hn, Nat.mod_eq_of_lt (by omega), Nat.and_two_pow_sub_one_eq_mod] at h
    have := Nat.mod_lt n hp0
    omega
  · intro h
    apply BitVec.eq_of_toNat_eq
    rw [BitVec.toNat_and, BitVec.toNat_ofNat, BitVec.toNat_ofNat, Nat.mod_eq_of_lt hn, Nat.mod_eq_of_lt (by omega), Nat.and_two_pow_sub_one_eq_mod, Nat.mod_eq_of_lt h]
theorem andNot_mask {a s : Int} (h : sz s = true) (h0 : 0 ≤ a) (h1 : a < 18446744073709551616) : Go.bits .andNot .u64 a (pw s - 1) = 0 ↔ a < pw s := by
  obtain ⟨n, rfl⟩ : ∃ n : Nat, a = (n : Int) := ⟨a.toNat, by omega⟩
  have h64 : (2 : Nat) ^ 64 = 18446744073709551616 := by decide
  rcases sz_cases h with rfl | rfl | rfl | rfl
  · exact (andNot_pow n 8 (by omega) (by decide)).trans (by show n < 256 ↔ (n : Int) < 256; omega)
  · exact (andNot_pow n 16 (by omega) (by decide)).trans (by show n < 65536 ↔ (n : Int) < 65536; omega)
  · exact (andNot_pow n 32 (by omega) (by decide)).trans (by show n < 4294967296 ↔ (n : Int) < 4294967296; omega)
  · exact (andNot_pow n 64 (by omega) (by decide)).trans (by show n < 18446744073709551616 ↔ (n : Int) < 18446744073709551616; omega)
theorem and_mask {a s : Int} (h : sz s = true) (h0 : 0 ≤ a) (h1 : a < 18446744073709551616) : Go.bits .and .u64 a (pw s - 1) = a % pw s := by
  obtain ⟨n, rfl⟩ : ∃ n : Nat, a = (n : Int) := ⟨a.toNat, by omega⟩
  have h64 : (2 : Nat) ^ 64 = 18446744073709551616 := by decide
  rcases sz_cases h with rfl | rfl | rfl | rfl
  · exact (and_pow n 8 (by omega) (by decide)).trans (by show ((n % 256 : Nat) : Int) = (n : Int) % 256; omega)
  · exact (and_pow n 16 (by omega) (by decide)).trans (by show ((n % 65536 : Nat) : Int) = (n : Int) % 65536; omega)
  · exact (and_pow n 32 (by omega) (by decide)).trans (by show ((n % 4294967296 : Nat) : Int) = (n : Int) % 4294967296; omega)
  · exact (and_pow n 64 (by omega) (by decide)).trans (by show ((n % 18446744073709551616 : Nat) : Int) = (n : Int) % 18446744073709551616; omega)
/-- A number's two's complement. -/
def bitv (n s : Int) : Int × Int := if -hf s ≤ n ∧ n < hf s then (n % pw s, 0) else (0, 7)
theorem sgn_back (n s : Int) (h : sz s = true) (h0 : -9223372036854775808 ≤ n) (h1 : n < 9223372036854775808) : sgn (IntKind.u64.wrap n) s = n ↔ (-hf s ≤ n ∧ n < hf s) := by
  rw [u64_mod]
  unfold sgn
  rcases sz_cases h with rfl | rfl | rfl | rfl
  · show (if n % 18446744073709551616 % 256 < 128 then n % 18446744073709551616 % 256 else n % 18446744073709551616 % 256 - 256) = n ↔ (-128 ≤ n ∧ n < 128)
    split <;> omega
  · show (if n % 18446744073709551616 % 65536 < 32768 then n % 18446744073709551616 % 65536 else n % 18446744073709551616 % 65536 - 65536) = n ↔ (-32768 ≤ n ∧ n < 32768)
    split <;> omega
  · show (if n % 18446744073709551616 % 4294967296 < 2147483648 then n % 18446744073709551616 % 4294967296 else n % 18446744073709551616 % 4294967296 - 4294967296) = n ↔ (-2147483648 ≤ n ∧ n < 2147483648)
    split <;> omega
  · show (if n % 18446744073709551616 % 18446744073709551616 < 9223372036854775808 then n % 18446744073709551616 % 18446744073709551616 else n % 18446744073709551616 % 18446744073709551616 - 18446744073709551616) = n ↔ (-9223372036854775808 ≤ n ∧ n < 9223372036854775808)
    split <;> omega
theorem bits_eq (n s : Int) (h0 : -9223372036854775808 ≤ n) (h1 : n < 9223372036854775808) : word_Bits.f n s = some (if sz s then bitv n s else (0, 4)) := by
  unfold word_Bits.f
  rw [sized_eq, Option.bind_some]
  cases h : sz s with
  | false => rfl
  | true =>
    rw [if_pos rfl, sign_eq, h, if_pos rfl, Option.bind_some, if_pos rfl]
    unfold bitv
    by_cases hb : -hf s ≤ n ∧ n < hf s
    · rw [if_pos ((sgn_back n s h h0 h1).2 hb), if_pos hb, mask_eq h, Option.bind_some, and_mask h (by rw [u64_mod]; omega) (by rw [u64_mod]; omega), u64_mod]
      congr 2
      rcases sz_cases h with rfl | rfl | rfl | rfl
      · show n % 18446744073709551616 % 256 = n % 256; omega
      · show n % 18446744073709551616 % 65536 = n % 65536; omega
      · show n % 18446744073709551616 % 4294967296 = n % 4294967296; omega
      · show n % 18446744073709551616 % 18446744073709551616 = n % 18446744073709551616; omega
    · rw [if_neg (fun h' => hb ((sgn_back n s h h0 h1).1 h')), if_neg hb]
end Go.Proofs.Ytjlgkebecpagjaa.WordPWordBack
