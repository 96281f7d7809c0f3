import Derived.Test.YtmlfnlmdnhblmaaBase
import Derived.Test.YtmlfnlmdnhblmaaWLast
import Derived.Test.YtmlfnlmdnhblmaaWMore
import Derived.KernelRfl
set_option linter.unusedVariables false
set_option linter.unusedSimpArgs false
namespace Go.Proofs.Ytmlfnlmdnhblmaa.Wd
open Go.RowKit Base Go.Proofs.YtmlfnlmdnhblmaaW.PrintWords Go.Proofs.YtmlfnlmdnhblmaaW.PrintLast Go.Proofs.YtmlfnlmdnhblmaaW.PrintMore
/-- Is it a size? -/
def sz (s : Int) : Bool := s == 1 || s == 2 || s == 4 || s == 8
theorem sz_cases {s : Int} (h : sz s = true) : s = 1 ∨ s = 2 ∨ s = 4 ∨ s = 8 := by
  unfold sz at h
  simp at h
  omega
/-- 256 to a size. -/
def pw (s : Int) : Int := if s = 1 then 256 else if s = 2 then 65536 else if s = 4 then 4294967296 else 18446744073709551616
def hf (s : Int) : Int := if s = 1 then 128 else if s = 2 then 32768 else if s = 4 then 2147483648 else 9223372036854775808
/-- The number with a sign of some lowest bits. -/
def sgn (n s : Int) : Int := if n % pw s < hf s then n % pw s else n % pw s - pw s
theorem u64_mod (x : Int) : IntKind.u64.wrap x = x % 18446744073709551616 := by
  simp [IntKind.wrap, IntKind.bits, IntKind.signed]
theorem sh (x : Int) (n : Nat) (h : n ≤ 64) : shr .u64 x (n : Int) = x / 2 ^ n := by
  unfold shr
  rw [Int.toNat_natCast, show IntKind.u64.bits = 64 from rfl, Nat.min_eq_left h]
theorem shi (x : Int) (n : Nat) (h : n ≤ 64) : shr .i64 x (n : Int) = x / 2 ^ n := by
  unfold shr
  rw [Int.toNat_natCast, show IntKind.i64.bits = 64 from rfl, Nat.min_eq_left h]
theorem sl_ (x : Int) (n : Nat) (h : n ≤ 64) : shl .u64 x (n : Int) = x * 2 ^ n % 18446744073709551616 := by
  unfold shl
  rw [Int.toNat_natCast, show IntKind.u64.bits = 64 from rfl, Nat.min_eq_left h, u64_mod]
theorem of_nat (n : Nat) : BitVec.ofInt 64 (n : Int) = BitVec.ofNat 64 n := by rw [BitVec.ofInt_natCast]
theorem and_pow (n k : Nat) (hn : n < 2 ^ 64) (hk : k ≤ 64) : Go.bits .and .u64 (n : Int) (((2 ^ k - 1 : Nat)) : Int) = ((n % 2 ^ k : Nat) : Int) := by
  have hp : 2 ^ k ≤ 2 ^ 64 := Nat.pow_le_pow_right (by decide) hk
  have hp0 : 0 < 2 ^ k := Nat.pow_pos (by decide)
  show IntKind.u64.wrap (((BitVec.ofInt 64 (n : Int) &&& BitVec.ofInt 64 (((2 ^ k - 1 : Nat)) : Int)).toNat : Nat) : Int) = _
  rw [of_nat, of_nat, BitVec.toNat_and, BitVec.toNat_ofNat, BitVec.toNat_ofNat, Nat.mod_eq_of_lt hn, Nat.mod_eq_of_lt (by omega), Nat.and_two_pow_sub_one_eq_mod, u64_mod]
  have := Nat.mod_lt n hp0
  have h64 : (2 : Nat) ^ 64 = 18446744073709551616 := by decide
  omega
theorem andNot_pow (n k : Nat) (hn : n < 2 ^ 64) (hk : k ≤ 64) : Go.bits .andNot .u64 (n : Int) (((2 ^ k - 1 : Nat)) : Int) = 0 ↔ n < 2 ^ k := by
  have hp : 2 ^ k ≤ 2 ^ 64 := Nat.pow_le_pow_right (by decide) hk
  have hp0 : 0 < 2 ^ k := Nat.pow_pos (by decide)
  have h64 : (2 : Nat) ^ 64 = 18446744073709551616 := by decide
  have e : Go.bits .andNot .u64 (n : Int) (((2 ^ k - 1 : Nat)) : Int) = (((BitVec.ofNat 64 n &&& ~~~ BitVec.ofNat 64 (2 ^ k - 1)).toNat : Nat) : Int) := by
    show IntKind.u64.wrap (((BitVec.ofInt 64 (n : Int) &&& ~~~ BitVec.ofInt 64 (((2 ^ k - 1 : Nat)) : Int)).toNat : Nat) : Int) = _
    rw [of_nat, of_nat, u64_mod]
    have := (BitVec.ofNat 64 n &&& ~~~ BitVec.ofNat 64 (2 ^ k - 1)).isLt
    omega
  rw [e]
  have key : BitVec.ofNat 64 n &&& ~~~ BitVec.ofNat 64 (2 ^ k - 1) = 0#64 ↔ BitVec.ofNat 64 n &&& BitVec.ofNat 64 (2 ^ k - 1) = BitVec.ofNat 64 n := by
    generalize BitVec.ofNat 64 n = x
    generalize BitVec.ofNat 64 (2 ^ k - 1) = m
    constructor
    · intro h
      apply BitVec.eq_of_getLsbD_eq
      intro i hi
      have := congrArg (fun z => z.getLsbD i) h
      simp [hi] at this ⊢
      cases hx : x.getLsbD i <;> cases hm : m.getLsbD i <;> simp_all
    · intro h
      apply BitVec.eq_of_getLsbD_eq
      intro i hi
      have := congrArg (fun z => z.getLsbD i) h
      simp [hi] at this ⊢
      cases hx : x.getLsbD i <;> cases hm : m.getLsbD i <;> simp_all
  have hz : (((BitVec.ofNat 64 n &&& ~~~ BitVec.ofNat 64 (2 ^ k - 1)).toNat : Nat) : Int) = 0 ↔ BitVec.ofNat 64 n &&& ~~~ BitVec.ofNat 64 (2 ^ k - 1) = 0#64 := by
    constructor
    · intro h
      apply BitVec.eq_of_toNat_eq
      simpa using h
    · intro h
      rw [h]
      rfl
  rw [hz, key]
  constructor
  · intro h
    have h := congrArg BitVec.toNat h
    rw [BitVec.toNat_and, BitVec.toNat_ofNat, BitVec.toNat_ofNat, Nat.mod_eq_of_lt hn, Nat.mod_eq_of_lt (by omega), Nat.and_two_pow_sub_one_eq_mod] at h
    have := Nat.mod_lt n hp0
    omega
  · intro h
    apply BitVec.eq_of_toNat_eq
    rw [BitVec.toNat_and, BitVec.toNat_ofNat, BitVec.toNat_ofNat, Nat.mod_eq_of_lt hn, Nat.mod_eq_of_lt (by omega), Nat.and_two_pow_sub_one_eq_mod, Nat.mod_eq_of_lt h]
theorem andNot_mask {a s : Int} (h : sz s = true) (h0 : 0 ≤ a) (h1 : a < 18446744073709551616) : Go.bits .andNot .u64 a (pw s - 1) = 0 ↔ a < pw s := by
  obtain ⟨n, rfl⟩ : ∃ n : Nat, a = (n : Int) := ⟨a.toNat, by omega⟩
  have h64 : (2 : Nat) ^ 64 = 18446744073709551616 := by decide
  rcases sz_cases h with rfl | rfl | rfl | rfl
  · exact (andNot_pow n 8 (by omega) (by decide)).trans (by show n < 256 ↔ (n : Int) < 256; omega)
  · exact (andNot_pow n 16 (by omega) (by decide)).trans (by show n < 65536 ↔ (n : Int) < 65536; omega)
  · exact (andNot_pow n 32 (by omega) (by decide)).trans (by show n < 4294967296 ↔ (n : Int) < 4294967296; omega)
  · exact (andNot_pow n 64 (by omega) (by decide)).trans (by show n < 18446744073709551616 ↔ (n : Int) < 18446744073709551616; omega)
theorem and_mask {a s : Int} (h : sz s = true) (h0 : 0 ≤ a) (h1 : a < 18446744073709551616) : Go.bits .and .u64 a (pw s - 1) = a % pw s := by
  obtain ⟨n, rfl⟩ : ∃ n : Nat, a = (n : Int) := ⟨a.toNat, by omega⟩
  have h64 : (2 : Nat) ^ 64 = 18446744073709551616 := by decide
  rcases sz_cases h with rfl | rfl | rfl | rfl
  · exact (and_pow n 8 (by omega) (by decide)).trans (by show ((n % 256 : Nat) : Int) = (n : Int) % 256; omega)
  · exact (and_pow n 16 (by omega) (by decide)).trans (by show ((n % 65536 : Nat) : Int) = (n : Int) % 65536; omega)
  · exact (and_pow n 32 (by omega) (by decide)).trans (by show ((n % 4294967296 : Nat) : Int) = (n : Int) % 4294967296; omega)
  · exact (and_pow n 64 (by omega) (by decide)).trans (by show ((n % 18446744073709551616 : Nat) : Int) = (n : Int) % 18446744073709551616; omega)
/-- A number's two's complement. -/
def bitv (n s : Int) : Int × Int := if -hf s ≤ n ∧ n < hf s then (n % pw s, 0) else (0, 7)
theorem sgn_back (n s : Int) (h : sz s = true) (h0 : -9223372036854775808 ≤ n) (h1 : n < 9223372036854775808) : sgn (IntKind.u64.wrap n) s = n ↔ (-hf s ≤ n ∧ n < hf s) := by
  rw [u64_mod]
  unfold sgn
  rcases sz_cases h with rfl | rfl | rfl | rfl
  · show (if n % 18446744073709551616 % 256 < 128 then n % 18446744073709551616 % 256 else n % 18446744073709551616 % 256 - 256) = n ↔ (-128 ≤ n ∧ n < 128)
    split <;> omega
  · show (if n % 18446744073709551616 % 65536 < 32768 then n % 18446744073709551616 % 65536 else n % 18446744073709551616 % 65536 - 65536) = n ↔ (-32768 ≤ n ∧ n < 32768)
    split <;> omega
  · show (if n % 18446744073709551616 % 4294967296 < 2147483648 then n % 18446744073709551616 % 4294967296 else n % 18446744073709551616 % 4294967296 - 4294967296) = n ↔ (-2147483648 ≤ n ∧ n < 2147483648)
    split <;> omega
  · show (if n % 18446744073709551616 % 18446744073709551616 < 9223372036854775808 then n % 18446744073709551616 % 18446744073709551616 else n % 18446744073709551616 % 18446744073709551616 - 18446744073709551616) = n ↔ (-9223372036854775808 ≤ n ∧ n < 9223372036854775808)
    split <;> omega
/-- A number's lowest bytes. -/
def le : Int → Nat → List Int
  | _, 0 => []
  | n, k + 1 => n % 256 :: le (n / 256) k
theorem le_len : ∀ (n : Int) (k : Nat), (le n k).length = k
  | _, 0 => rfl
  | n, k + 1 => by rw [le, List.length_cons, le_len]
/-- What Put answers. -/
def putv (n s : Int) : ByteArray × Int := if n < pw s then (strOfNums (le n s.toNat), 0) else (⟨#[]⟩, 7)
theorem shr_8 (a : Int) (i : Nat) (h : i ≤ 8) : shr .u64 a (IntKind.u64.wrap (wrap64 (8 * (i : Int)))) = a / 256 ^ i := by
  have e : IntKind.u64.wrap (wrap64 (8 * (i : Int))) = ((8 * i : Nat) : Int) := by
    rw [u64_mod]
    unfold wrap64
    omega
  rw [e, sh a (8 * i) (by omega), show (256 : Int) = 2 ^ 8 from by decide, ← Int.pow_mul]
/-- The number of bytes, the lowest first. -/
def lev (f : Nat → Int) : Nat → Int
  | 0 => 0
  | k + 1 => f 0 + 256 * lev (fun i => f (i + 1)) k
theorem lev_lo (f : Nat → Int) (hf : ∀ i, 0 ≤ f i ∧ f i ≤ 255) : ∀ k, 0 ≤ lev f k := by
  intro k
  induction k generalizing f with
  | zero => exact Int.le_refl 0
  | succ k ih =>
    have := ih (fun i => f (i + 1)) (fun i => hf (i + 1))
    have := (hf 0).1
    rw [lev]
    omega
theorem lev_hi (f : Nat → Int) (hf : ∀ i, 0 ≤ f i ∧ f i ≤ 255) : ∀ k, lev f k < 256 ^ k := by
  intro k
  induction k generalizing f with
  | zero => simp [lev]
  | succ k ih =>
    have := ih (fun i => f (i + 1)) (fun i => hf (i + 1))
    have := (hf 0).2
    rw [lev, Int.pow_succ]
    omega
theorem lev_snoc (f : Nat → Int) : ∀ k, lev f (k + 1) = lev f k + f k * 256 ^ k := by
  intro k
  induction k generalizing f with
  | zero => simp [lev]
  | succ k ih =>
    rw [lev, ih (fun i => f (i + 1)), lev, Int.pow_succ, Int.mul_add]
    generalize lev (fun i => f (i + 1)) k = x
    generalize (256 : Int) ^ k = p
    have e : f (k + 1) * (p * 256) = 256 * (f (k + 1) * p) := by rw [Int.mul_comm p 256, ← Int.mul_assoc, Int.mul_comm (f (k + 1)) 256, Int.mul_assoc]
    rw [e]
    omega
/-- What Take answers. -/
def takev (b : ByteArray) (at_ s : Int) : Int × Int :=
  if at_ < 0 ∨ (b.size : Int) < at_ then (0, 7) else if (b.size : Int) - at_ < s then (0, 2) else (lev (fun i => bt b (at_ + i)) s.toNat, 0)
theorem or_add (x c : Int) (i : Nat) (hi : i < 8) (hx0 : 0 ≤ x) (hx : x < 256 ^ i) (hc0 : 0 ≤ c) (hc : c ≤ 255) :
    Go.bits .or .u64 x (shl .u64 (IntKind.u64.wrap c) (IntKind.u64.wrap (wrap64 (8 * (i : Int))))) = x + c * 256 ^ i := by
  have e : IntKind.u64.wrap (wrap64 (8 * (i : Int))) = ((8 * i : Nat) : Int) := by
    rw [u64_mod]
    unfold wrap64
    omega
  have ew : IntKind.u64.wrap c = c := by rw [u64_mod]; omega
  obtain ⟨n, rfl⟩ : ∃ n : Nat, x = (n : Int) := ⟨x.toNat, by omega⟩
  obtain ⟨m, rfl⟩ : ∃ m : Nat, c = (m : Int) := ⟨c.toNat, by omega⟩
  have hp : (256 : Int) ^ i = ((2 ^ (8 * i) : Nat) : Int) := by
    rw [Nat.pow_mul]
    simp
  have hn : n < 2 ^ (8 * i) := by rw [hp] at hx; omega
  have hq : 2 ^ (8 * i) ≤ 2 ^ 56 := Nat.pow_le_pow_right (by decide) (by omega)
  have h56 : (2 : Nat) ^ 56 = 72057594037927936 := by decide
  have h64 : (2 : Nat) ^ 64 = 18446744073709551616 := by decide
  have hm : m * 2 ^ (8 * i) ≤ 255 * 2 ^ 56 := Nat.mul_le_mul (by omega) hq
  have hd : m * 2 ^ (8 * i) + 2 ^ (8 * i) ≤ 2 ^ 64 := by
    have h1 : (m + 1) * 2 ^ (8 * i) ≤ 256 * 2 ^ 56 := Nat.mul_le_mul (by omega) hq
    rw [Nat.add_mul, Nat.one_mul] at h1
    omega
  rw [e, ew, sl_ _ (8 * i) (by omega), hp]
  have e2 : (m : Int) * 2 ^ (8 * i) % 18446744073709551616 = ((m * 2 ^ (8 * i) : Nat) : Int) := by
    have e3 : (m : Int) * 2 ^ (8 * i) = ((m * 2 ^ (8 * i) : Nat) : Int) := by simp
    rw [e3]
    generalize m * 2 ^ (8 * i) = y at *
    omega
  rw [e2]
  show IntKind.u64.wrap (((BitVec.ofInt 64 (n : Int) ||| BitVec.ofInt 64 ((m * 2 ^ (8 * i) : Nat) : Int)).toNat : Nat) : Int) = _
  have eor : n ||| (m * 2 ^ (8 * i)) = m * 2 ^ (8 * i) + n := by rw [Nat.or_comm, Nat.mul_comm m, ← Nat.two_pow_add_eq_or_of_lt hn]
  rw [of_nat, of_nat, BitVec.toNat_or, BitVec.toNat_ofNat, BitVec.toNat_ofNat, Nat.mod_eq_of_lt (by omega), Nat.mod_eq_of_lt (by omega), eor, u64_mod]
  have e4 : (m : Int) * ((2 ^ (8 * i) : Nat) : Int) = ((m * 2 ^ (8 * i) : Nat) : Int) := by simp
  rw [e4]
  generalize m * 2 ^ (8 * i) = y at *
  generalize 2 ^ (8 * i) = q at *
  omega
theorem pow_8 (m : Nat) (h : m ≤ 8) : (256 : Int) ^ m ≤ 256 ^ 8 := by
  have : m = 0 ∨ m = 1 ∨ m = 2 ∨ m = 3 ∨ m = 4 ∨ m = 5 ∨ m = 6 ∨ m = 7 ∨ m = 8 := by omega
  rcases this with rfl | rfl | rfl | rfl | rfl | rfl | rfl | rfl | rfl <;> decide
theorem str_app (a b : List Int) : strOfNums a ++ strOfNums b = strOfNums (a ++ b) := by
  apply ByteArray.ext
  simp [strOfNums]
theorem app_empty (t : ByteArray) : t ++ strOfNums [] = t := by
  apply ByteArray.ext
  simp [strOfNums]
theorem empty_app (t : ByteArray) : (⟨#[]⟩ : ByteArray) ++ t = t := by
  apply ByteArray.ext
  simp
theorem app_assoc (a b c : ByteArray) : (a ++ b) ++ c = a ++ (b ++ c) := by
  apply ByteArray.ext
  simp
theorem lev_le : ∀ (k : Nat) (n : Int), 0 ≤ n → n < 256 ^ k → lev (fun i => (le n k).getD i 0) k = n
  | 0, n, h0, h1 => by
    have : (256 : Int) ^ 0 = 1 := rfl
    show 0 = n
    omega
  | k + 1, n, h0, h1 => by
    have hp : (256 : Int) ^ (k + 1) = 256 ^ k * 256 := Int.pow_succ _ _
    have ih := lev_le k (n / 256) (by omega) (by omega)
    rw [lev]
    have e : (fun i => (le n (k + 1)).getD (i + 1) 0) = (fun i => (le (n / 256) k).getD i 0) := by
      funext i
      rw [le]
      simp [List.getD_eq_getElem?_getD]
    rw [e, ih]
    show (le n (k + 1)).getD 0 0 + 256 * (n / 256) = n
    rw [le]
    simp [List.getD_eq_getElem?_getD]
    omega
theorem le_range : ∀ (k : Nat) (n : Int), ∀ x ∈ le n k, 0 ≤ x ∧ x < 256
  | 0, n, x, h => by cases h
  | k + 1, n, x, h => by
    rw [le] at h
    rcases List.mem_cons.1 h with rfl | h
    · omega
    · exact le_range k (n / 256) x h
theorem bt_mid (a b : ByteArray) (xs : List Int) (hx : ∀ x ∈ xs, 0 ≤ x ∧ x < 256) (i : Nat) (hi : i < xs.length) : bt (a ++ strOfNums xs ++ b) ((a.size : Int) + i) = xs.getD i 0 := by
  have e : ((a.size : Int) + i).toNat = a.size + i := by omega
  have hl : a.size + i < (a ++ strOfNums xs ++ b).size := by
    rw [ByteArray.size_append, ByteArray.size_append, strOfNums_size]
    omega
  unfold bt
  rw [e, dif_pos hl]
  have hg : (a ++ strOfNums xs ++ b)[a.size + i] = UInt8.ofNat (xs.getD i 0).toNat := by
    rw [ByteArray.getElem_append_left (by rw [ByteArray.size_append, strOfNums_size]; omega), ByteArray.getElem_append_right (by omega)]
    show (strOfNums xs).data[a.size + i - a.size]'_ = _
    simp [strOfNums, List.getD_eq_getElem?_getD, List.getElem?_eq_getElem hi]
  have hm := hx (xs.getD i 0) (by rw [List.getD_eq_getElem?_getD, List.getElem?_eq_getElem hi]; exact List.getElem_mem hi)
  rw [hg, UInt8.toNat_ofNat']
  omega
theorem lev_congr (f g : Nat → Int) : ∀ k, (∀ i, i < k → f i = g i) → lev f k = lev g k := by
  intro k
  induction k generalizing f g with
  | zero => intro _; rfl
  | succ k ih =>
    intro h
    rw [lev, lev, h 0 (by omega), ih (fun i => f (i + 1)) (fun i => g (i + 1)) (fun i hi => h (i + 1) (by omega))]
theorem pw_pow {s : Int} (h : sz s = true) : (256 : Int) ^ s.toNat = pw s := by
  rcases sz_cases h with rfl | rfl | rfl | rfl <;> kernel_rfl
theorem take_back (a b : ByteArray) (n s : Int) (h : sz s = true) (h0 : 0 ≤ n) (h1 : n < pw s) : takev (a ++ strOfNums (le n s.toNat) ++ b) (a.size : Int) s = (n, 0) := by
  have hs := sz_cases h
  have hsz : (a ++ strOfNums (le n s.toNat) ++ b).size = a.size + s.toNat + b.size := by rw [ByteArray.size_append, ByteArray.size_append, strOfNums_size, le_len]
  unfold takev
  rw [hsz, if_neg (by omega), if_neg (by omega)]
  have e : lev (fun i => bt (a ++ strOfNums (le n s.toNat) ++ b) ((a.size : Int) + i)) s.toNat = lev (fun i => (le n s.toNat).getD i 0) s.toNat :=
    lev_congr _ _ _ (fun i hi => bt_mid a b _ (le_range _ _) i (by rw [le_len]; exact hi))
  rw [e, lev_le s.toNat n h0 (by rw [pw_pow h]; exact h1)]
/-- What only draws changes nothing below. -/
theorem drawn_below {w w' : World} (h : Drawn0 w w') : Below w.heap.size w w' := by
  obtain ⟨n, rfl⟩ := h.out
  exact pw_below_drewN (Below.refl _ _) n
end Go.Proofs.Ytmlfnlmdnhblmaa.Wd
