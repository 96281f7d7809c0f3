import Derived.RowKit
import Derived.OpenShut
set_option linter.unusedVariables false
set_option linter.unusedSimpArgs false
namespace Go.Proofs.Ytkijeknopnjamaa.CrcP
open Go.RowKit
/-- What is laid over the register where a bit falls out. -/
def P : BitVec 32 := 0xedb88320#32
/-- A bit falls out. -/
def sh (x : BitVec 32) : BitVec 32 := (x >>> 1) ^^^ (if x.getLsbD 0 then P else 0#32)
/-- A bit of the text. -/
def bit (b : Bool) : BitVec 32 := if b then 1#32 else 0#32
def feed (r : BitVec 32) (b : Bool) : BitVec 32 := sh (r ^^^ bit b)
def shN : Nat → BitVec 32 → BitVec 32
  | 0, x => x
  | n + 1, x => shN n (sh x)
/-- The number in a register. -/
def num (x : BitVec 32) : Int := (x.toNat : Int)
theorem num_lo (x : BitVec 32) : 0 ≤ num x := Int.natCast_nonneg _
theorem num_hi (x : BitVec 32) : num x < 4294967296 := by
  have := x.isLt
  unfold num
  omega
theorem num_inj {x y : BitVec 32} (h : num x = num y) : x = y := BitVec.eq_of_toNat_eq (by unfold num at h; omega)

theorem sh_zero : sh 0#32 = 0#32 := by decide
theorem sh_xor (x y : BitVec 32) : sh (x ^^^ y) = sh x ^^^ sh y := by
  unfold sh
  have h : (x ^^^ y) >>> 1 = (x >>> 1) ^^^ (y >>> 1) := by
    apply BitVec.eq_of_getLsbD_eq
    intro i hi
    simp
  rw [h, BitVec.getLsbD_xor]
  cases x.getLsbD 0 <;> cases y.getLsbD 0 <;> simp [BitVec.xor_assoc]
  · exact BitVec.xor_comm _ _
  · rw [← BitVec.xor_assoc, BitVec.xor_comm P, BitVec.xor_assoc, BitVec.xor_self, BitVec.xor_zero]
theorem shN_xor (n : Nat) : ∀ x y : BitVec 32, shN n (x ^^^ y) = shN n x ^^^ shN n y := by
  induction n with
  | zero => intro x y; rfl
  | succ n ih => intro x y; simp only [shN, sh_xor, ih]
theorem shN_zero (n : Nat) : shN n 0#32 = 0#32 := by
  induction n with
  | zero => rfl
  | succ n ih => simp only [shN, sh_zero, ih]
/-- Nothing but 0 becomes 0. -/
theorem sh_eq_zero {x : BitVec 32} (h : sh x = 0#32) : x = 0#32 := by
  have h31 : (sh x).getLsbD 31 = x.getLsbD 0 := by
    unfold sh
    cases hx : x.getLsbD 0 <;> simp [P]
  have h0 : x.getLsbD 0 = false := by rw [← h31, h]; rfl
  have h1 : x >>> 1 = 0#32 := by
    unfold sh at h
    rw [h0] at h
    simpa using h
  apply BitVec.eq_of_getLsbD_eq
  intro i hi
  rcases Nat.eq_zero_or_pos i with rfl | hp
  · simpa using h0
  · have := congrArg (fun z => z.getLsbD (i - 1)) h1
    simp at this
    rw [show 1 + (i - 1) = i from by omega] at this
    simpa using this
theorem shN_eq_zero (n : Nat) : ∀ {x : BitVec 32}, shN n x = 0#32 → x = 0#32 := by
  induction n with
  | zero => intro x h; exact h
  | succ n ih => intro x h; exact sh_eq_zero (ih h)

/-! the walk's own words -/
theorem ofInt_num (x : BitVec 32) : BitVec.ofInt 32 (num x) = x := by
  unfold num
  rw [BitVec.ofInt_natCast, BitVec.ofNat_toNat, BitVec.setWidth_eq]
theorem wrap_num (x : BitVec 32) : IntKind.u32.wrap (num x) = num x := by
  have h0 := num_lo x
  have h1 := num_hi x
  simp [IntKind.wrap, IntKind.bits, IntKind.signed]
  omega
theorem num_xor (x y : BitVec 32) : bits .xor .u32 (num x) (num y) = num (x ^^^ y) := by
  show IntKind.u32.wrap (num (BitVec.ofInt 32 (num x) ^^^ BitVec.ofInt 32 (num y))) = _
  rw [ofInt_num, ofInt_num, wrap_num]
theorem num_lsb (x : BitVec 32) : num x % 2 = if x.getLsbD 0 then 1 else 0 := by
  unfold num
  rw [BitVec.getLsbD, Nat.testBit_zero]
  rcases Nat.mod_two_eq_zero_or_one x.toNat with h | h <;> simp [h] <;> omega
theorem num_odd (x : BitVec 32) : (bits .and .u32 (num x) 1 == 1) = x.getLsbD 0 := by
  have h : bits .and .u32 (num x) 1 = num (x &&& 1#32) := by
    show IntKind.u32.wrap (num (BitVec.ofInt 32 (num x) &&& BitVec.ofInt 32 1)) = _
    rw [ofInt_num, wrap_num]
    rfl
  rw [h]
  have h1 : num (x &&& 1#32) = num x % 2 := by
    unfold num
    rw [BitVec.toNat_and]
    show ((x.toNat &&& 1 : Nat) : Int) = _
    rw [Nat.and_one_is_mod]
    omega
  rw [h1, num_lsb]
  cases x.getLsbD 0 <;> rfl
theorem num_half (x : BitVec 32) : num x / (2 : Int) = num (x >>> (1 : Nat)) := by
  unfold num
  rw [BitVec.toNat_ushiftRight, Nat.shiftRight_eq_div_pow]
  omega
theorem num_P : num P = 3988292384 := by decide
/-- A round of the program's loop. -/
theorem round_odd (x : BitVec 32) (h : x.getLsbD 0 = true) : bits .xor .u32 (num x / 2) 3988292384 = num (sh x) := by
  rw [num_half, ← num_P, num_xor]
  unfold sh
  rw [h]
  rfl
theorem round_even (x : BitVec 32) (h : x.getLsbD 0 = false) : num x / 2 = num (sh x) := by
  rw [num_half]
  unfold sh
  rw [h]
  simp
theorem num_byte (c : UInt8) : (c.toNat : Int) = num (c.toBitVec.setWidth 32) := by
  unfold num
  rw [BitVec.toNat_setWidth]
  have := c.toNat_lt
  show (c.toNat : Int) = ((c.toNat % 2 ^ 32 : Nat) : Int)
  rw [Nat.mod_eq_of_lt (by omega)]
theorem num_not (x : BitVec 32) : bits .xor .u32 IntKind.u32.max (num x) = num (~~~ x) := by
  have h : IntKind.u32.max = num (BitVec.allOnes 32) := by decide
  rw [h, num_xor, BitVec.allOnes_xor]

/-- A byte. -/
def stepB (r : BitVec 32) (c : UInt8) : BitVec 32 := shN 8 (r ^^^ c.toBitVec.setWidth 32)
def stepL (r : BitVec 32) (l : List UInt8) : BitVec 32 := l.foldl stepB r
/-- The sum of what a sum is of, with a text behind. -/
def more (x : BitVec 32) (l : List UInt8) : BitVec 32 := ~~~ (stepL (~~~ x) l)
def sum (l : List UInt8) : BitVec 32 := more 0#32 l
theorem more_append (x : BitVec 32) (a b : List UInt8) : more (more x a) b = more x (a ++ b) := by
  unfold more stepL
  rw [BitVec.not_not, List.foldl_append]
theorem more_nil (x : BitVec 32) : more x [] = x := by
  unfold more stepL
  simp
theorem sum_append (a b : List UInt8) : more (sum a) b = sum (a ++ b) := more_append _ _ _
end Go.Proofs.Ytkijeknopnjamaa.CrcP
