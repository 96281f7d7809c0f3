import Derived.Test.YtkijeknopnjamaaCrcPure
set_option linter.unusedVariables false
set_option linter.unusedSimpArgs false
namespace Go.Proofs.Ytkijeknopnjamaa.CrcP
open Go.RowKit

theorem sh_bit (x : BitVec 32) (j : Nat) (hj : j < 32) : (sh x).getLsbD j = (x.getLsbD (j + 1) != (x.getLsbD 0 && P.getLsbD j)) := by
  unfold sh
  rw [BitVec.getLsbD_xor, BitVec.getLsbD_ushiftRight, Nat.add_comm 1 j]
  cases x.getLsbD 0 <;> simp
theorem bit_get (b : Bool) (j : Nat) : (bit b).getLsbD j = (b && decide (j = 0)) := by
  cases b
  · simp [bit]
  · cases j with
    | zero => rfl
    | succ j => simp [bit, BitVec.getLsbD_one]
theorem feed_bit (r : BitVec 32) (b : Bool) (j : Nat) (hj : j < 32) : (feed r b).getLsbD j = (r.getLsbD (j + 1) != ((r.getLsbD 0 != b) && P.getLsbD j)) := by
  unfold feed
  rw [sh_bit _ _ hj, BitVec.getLsbD_xor, BitVec.getLsbD_xor, bit_get, bit_get]
  cases b <;> simp

/-! bytes as bits, the lowest first -/
def bitsN (c : Nat) : Nat → Nat → List Bool
  | 0, _ => []
  | m + 1, j => c.testBit j :: bitsN c m (j + 1)
def bitsB (c : UInt8) : List Bool := bitsN c.toNat 8 0
def bitsL (l : List UInt8) : List Bool := l.flatMap bitsB
theorem bitsN_len (c m j : Nat) : (bitsN c m j).length = m := by
  induction m generalizing j with
  | zero => rfl
  | succ m ih => simp [bitsN, ih]
theorem bitsL_len (l : List UInt8) : (bitsL l).length = 8 * l.length := by
  induction l with
  | nil => rfl
  | cons c l ih =>
    have := bitsN_len c.toNat 8 0
    simp only [bitsL, List.flatMap_cons, List.length_append, List.length_cons] at *
    rw [ih]
    simp only [bitsB, this]
    omega

theorem sh_double (y : BitVec 32) (h : y.getLsbD 31 = false) : sh (y <<< 1) = y := by
  apply BitVec.eq_of_getLsbD_eq
  intro i hi
  rw [sh_bit _ _ hi]
  simp
  by_cases h31 : i = 31
  · subst h31
    rw [BitVec.getLsbD_eq_getElem (by omega)] at h
    simp [h]
  · intro hc; omega
theorem split_bit (c j : Nat) (hc : c < 256) : (BitVec.ofNat 32 (c >>> j)) = bit (c.testBit j) ^^^ ((BitVec.ofNat 32 (c >>> (j + 1))) <<< 1) := by
  apply BitVec.eq_of_getLsbD_eq
  intro i hi
  rw [BitVec.getLsbD_xor, bit_get, BitVec.getLsbD_shiftLeft]
  simp only [BitVec.getLsbD_ofNat, Nat.testBit_shiftRight, hi, decide_true, Bool.true_and]
  cases i with
  | zero => simp
  | succ i =>
    have e : j + 1 + (i + 1 - 1) = j + (i + 1) := by omega
    have e2 : j + 1 + i = j + (i + 1) := by omega
    have e3 : i < 32 := by omega
    simp [e2, e3]
theorem feeds (c : Nat) (hc : c < 256) (m : Nat) : ∀ (r : BitVec 32) (j : Nat), (bitsN c m j).foldl feed r = shN m (r ^^^ BitVec.ofNat 32 (c >>> j)) ^^^ (BitVec.ofNat 32 (c >>> (j + m))) := by
  induction m with
  | zero => intro r j; simp [bitsN, shN, BitVec.xor_assoc]
  | succ m ih =>
    intro r j
    rw [bitsN, List.foldl_cons, ih, shN, split_bit c j hc, ← BitVec.xor_assoc, sh_xor, sh_double]
    · unfold feed
      rw [show j + 1 + m = j + (m + 1) from by omega]
    · have : c >>> (j + 1) < 2 ^ 31 := by
        rw [Nat.shiftRight_eq_div_pow]
        exact Nat.lt_of_le_of_lt (Nat.div_le_self _ _) (by omega)
      rw [BitVec.getLsbD_ofNat, Nat.testBit_lt_two_pow this]
      rfl
theorem stepB_feeds (r : BitVec 32) (c : UInt8) : (bitsB c).foldl feed r = stepB r c := by
  have hc : c.toNat < 256 := c.toNat_lt
  unfold bitsB stepB
  rw [feeds _ hc]
  have h8 : c.toNat >>> (0 + 8) = 0 := by rw [Nat.shiftRight_eq_div_pow]; omega
  rw [h8]
  have h0 : BitVec.ofNat 32 (c.toNat >>> 0) = c.toBitVec.setWidth 32 := by
    apply BitVec.eq_of_toNat_eq
    simp
  rw [h0]
  simp
theorem stepL_feeds (l : List UInt8) : ∀ r : BitVec 32, (bitsL l).foldl feed r = stepL r l := by
  induction l with
  | nil => intro r; rfl
  | cons c l ih =>
    intro r
    show ((bitsB c) ++ bitsL l).foldl feed r = _
    rw [List.foldl_append, stepB_feeds, ih]
    rfl

/-! the long division -/
def G (l : List Bool) (m : Nat) : Bool := l.getD m false
theorem G_set (l : List Bool) (a m : Nat) (v : Bool) (ha : a < l.length) : G (l.set a v) m = if m = a then v else G l m := by
  unfold G
  rw [List.getD_eq_getElem?_getD, List.getD_eq_getElem?_getD, List.getElem?_set]
  by_cases h : a = m
  · subst h; simp [ha]
  · have h' : m ≠ a := fun e => h e.symm
    simp [h, h']
def xorN (l p : List Bool) (i : Nat) : Nat → List Bool
  | 0 => l
  | j + 1 => (xorN l p i j).set (i + j) (G (xorN l p i j) (i + j) != G p j)
theorem xorN_len (l p : List Bool) (i j : Nat) : (xorN l p i j).length = l.length := by
  induction j with
  | zero => rfl
  | succ j ih => rw [xorN, List.length_set, ih]
theorem xorN_get (l p : List Bool) (i j : Nat) (h : i + j ≤ l.length) (m : Nat) : G (xorN l p i j) m = if i ≤ m ∧ m < i + j then (G l m != G p (m - i)) else G l m := by
  induction j with
  | zero => rw [xorN, if_neg (by omega)]
  | succ j ih =>
    rw [xorN, G_set _ _ _ _ (by rw [xorN_len]; omega)]
    have ih := ih (by omega)
    by_cases hm : m = i + j
    · subst hm
      rw [if_pos rfl, if_pos (by omega), ih, if_neg (by omega)]
      rw [show i + j - i = j from by omega]
    · rw [if_neg hm, ih]
      by_cases hc : i ≤ m ∧ m < i + j
      · rw [if_pos hc, if_pos (by omega)]
      · rw [if_neg hc, if_neg (by omega)]
def polyL : List Bool := [true, false, false, false, false, false, true, false, false, true, true, false, false, false, false, false, true, false, false, false, true, true, true, false, true, true, false, true, true, false, true, true, true]
theorem poly_P : ∀ j : Fin 32, P.getLsbD j.val = G polyL (j.val + 1) := by decide
theorem poly_0 : G polyL 0 = true := by decide
/-- The window: what stands from place i on is the text's bits with the register laid over the first 32. -/
def Win (d l : List Bool) (i : Nat) (r : BitVec 32) : Prop := l.length = d.length ∧ ∀ j, i + j < d.length → G l (i + j) = (G d (i + j) != r.getLsbD j)
theorem win_step {d l : List Bool} {i : Nat} {r : BitVec 32} (h : Win d l i r) (hi : i + 33 ≤ d.length) :
    Win d (if G l i = true then xorN l polyL i 33 else l) (i + 1) (feed r (G d i)) := by
  obtain ⟨hl, hw⟩ := h
  have h0 := hw 0 (by omega)
  rw [Nat.add_zero] at h0
  refine ⟨by split <;> simp [xorN_len, hl], fun j hj => ?_⟩
  have h1 := hw (j + 1) (by omega)
  rw [show i + (j + 1) = i + 1 + j from by omega] at h1
  rcases Nat.lt_or_ge j 32 with h32 | h32
  · rw [feed_bit _ _ _ h32, poly_P ⟨j, h32⟩]
    by_cases ht : G l i = true
    · rw [if_pos ht, xorN_get _ _ _ _ (by omega), if_pos (by omega), h1, show i + 1 + j - i = j + 1 from by omega]
      rw [ht] at h0
      have h2 : (r.getLsbD 0 != G d i) = true := by rw [h0]; cases G d i <;> cases r.getLsbD 0 <;> rfl
      rw [h2]
      cases G d (i + 1 + j) <;> cases r.getLsbD (j + 1) <;> cases G polyL (j + 1) <;> rfl
    · rw [if_neg ht, h1]
      have ht' : G l i = false := by simpa using ht
      rw [ht'] at h0
      have h2 : (r.getLsbD 0 != G d i) = false := by rw [h0]; cases G d i <;> cases r.getLsbD 0 <;> rfl
      rw [h2]
      cases G d (i + 1 + j) <;> cases r.getLsbD (j + 1) <;> rfl
  · have hz : ∀ y : BitVec 32, y.getLsbD j = false := fun y => BitVec.getLsbD_of_ge y j (by omega)
    have hz1 : r.getLsbD (j + 1) = false := BitVec.getLsbD_of_ge r (j + 1) (by omega)
    rw [hz]
    rw [hz1] at h1
    by_cases ht : G l i = true
    · rw [if_pos ht, xorN_get _ _ _ _ (by omega), if_neg (by omega), h1]
    · rw [if_neg ht, h1]

/-! the first 32 turned; what is read at last -/
def flipN (l : List Bool) : Nat → List Bool
  | 0 => l
  | k + 1 => (flipN l k).set k (!(G (flipN l k) k))
theorem flipN_len (l : List Bool) (k : Nat) : (flipN l k).length = l.length := by
  induction k with
  | zero => rfl
  | succ k ih => rw [flipN, List.length_set, ih]
theorem flipN_get (l : List Bool) (k : Nat) (h : k ≤ l.length) (m : Nat) : G (flipN l k) m = if m < k then !(G l m) else G l m := by
  induction k with
  | zero => rw [flipN, if_neg (by omega)]
  | succ k ih =>
    have ih := ih (by omega)
    rw [flipN, G_set _ _ _ _ (by rw [flipN_len]; omega)]
    by_cases hm : m = k
    · subst hm
      rw [if_pos rfl, if_pos (by omega), ih, if_neg (by omega)]
    · rw [if_neg hm, ih]
      by_cases hc : m < k
      · rw [if_pos hc, if_pos (by omega)]
      · rw [if_neg hc, if_neg (by omega)]
/-- The text's bits, with 32 bits 0 behind. -/
def data (l : List UInt8) : List Bool := bitsL l ++ List.replicate 32 false
theorem data_len (l : List UInt8) : (data l).length = 8 * l.length + 32 := by simp [data, bitsL_len]
theorem win_start (l : List UInt8) : Win (data l) (flipN (data l) 32) 0 (BitVec.allOnes 32) := by
  have hl := data_len l
  refine ⟨flipN_len _ _, fun j hj => ?_⟩
  rw [Nat.zero_add] at *
  rw [flipN_get _ _ (by omega)]
  by_cases h : j < 32
  · rw [if_pos h, BitVec.getLsbD_allOnes]
    simp [h]
  · rw [if_neg h, BitVec.getLsbD_of_ge _ _ (by omega)]
    simp
/-- The register behind some bits. -/
def reg (l : List UInt8) (i : Nat) : BitVec 32 := ((bitsL l).take i).foldl feed (BitVec.allOnes 32)
theorem reg_succ (l : List UInt8) (i : Nat) (h : i < (bitsL l).length) : reg l (i + 1) = feed (reg l i) (G (data l) i) := by
  unfold reg
  rw [List.take_succ_eq_append_getElem h, List.foldl_append]
  have : G (data l) i = (bitsL l)[i] := by
    unfold G data
    rw [List.getD_eq_getElem?_getD, List.getElem?_append_left h, List.getElem?_eq_getElem h]
    rfl
  rw [this]
  rfl
theorem reg_end (l : List UInt8) (i : Nat) (h : (bitsL l).length ≤ i) : reg l i = stepL (BitVec.allOnes 32) l := by
  unfold reg
  rw [List.take_of_length_le h, stepL_feeds]
theorem data_tail (l : List UInt8) (j : Nat) : G (data l) (8 * l.length + j) = false := by
  unfold G data
  rw [List.getD_eq_getElem?_getD, List.getElem?_append_right (by rw [bitsL_len]; omega)]
  by_cases h : 8 * l.length + j - (bitsL l).length < 32
  · rw [List.getElem?_replicate, if_pos h]
    rfl
  · rw [List.getElem?_eq_none (by rw [List.length_replicate]; omega)]
    rfl
theorem win_end {l : List UInt8} {x : List Bool} {r : BitVec 32} (h : Win (data l) x (8 * l.length) r) (j : Nat) (hj : j < 32) : G x (8 * l.length + j) = r.getLsbD j := by
  rw [h.2 j (by rw [data_len]; omega), data_tail]
  cases r.getLsbD j <;> rfl
/-- The number read so far: t bits from the top. -/
def read (y : BitVec 32) (t : Nat) : Int := ((y.toNat >>> (32 - t) : Nat) : Int)
theorem read_0 (y : BitVec 32) : read y 0 = 0 := by
  unfold read
  have := y.isLt
  rw [Nat.sub_zero, Nat.shiftRight_eq_div_pow, Nat.div_eq_of_lt this]
  rfl
theorem read_32 (y : BitVec 32) : read y 32 = num y := by
  unfold read num
  rfl
theorem read_hi (y : BitVec 32) (t : Nat) : 0 ≤ read y t ∧ read y t < 4294967296 := by
  unfold read
  have := y.isLt
  have h2 : y.toNat >>> (32 - t) ≤ y.toNat := by rw [Nat.shiftRight_eq_div_pow]; exact Nat.div_le_self _ _
  generalize y.toNat >>> (32 - t) = a at *
  omega
theorem read_succ (y : BitVec 32) (t : Nat) (ht : t < 32) : read y (t + 1) = read y t * 2 + (if y.getLsbD (31 - t) then 1 else 0) ∧ read y t * 2 < 4294967296 - 1 := by
  have hlt := y.isLt
  unfold read
  have e : 32 - t = (31 - t) + 1 := by omega
  have e2 : 32 - (t + 1) = 31 - t := by omega
  rw [e2, e, Nat.shiftRight_succ]
  have hm : y.toNat >>> (31 - t) % 2 = if y.getLsbD (31 - t) then 1 else 0 := by
    rw [BitVec.getLsbD, Nat.testBit_eq_decide_div_mod_eq, ← Nat.shiftRight_eq_div_pow]
    rcases Nat.mod_two_eq_zero_or_one (y.toNat >>> (31 - t)) with h | h <;> simp [h]
  have h2 : y.toNat >>> (31 - t) ≤ y.toNat := by rw [Nat.shiftRight_eq_div_pow]; exact Nat.div_le_self _ _
  generalize y.toNat >>> (31 - t) = a at *
  generalize y.getLsbD (31 - t) = b at *
  cases b <;> simp at hm ⊢ <;> omega
end Go.Proofs.Ytkijeknopnjamaa.CrcP
