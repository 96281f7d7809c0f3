import Derived.Test.YtfjcgbkoohjmnaaCrcPure2
set_option linter.unusedVariables false
set_option linter.unusedSimpArgs false
namespace Go.Proofs.Ytfjcgbkoohjmnaa.CrcP
open Go.RowKit

def emb (c : UInt8) : BitVec 32 := c.toBitVec.setWidth 32
theorem emb_get (c : UInt8) (i : Nat) (hi : i < 32) : (emb c).getLsbD i = c.toBitVec.getLsbD i := by
  unfold emb
  rw [BitVec.getLsbD_setWidth]
  simp [hi]
theorem byte_ge (c : UInt8) (i : Nat) (hi : 8 ≤ i) : c.toBitVec.getLsbD i = false := BitVec.getLsbD_of_ge _ _ hi
theorem shN_shl (n : Nat) : ∀ (y : BitVec 32), y.toNat * 2 ^ n < 2 ^ 32 → shN n (y <<< n) = y := by
  induction n with
  | zero => intro y _; simp [shN]
  | succ n ih =>
    intro y hy
    have h1 : y <<< (n + 1) = (y <<< n) <<< 1 := by
      rw [BitVec.shiftLeft_add]
    have h2 : y.toNat * 2 ^ n < 2 ^ 31 := by
      rw [Nat.pow_succ, ← Nat.mul_assoc] at hy
      omega
    have h3 : (y <<< n).getLsbD 31 = false := by
      rw [BitVec.getLsbD, BitVec.toNat_shiftLeft, Nat.shiftLeft_eq, Nat.mod_eq_of_lt (by omega)]
      exact Nat.testBit_lt_two_pow h2
    rw [h1, shN, sh_double _ h3]
    exact ih y (by omega)
theorem shN_shN (m n : Nat) : ∀ x, shN m (shN n x) = shN (n + m) x := by
  induction n with
  | zero => intro x; rw [Nat.zero_add]; rfl
  | succ n ih => intro x; rw [shN, ih, show n + 1 + m = (n + m) + 1 from by omega, shN]
theorem shN_in (n : Nat) (z y : BitVec 32) (h : y.toNat * 2 ^ n < 2 ^ 32) : shN n z ^^^ y = shN n (z ^^^ (y <<< n)) := by
  rw [shN_xor, shN_shl n y h]
theorem emb_lt (c : UInt8) : (emb c).toNat < 256 := by
  unfold emb
  rw [BitVec.toNat_setWidth]
  have := c.toNat_lt
  exact Nat.lt_of_le_of_lt (Nat.mod_le _ _) this
/-- Four bytes as one. -/
def quad (c0 c1 c2 c3 : UInt8) : BitVec 32 := emb c0 ^^^ (emb c1 <<< 8) ^^^ (emb c2 <<< 16) ^^^ (emb c3 <<< 24)
theorem quad_get (c0 c1 c2 c3 : UInt8) (i : Nat) (hi : i < 8) : (quad c0 c1 c2 c3).getLsbD i = c0.toBitVec.getLsbD i ∧ (quad c0 c1 c2 c3).getLsbD (8 + i) = c1.toBitVec.getLsbD i ∧
    (quad c0 c1 c2 c3).getLsbD (16 + i) = c2.toBitVec.getLsbD i ∧ (quad c0 c1 c2 c3).getLsbD (24 + i) = c3.toBitVec.getLsbD i := by
  unfold quad
  simp only [BitVec.getLsbD_xor, BitVec.getLsbD_shiftLeft]
  have e : ∀ (c : UInt8) (k : Nat), k < 32 → 8 ≤ k → (emb c).getLsbD k = false := fun c k h1 h2 => by rw [emb_get c k h1, byte_ge c k h2]
  refine ⟨?_, ?_, ?_, ?_⟩
  · rw [emb_get c0 i (by omega)]
    have h1 : i < 16 := by omega
    have h2 : i < 24 := by omega
    simp [hi, h1, h2]
  · rw [e c0 (8 + i) (by omega) (by omega), show 8 + i - 8 = i from by omega, emb_get c1 i (by omega)]
    have h0 : ¬ 8 + i < 8 := by omega
    have h1 : 8 + i < 16 := by omega
    have h2 : 8 + i < 24 := by omega
    have h3 : 8 + i < 32 := by omega
    simp [h1, h2, h3]
  · rw [e c0 (16 + i) (by omega) (by omega), e c1 (16 + i - 8) (by omega) (by omega), show 16 + i - 16 = i from by omega, emb_get c2 i (by omega)]
    have h1 : ¬ 16 + i < 16 := by omega
    have h2 : 16 + i < 24 := by omega
    have h3 : 16 + i < 32 := by omega
    simp [h2, h3]
  · rw [e c0 (24 + i) (by omega) (by omega), e c1 (24 + i - 8) (by omega) (by omega), e c2 (24 + i - 16) (by omega) (by omega), show 24 + i - 24 = i from by omega, emb_get c3 i (by omega)]
    have h3 : 24 + i < 32 := by omega
    simp [h3]
theorem byte_eq {c d : UInt8} (h : ∀ i, i < 8 → c.toBitVec.getLsbD i = d.toBitVec.getLsbD i) : c = d :=
  UInt8.eq_of_toBitVec_eq (BitVec.eq_of_getLsbD_eq h)
theorem quad_inj {c0 c1 c2 c3 d0 d1 d2 d3 : UInt8} (h : quad c0 c1 c2 c3 = quad d0 d1 d2 d3) : c0 = d0 ∧ c1 = d1 ∧ c2 = d2 ∧ c3 = d3 := by
  refine ⟨byte_eq fun i hi => ?_, byte_eq fun i hi => ?_, byte_eq fun i hi => ?_, byte_eq fun i hi => ?_⟩
  · rw [← (quad_get c0 c1 c2 c3 i hi).1, ← (quad_get d0 d1 d2 d3 i hi).1, h]
  · rw [← (quad_get c0 c1 c2 c3 i hi).2.1, ← (quad_get d0 d1 d2 d3 i hi).2.1, h]
  · rw [← (quad_get c0 c1 c2 c3 i hi).2.2.1, ← (quad_get d0 d1 d2 d3 i hi).2.2.1, h]
  · rw [← (quad_get c0 c1 c2 c3 i hi).2.2.2, ← (quad_get d0 d1 d2 d3 i hi).2.2.2, h]
theorem stepL_quad (r : BitVec 32) (c0 c1 c2 c3 : UInt8) : stepL r [c0, c1, c2, c3] = shN 32 (r ^^^ quad c0 c1 c2 c3) := by
  have e0 := emb_lt c0
  have e1 := emb_lt c1
  have e2 := emb_lt c2
  have e3 := emb_lt c3
  show shN 8 (shN 8 (shN 8 (shN 8 (r ^^^ emb c0) ^^^ emb c1) ^^^ emb c2) ^^^ emb c3) = _
  rw [shN_in 8 (r ^^^ emb c0) (emb c1) (by omega), shN_shN, shN_in 16 _ (emb c2) (by omega), shN_shN, shN_in 24 _ (emb c3) (by omega), shN_shN]
  unfold quad
  simp only [BitVec.xor_assoc]
theorem xor_eq_zero {x y : BitVec 32} (h : x ^^^ y = 0#32) : x = y := by
  have := congrArg (fun z => z ^^^ y) h
  simpa [BitVec.xor_assoc] using this
theorem shN_inj (n : Nat) {x y : BitVec 32} (h : shN n x = shN n y) : x = y := by
  apply xor_eq_zero
  apply shN_eq_zero n
  rw [shN_xor, h, BitVec.xor_self]
theorem xor_cancel {r x y : BitVec 32} (h : r ^^^ x = r ^^^ y) : x = y := by
  have := congrArg (fun z => r ^^^ z) h
  simpa [← BitVec.xor_assoc] using this
theorem xor_cancel_right {r x y : BitVec 32} (h : x ^^^ r = y ^^^ r) : x = y := by
  rw [BitVec.xor_comm x, BitVec.xor_comm y] at h
  exact xor_cancel h
theorem stepL_inj (l : List UInt8) : ∀ {r q : BitVec 32}, stepL r l = stepL q l → r = q := by
  induction l with
  | nil => intro r q h; exact h
  | cons c l ih =>
    intro r q h
    have h1 : stepB r c = stepB q c := ih h
    exact xor_cancel_right (shN_inj 8 h1)
theorem stepL_append (r : BitVec 32) (a b : List UInt8) : stepL r (a ++ b) = stepL (stepL r a) b := List.foldl_append
theorem quad_text {r : BitVec 32} {x y : List UInt8} (hx : x.length = 4) (hy : y.length = 4) (h : stepL r x = stepL r y) : x = y := by
  match x, y, hx, hy with
  | [c0, c1, c2, c3], [d0, d1, d2, d3], _, _ =>
    rw [stepL_quad, stepL_quad] at h
    obtain ⟨rfl, rfl, rfl, rfl⟩ := quad_inj (xor_cancel (shN_inj 32 h))
    rfl
/-- At most four bytes: unlike ones lead to unlike registers. -/
theorem short_text {r : BitVec 32} {x y : List UInt8} (hl : x.length = y.length) (h4 : x.length ≤ 4) (h : stepL r x = stepL r y) : x = y := by
  have h1 : stepL r (x ++ List.replicate (4 - x.length) 0) = stepL r (y ++ List.replicate (4 - x.length) 0) := by
    rw [stepL_append, stepL_append, h]
  have h2 := quad_text (by simp; omega) (by simp; omega) h1
  exact (List.append_inj h2 hl).1
/-- Two texts of one length that are unlike in four bytes side by side at most have like sums only if they are alike. -/
theorem burst {a b : List UInt8} (k : Nat) (hl : a.length = b.length) (hd : ∀ m, m < k ∨ k + 4 ≤ m → a[m]? = b[m]?) : CrcP.sum a = CrcP.sum b ↔ a = b := by
  refine ⟨fun h => ?_, fun h => by rw [h]⟩
  have h1 : stepL (~~~ 0#32) a = stepL (~~~ 0#32) b := by
    have := congrArg (fun z => ~~~ z) h
    simpa [CrcP.sum, more] using this
  have ha : a = a.take k ++ ((a.drop k).take 4 ++ a.drop (k + 4)) := by
    rw [← List.drop_drop, List.take_append_drop, List.take_append_drop]
  have hb : b = b.take k ++ ((b.drop k).take 4 ++ b.drop (k + 4)) := by
    rw [← List.drop_drop, List.take_append_drop, List.take_append_drop]
  have e1 : a.take k = b.take k := by
    apply List.ext_getElem?
    intro i
    rw [List.getElem?_take, List.getElem?_take]
    split
    · exact hd i (by omega)
    · rfl
  have e2 : a.drop (k + 4) = b.drop (k + 4) := by
    apply List.ext_getElem?
    intro i
    rw [List.getElem?_drop, List.getElem?_drop]
    exact hd _ (by omega)
  rw [ha, hb, e1, e2, stepL_append, stepL_append, stepL_append, stepL_append] at h1
  have h2 := stepL_inj _ h1
  have h3 := short_text (by simp [hl]) (by simp; omega) h2
  rw [ha, hb, e1, e2, h3]
end Go.Proofs.Ytfjcgbkoohjmnaa.CrcP
