import Derived.Test.YtflkefabbdelaaaPrimC
set_option linter.unusedVariables false
set_option linter.unusedSimpArgs false
/-! PrimOrder's plain law. -/
namespace Go.Proofs.Ytflkefabbdelaaa.Prim
open Go.RowKit Base Flat Go.Proofs.YtflkefabbdelaaaW.PrintWords Wd
/-- A datum's number, with its sign. -/
def vl (k : Int) (s : Bool) (n : Int) : Int := if k = 1 then (if ng s n then -n else n) else if k = 3 then n else 0
theorem cmi_neg (x y : Int) : cmi x y = -cmi y x := by
  unfold cmi
  split <;> split <;> (try split) <;> omega
theorem cmi_rng (x y : Int) : -1 ≤ cmi x y ∧ cmi x y ≤ 1 := by
  unfold cmi
  split
  · omega
  · split <;> omega
theorem cmi_lt (x y : Int) : cmi x y < 0 ↔ x < y := by
  unfold cmi
  split
  · omega
  · split <;> omega
theorem cmi_le (x y : Int) : cmi x y ≤ 0 ↔ x ≤ y := by
  unfold cmi
  split
  · omega
  · split <;> omega
theorem cmi_self (x : Int) : cmi x x = 0 := by
  unfold cmi
  rw [if_neg (by omega), if_neg (by omega)]
theorem cmi_congr {a b c d : Int} (h1 : a < b ↔ c < d) (h2 : a > b ↔ c > d) : cmi a b = cmi c d := by
  unfold cmi
  simp only [h1, h2]
theorem ng_pos {s : Bool} {n : Int} (h0 : 0 ≤ n) (h : ng s n = true) : 0 < n := by
  unfold ng at h
  rw [Bool.and_eq_true] at h
  have : n ≠ 0 := by simpa using h.2
  omega
theorem dcmp_lex (k1 : Int) (s1 : Bool) (n1 : Int) (k2 : Int) (s2 : Bool) (n2 : Int) (h1 : k1 ≠ 2) (p1 : 0 ≤ n1) (p2 : 0 ≤ n2) :
    dcmp k1 s1 n1 ⟨#[]⟩ k2 s2 n2 ⟨#[]⟩ = if k1 ≠ k2 then cmi k1 k2 else cmi (vl k1 s1 n1) (vl k2 s2 n2) := by
  unfold dcmp
  by_cases hk : k1 = k2
  · subst hk
    rw [if_neg (fun h => h rfl), if_neg h1, show (if k1 ≠ k1 then cmi k1 k1 else cmi (vl k1 s1 n1) (vl k1 s2 n2)) = cmi (vl k1 s1 n1) (vl k1 s2 n2) from if_neg (fun h => h rfl)]
    unfold vl
    by_cases h3 : k1 = 3
    · rw [if_pos h3, if_neg (by omega), if_pos h3, if_neg (by omega), if_pos h3]
    · rw [if_neg h3]
      by_cases h4 : k1 = 1
      · rw [if_neg (fun h => h h4), if_pos h4, if_pos h4]
        cases g1 : ng s1 n1 with
        | true =>
          have q1 := ng_pos p1 g1
          cases g2 : ng s2 n2 with
          | true =>
            simp only [if_true]
            exact cmi_congr (by omega) (by omega)
          | false =>
            simp only [if_true, Bool.false_eq_true, if_false]
            unfold cmi
            rw [if_pos (by omega)]
        | false =>
          cases g2 : ng s2 n2 with
          | true =>
            have q2 := ng_pos p2 g2
            simp only [if_true, Bool.false_eq_true, if_false]
            unfold cmi
            rw [if_neg (by omega), if_pos (by omega)]
          | false =>
            simp only [Bool.false_eq_true, if_false]
      · rw [if_pos h4, if_neg h4, if_neg h3, if_neg h4, if_neg h3, cmi_self]
  · rw [if_pos hk, if_pos hk]
/-- How the data of two numbers stand. -/
def dc (k1 n1 k2 n2 : Int) : Int := dcmp (dat k1 n1).1 (dat k1 n1).2.1 (dat k1 n1).2.2 ⟨#[]⟩ (dat k2 n2).1 (dat k2 n2).2.1 (dat k2 n2).2.2 ⟨#[]⟩
def vd (k n : Int) : Int := vl (dat k n).1 (dat k n).2.1 (dat k n).2.2
theorem dat_ok (k n : Int) : (dat k n).1 ≠ 2 ∧ 0 ≤ (dat k n).2.2 ∧ (dat k n).2.2 < 18446744073709551616 := by
  have hr := up_range k n
  unfold dat
  split
  · exact ⟨by decide, by decide, by decide⟩
  · split
    · dsimp only; omega
    · split
      · dsimp only; omega
      · dsimp only; omega
theorem dc_lex (k1 n1 k2 n2 : Int) : dc k1 n1 k2 n2 = if (dat k1 n1).1 ≠ (dat k2 n2).1 then cmi (dat k1 n1).1 (dat k2 n2).1 else cmi (vd k1 n1) (vd k2 n2) :=
  dcmp_lex _ _ _ _ _ _ (dat_ok k1 n1).1 (dat_ok k1 n1).2.1 (dat_ok k2 n2).2.1
theorem dc_neg (k1 n1 k2 n2 : Int) : dc k1 n1 k2 n2 = -dc k2 n2 k1 n1 ∧ wrap64 (-dc k2 n2 k1 n1) = -dc k2 n2 k1 n1 := by
  have h : dc k1 n1 k2 n2 = -dc k2 n2 k1 n1 := by
    rw [dc_lex, dc_lex]
    by_cases h : (dat k1 n1).1 = (dat k2 n2).1
    · rw [if_neg (fun hh => hh h), if_neg (fun hh => hh h.symm)]
      exact cmi_neg _ _
    · rw [if_pos h, if_pos (fun hh => h hh.symm)]
      exact cmi_neg _ _
  refine ⟨h, ?_⟩
  have hr : -1 ≤ dc k2 n2 k1 n1 ∧ dc k2 n2 k1 n1 ≤ 1 := by
    rw [dc_lex]
    split
    · exact cmi_rng _ _
    · exact cmi_rng _ _
  unfold wrap64
  omega
theorem dc_wrap (k1 n1 k2 n2 : Int) : IntKind.i64.wrap (-dc k2 n2 k1 n1) = dc k1 n1 k2 n2 := by
  have hr : -1 ≤ dc k2 n2 k1 n1 ∧ dc k2 n2 k1 n1 ≤ 1 := by
    rw [dc_lex]
    split
    · exact cmi_rng _ _
    · exact cmi_rng _ _
  rw [wrapi64 (by omega) (by omega)]
  exact (dc_neg k1 n1 k2 n2).1.symm
theorem dc_self (k n : Int) : dc k n k n = 0 := by
  rw [dc_lex, if_neg (fun h => h rfl), cmi_self]
theorem dc_trans {k1 n1 k2 n2 k3 n3 : Int} (h1 : dc k1 n1 k2 n2 ≤ 0) (h2 : dc k2 n2 k3 n3 ≤ 0) : ¬ 0 < dc k1 n1 k3 n3 := by
  rw [dc_lex] at h1 h2 ⊢
  have key : ∀ x y : Int, (0 < cmi x y) = ¬ (x ≤ y) := fun x y => by
    have := cmi_le x y
    refine propext ⟨fun h hh => ?_, fun h => ?_⟩
    · have := this.2 hh; omega
    · exact Int.not_le.1 (fun hh => h (this.1 hh))
  by_cases a : (dat k1 n1).1 = (dat k2 n2).1
  · rw [if_neg (fun hh => hh a), cmi_le] at h1
    by_cases b : (dat k2 n2).1 = (dat k3 n3).1
    · rw [if_neg (fun hh => hh b), cmi_le] at h2
      rw [if_neg (fun hh => hh (a.trans b)), key]
      omega
    · rw [if_pos b, cmi_le] at h2
      rw [if_pos (fun hh => b (a.symm.trans hh)), key]
      omega
  · rw [if_pos a, cmi_le] at h1
    by_cases b : (dat k2 n2).1 = (dat k3 n3).1
    · rw [if_pos (fun hh => a (hh.trans b.symm)), key]
      omega
    · rw [if_pos b, cmi_le] at h2
      by_cases c : (dat k1 n1).1 = (dat k3 n3).1
      · exfalso; omega
      · rw [if_pos c, key]
        omega
theorem dat7 {n : Int} (h0 : 0 ≤ n) (h1 : n < 18446744073709551616) : (dat 7 n).1 = 1 ∧ vd 7 n = i64 n := by
  have hu : up 7 n = n := by
    show (if n % 18446744073709551616 < 9223372036854775808 then n % 18446744073709551616 else n % 18446744073709551616 - 18446744073709551616) % 18446744073709551616 = n
    split <;> omega
  unfold vd
  unfold dat
  rw [hu, if_neg (by decide), if_neg (by decide)]
  by_cases h : 9223372036854775808 ≤ n
  · rw [if_pos ⟨rfl, h⟩]
    refine ⟨rfl, ?_⟩
    show (if ng true ((-n) % 18446744073709551616) = true then -((-n) % 18446744073709551616) else (-n) % 18446744073709551616) = i64 n
    have hz : ng true ((-n) % 18446744073709551616) = true := by
      unfold ng
      rw [Bool.true_and]
      exact bne_iff_ne.2 (by omega)
    rw [if_pos hz]
    unfold i64
    rw [if_neg (by omega)]
    omega
  · rw [if_neg (fun hh => h hh.2)]
    refine ⟨rfl, ?_⟩
    show (if ng false n = true then -n else n) = i64 n
    rw [if_neg (by unfold ng; simp)]
    unfold i64
    rw [if_pos (by omega)]
theorem dat8 {n : Int} (h0 : 0 ≤ n) (h1 : n < 18446744073709551616) : (dat 8 n).1 = 1 ∧ vd 8 n = n := by
  have hu : up 8 n = n := by
    show n % 18446744073709551616 = n
    omega
  unfold vd
  unfold dat
  rw [hu, if_neg (by decide), if_neg (by decide), if_neg (fun hh => absurd hh.1 (by decide))]
  refine ⟨rfl, ?_⟩
  show (if ng false n = true then -n else n) = n
  rw [if_neg (by unfold ng; simp)]
theorem dc_int {a b : Int} (a0 : 0 ≤ a) (a1 : a < 18446744073709551616) (b0 : 0 ≤ b) (b1 : b < 18446744073709551616) : decide (dc 7 a 7 b < 0) = decide (i64 a < i64 b) := by
  rw [dc_lex, (dat7 a0 a1).1, (dat7 b0 b1).1, if_neg (fun h => h rfl), (dat7 a0 a1).2, (dat7 b0 b1).2, decide_eq_decide]
  exact cmi_lt _ _
theorem dc_uint {a b : Int} (a0 : 0 ≤ a) (a1 : a < 18446744073709551616) (b0 : 0 ≤ b) (b1 : b < 18446744073709551616) : decide (dc 8 a 8 b < 0) = decide (a < b) := by
  rw [dc_lex, (dat8 a0 a1).1, (dat8 b0 b1).1, if_neg (fun h => h rfl), (dat8 a0 a1).2, (dat8 b0 b1).2, decide_eq_decide]
  exact cmi_lt _ _
theorem dc_mix {a b : Int} (a0 : 0 ≤ a) (a1 : a < 18446744073709551616) (b0 : 0 ≤ b) (b1 : b < 18446744073709551616) (h : i64 a < 0) : dc 7 a 8 b < 0 := by
  rw [dc_lex, (dat7 a0 a1).1, (dat8 b0 b1).1, if_neg (fun h => h rfl), (dat7 a0 a1).2, (dat8 b0 b1).2, cmi_lt]
  omega
end Go.Proofs.Ytflkefabbdelaaa.Prim
