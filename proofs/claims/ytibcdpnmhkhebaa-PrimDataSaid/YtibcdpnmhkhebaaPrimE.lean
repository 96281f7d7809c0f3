import Derived.Test.YtibcdpnmhkhebaaPrimD
import Derived.Test.YtibcdpnmhkhebaaPrimRPrimData
import Derived.Test.YtibcdpnmhkhebaaPPrimDatax2
set_option linter.unusedVariables false
set_option linter.unusedSimpArgs false
namespace Go.Proofs.Ytibcdpnmhkhebaa.Prim
open Go.RowKit Base Go.Proofs.YtibcdpnmhkhebaaW.PrintWords Go.Proofs.YtibcdpnmhkhebaaW.PrintLast Go.Proofs.YtibcdpnmhkhebaaW.PrintMore Wd Go.Proofs.Ytibcdpnmhkhebaa.PPrimData
theorem sgn_range (n s : Int) : -9223372036854775808 ≤ sgn n s ∧ sgn n s < 9223372036854775808 := by
  unfold sgn pw hf
  repeat' split
  all_goals omega
theorem dat_none {k : Int} (n : Int) (h : nb k = false) : dat k n = (0, false, 0) := by unfold dat; rw [if_pos h]
theorem dat_one (n : Int) : dat 1 n = (3, false, up 1 n % 2) := by unfold dat; rw [if_neg (by decide), if_pos rfl]
theorem dat_sg {k : Int} (n : Int) (hs : sg k = true) : dat k n = if 9223372036854775808 ≤ up k n then (1, true, (-(up k n)) % 18446744073709551616) else (1, false, up k n) := by
  have h := sg_nb hs
  have hk : k ≠ 1 := fun h => by subst h; exact absurd hs (by decide)
  unfold dat
  rw [if_neg (by rw [h]; decide), if_neg hk]
  by_cases hc : 9223372036854775808 ≤ up k n
  · rw [if_pos ⟨hs, hc⟩, if_pos hc]
  · rw [if_neg (fun h => hc h.2), if_neg hc]
theorem dat_un {k : Int} (n : Int) (h : nb k = true) (hk : k ≠ 1) (hs : sg k = false) : dat k n = (1, false, up k n) := by
  unfold dat
  rw [if_neg (by rw [h]; decide), if_neg hk, if_neg (fun h => by rw [hs] at h; exact absurd h.1 (by decide))]
theorem up_sg {k : Int} (n : Int) (hs : sg k = true) : up k n = sgn n (ks k) % 18446744073709551616 := by unfold up; rw [hs]; rfl
theorem up_un {k : Int} (n : Int) (h : nb k = true) (hs : sg k = false) : up k n = n % pw (ks k) := by unfold up low; rw [hs, h]; rfl
theorem rdatum (k n : Int) (h0 : 0 ≤ n) (h1 : n < 18446744073709551616) : broadsheetref05_Datum.f 12 k n = some ((dat k n).1, (dat k n).2.1, (dat k n).2.2, ⟨#[]⟩) := by
  unfold broadsheetref05_Datum.f
  rw [PrimRPrimData.rnumber, Option.bind_some]
  cases h : nb k with
  | false => rw [dat_none n h]; rfl
  | true =>
    rw [if_pos rfl]
    by_cases hk : k = 1
    · subst hk
      have e : up 1 n = n % 256 := rfl
      have e2 : Int.tmod n 2 = n % 256 % 2 := by rw [Int.tmod_eq_emod_of_nonneg h0]; omega
      rw [if_pos rfl, dat_one, e, e2]
    · rw [if_neg hk, PrimRPrimData.rsigned, Option.bind_some]
      cases hs : sg k with
      | false =>
        rw [if_neg (by decide), PrimRPrimData.rlow k n h0 h1, Option.bind_some, dat_un n h hk hs]
        unfold up
        rw [hs]
        rfl
      | true =>
        rw [if_pos rfl, PrimRPrimData.rsize, Option.bind_some, WdSPrimData.rsign_eq n _ h0 h1, ks_sz h, if_pos rfl, Option.bind_some, dat_sg n hs, up_sg n hs]
        have r := sgn_range n (ks k)
        generalize sgn n (ks k) = m at *
        by_cases hm : m < 0
        · rw [if_pos hm, if_pos (by omega), u64_mod, u64_mod]
          have e : (wrap64 (-(wrap64 (m + 1))) % 18446744073709551616 + 1) % 18446744073709551616 = (-(m % 18446744073709551616)) % 18446744073709551616 := by unfold wrap64; omega
          rw [e]
        · rw [if_neg hm, if_neg (by omega), u64_mod]
/-- The greatest number of a kind, and how far below 0. -/
def upm (k : Int) : Int := if k = 1 then 1 else if sg k then hf (ks k) - 1 else pw (ks k) - 1
def dwn (k : Int) : Int := if sg k then hf (ks k) else 0
theorem rmost (k : Int) (h : nb k = true) : broadsheetref05_most.f 80 k = some (upm k, dwn k) := by
  rcases nb_cases h with rfl | rfl | rfl | rfl | rfl | rfl | rfl | rfl | rfl <;> kernel_rfl
theorem fit_sg {s : Int} (h : sz s = true) {n : Int} (h0 : 0 ≤ n) (h1 : n < 18446744073709551616) : (sgn n s % 18446744073709551616 = n ↔ n < hf s ∨ 18446744073709551616 - hf s ≤ n) ∧ 1 ≤ hf s ∧ hf s ≤ 9223372036854775808 := by
  rcases sz_cases h with rfl | rfl | rfl | rfl
  · refine ⟨?_, by decide, by decide⟩
    show (if n % 256 < 128 then n % 256 else n % 256 - 256) % 18446744073709551616 = n ↔ n < 128 ∨ 18446744073709551616 - 128 ≤ n
    split <;> omega
  · refine ⟨?_, by decide, by decide⟩
    show (if n % 65536 < 32768 then n % 65536 else n % 65536 - 65536) % 18446744073709551616 = n ↔ n < 32768 ∨ 18446744073709551616 - 32768 ≤ n
    split <;> omega
  · refine ⟨?_, by decide, by decide⟩
    show (if n % 4294967296 < 2147483648 then n % 4294967296 else n % 4294967296 - 4294967296) % 18446744073709551616 = n ↔ n < 2147483648 ∨ 18446744073709551616 - 2147483648 ≤ n
    split <;> omega
  · refine ⟨?_, by decide, by decide⟩
    show (if n % 18446744073709551616 < 9223372036854775808 then n % 18446744073709551616 else n % 18446744073709551616 - 18446744073709551616) % 18446744073709551616 = n ↔ n < 9223372036854775808 ∨ 18446744073709551616 - 9223372036854775808 ≤ n
    split <;> omega
theorem fit_un {s : Int} (h : sz s = true) {n : Int} (h0 : 0 ≤ n) (h1 : n < 18446744073709551616) : (n % pw s = n ↔ n ≤ pw s - 1) := by
  rcases sz_cases h with rfl | rfl | rfl | rfl
  · show n % 256 = n ↔ n ≤ 256 - 1
    omega
  · show n % 65536 = n ↔ n ≤ 65536 - 1
    omega
  · show n % 4294967296 = n ↔ n ≤ 4294967296 - 1
    omega
  · show n % 18446744073709551616 = n ↔ n ≤ 18446744073709551616 - 1
    omega
theorem may_iff {k n : Int} (h : nb k = true) : may k n = true ↔ up k n = n ∧ (k ≠ 1 ∨ n ≤ 1) := by
  unfold may
  rw [h]
  simp
theorem ofb_a {k dk : Int} {dn : Bool} {dm : Int} (h : nb k = true) (h0 : 0 ≤ dm) (h1 : dm < 18446744073709551616) (hg : ng dn dm = true) (hd : 0 < dm) (hk : dk = if k = 1 then 3 else 1) : ofb k dk dn dm ⟨#[]⟩ = (decide (k ≠ 1) && decide (dm ≤ dwn k)) := by
  have hn : nn dn dm = 18446744073709551616 - dm := by unfold nn; rw [hg, if_pos rfl]; omega
  rw [Bool.eq_iff_iff]
  unfold ofb dwn
  rw [hn, hg]
  simp only [Bool.and_eq_true, decide_eq_true_eq, and_true]
  rw [may_iff h]
  by_cases k1 : k = 1
  · subst k1
    rw [dat_one]
    simp
  · rw [if_neg k1] at hk
    subst hk
    cases hs : sg k with
    | true =>
      obtain ⟨f1, f2, f3⟩ := fit_sg (ks_sz h) (n := 18446744073709551616 - dm) (by omega) (by omega)
      rw [dat_sg _ hs, if_pos rfl, up_sg _ hs]
      generalize sgn (18446744073709551616 - dm) (ks k) % 18446744073709551616 = U at *
      generalize hf (ks k) = H at *
      constructor
      · rintro ⟨⟨a1, _⟩, a2⟩
        exact ⟨k1, by have := f1.1 a1; split at a2 <;> simp only [Prod.mk.injEq] at a2 <;> omega⟩
      · rintro ⟨_, a1⟩
        have a2 := f1.2 (.inr (by omega))
        refine ⟨⟨a2, .inl k1⟩, ?_⟩
        rw [a2, if_pos (by omega)]
        simp only [Prod.mk.injEq, true_and]
        omega
    | false =>
      rw [dat_un _ h k1 hs, if_neg (by decide)]
      constructor
      · rintro ⟨_, a2⟩
        simp at a2
      · rintro ⟨_, a1⟩
        omega
theorem ofb_b {k dk : Int} {dn : Bool} {dm : Int} (h : nb k = true) (h0 : 0 ≤ dm) (h1 : dm < 18446744073709551616) (hg : ng dn dm = false) (hk : dk = if k = 1 then 3 else 1) : ofb k dk dn dm ⟨#[]⟩ = decide (dm ≤ upm k) := by
  have hn : nn dn dm = dm := by unfold nn; rw [hg]; rfl
  rw [Bool.eq_iff_iff]
  unfold ofb upm
  rw [hn, hg]
  simp only [Bool.and_eq_true, decide_eq_true_eq, and_true]
  rw [may_iff h]
  by_cases k1 : k = 1
  · subst k1
    have e : up 1 dm = dm % 256 := rfl
    rw [dat_one, e, if_pos rfl, hk, if_pos rfl]
    simp only [Prod.mk.injEq, true_and]
    omega
  · rw [if_neg k1] at hk
    subst hk
    rw [if_neg k1]
    cases hs : sg k with
    | true =>
      obtain ⟨f1, f2, f3⟩ := fit_sg (ks_sz h) h0 h1
      rw [dat_sg _ hs, if_pos rfl, up_sg _ hs]
      generalize sgn dm (ks k) % 18446744073709551616 = U at *
      generalize hf (ks k) = H at *
      constructor
      · rintro ⟨⟨a1, _⟩, a2⟩
        have := f1.1 a1
        split at a2
        · simp at a2
        · omega
      · intro a1
        have a2 := f1.2 (.inl (by omega))
        refine ⟨⟨a2, .inl k1⟩, ?_⟩
        rw [a2, if_neg (by omega)]
    | false =>
      have f1 := fit_un (ks_sz h) h0 h1
      rw [dat_un _ h k1 hs, if_neg (by decide), up_un _ h hs]
      constructor
      · rintro ⟨⟨a1, _⟩, a2⟩
        exact f1.1 a1
      · intro a1
        have a2 := f1.2 a1
        exact ⟨⟨a2, .inl k1⟩, by rw [a2]⟩
theorem ofb_kind {k dk : Int} {dn : Bool} {dm : Int} {dt : ByteArray} (h : nb k = true) (hk : ¬ dk = if k = 1 then 3 else 1) : ofb k dk dn dm dt = false := by
  have hd : ∀ n, (dat k n).1 = if k = 1 then 3 else 1 := by
    intro n
    by_cases k1 : k = 1
    · subst k1; rw [dat_one]; rfl
    · rw [if_neg k1]
      cases hs : sg k with
      | true => rw [dat_sg _ hs]; split <;> rfl
      | false => rw [dat_un _ h k1 hs]
  unfold ofb
  rw [show decide (dat k (nn dn dm) = (dk, ng dn dm, dm)) = false from decide_eq_false (fun he => hk (by rw [← hd (nn dn dm), he]))]
  simp
theorem rof (k dk : Int) (dn : Bool) (dm : Int) (dt : ByteArray) (h0 : 0 ≤ dm) (h1 : dm < 18446744073709551616) : ∃ v, broadsheetref05_Of.f 81 k dk dn dm dt = some (v, ofb k dk dn dm dt) ∧ (ofb k dk dn dm dt = true → v = nn dn dm) := by
  unfold broadsheetref05_Of.f
  rw [PrimRPrimData.rnumber, Option.bind_some]
  cases h : nb k with
  | false =>
    have e : ofb k dk dn dm dt = false := by unfold ofb may; rw [h]; rfl
    rw [e]
    exact ⟨0, rfl, fun h => by cases h⟩
  | true =>
    rw [if_pos rfl]
    by_cases ht : dt = ⟨#[]⟩
    · subst ht
      rw [if_pos (by rw [ByteArray.toList_eq])]
      by_cases hk : dk = if k = 1 then 3 else 1
      · have hj : (if k = 1 then (if dk = 3 then (broadsheetref05_Of.j0 81 k false dk dn dm ⟨#[]⟩) else (broadsheetref05_Of.j0 81 k true dk dn dm ⟨#[]⟩)) else (broadsheetref05_Of.j0 81 k (dk != 1) dk dn dm ⟨#[]⟩)) = broadsheetref05_Of.j0 81 k false dk dn dm ⟨#[]⟩ := by
          by_cases k1 : k = 1
          · rw [if_pos k1] at hk ⊢
            rw [if_pos hk]
          · rw [if_neg k1] at hk ⊢
            rw [hk]
            first | rfl | skip
        rw [hj]
        simp only [broadsheetref05_Of.j0]
        rw [if_neg (by decide), rmost k h, Option.bind_some]
        rcases side dn dm h0 with ⟨rfl, hx, e1⟩ | ⟨rfl, hx, e1⟩ | ⟨rfl, e1⟩
        · have ho := ofb_a h h0 h1 e1 hx hk
          have hn : nn true dm = (-dm) % 18446744073709551616 := by unfold nn; rw [e1]; rfl
          rw [if_pos rfl, if_pos hx, ho, hn]
          by_cases k1 : k = 1
          · rw [if_pos k1, show decide (k ≠ 1) = false from decide_eq_false (fun h => h k1)]
            exact ⟨_, rfl, fun h => by cases h⟩
          · rw [if_neg k1, show decide (k ≠ 1) = true from decide_eq_true k1, Bool.true_and]
            refine ⟨_, rfl, fun _ => ?_⟩
            rw [u64_mod]
            unfold wrap64
            omega
        · have ho := ofb_b h h0 h1 e1 hk
          have hn : nn true dm = dm := by unfold nn; rw [e1]; rfl
          rw [if_pos rfl, if_neg hx, ho, hn]
          exact ⟨_, rfl, fun _ => rfl⟩
        · have ho := ofb_b h h0 h1 e1 hk
          have hn : nn false dm = dm := by unfold nn; rw [e1]; rfl
          rw [if_neg (by decide), ho, hn]
          exact ⟨_, rfl, fun _ => rfl⟩
      · have hj : (if k = 1 then (if dk = 3 then (broadsheetref05_Of.j0 81 k false dk dn dm ⟨#[]⟩) else (broadsheetref05_Of.j0 81 k true dk dn dm ⟨#[]⟩)) else (broadsheetref05_Of.j0 81 k (dk != 1) dk dn dm ⟨#[]⟩)) = broadsheetref05_Of.j0 81 k true dk dn dm ⟨#[]⟩ := by
          by_cases k1 : k = 1
          · rw [if_pos k1] at hk ⊢
            rw [if_neg hk]
          · rw [if_neg k1] at hk ⊢
            rw [show (dk != 1) = true from by simpa using hk]
        rw [hj, ofb_kind h hk]
        exact ⟨0, rfl, fun h => by cases h⟩
    · have e : ofb k dk dn dm dt = false := by unfold ofb; rw [decide_eq_false ht]; simp
      rw [if_neg (fun hl => ht (by
        rw [ByteArray.toList_eq] at hl
        apply ByteArray.ext
        apply Array.ext'
        exact hl)), e]
      exact ⟨0, rfl, fun h => by cases h⟩
end Go.Proofs.Ytibcdpnmhkhebaa.Prim
