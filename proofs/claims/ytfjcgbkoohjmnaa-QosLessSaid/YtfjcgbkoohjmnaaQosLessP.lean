import Derived.Test.YtfjcgbkoohjmnaaQosLessW
set_option linter.unusedVariables false
set_option linter.unusedSimpArgs false
namespace Go.Proofs.Ytfjcgbkoohjmnaa.QosLessP
open Go.RowKit Go.Proofs.Ytfjcgbkoohjmnaa.PQosLess Go.Proofs.YtfjcgbkoohjmnaaW.PrintWords Go.Proofs.YtfjcgbkoohjmnaaW.PrintLast Go.Proofs.YtfjcgbkoohjmnaaW.PrintMore

theorem w64 {x : Int} (h0 : -9223372036854775808 ≤ x) (h1 : x < 9223372036854775808) : wrap64 x = x := by unfold wrap64; omega
def W : List S67 → Int
  | [] => 0
  | x :: r => if x.f0 < x.f1 then 7 else if x.f0 > x.f2 then 7 else W r
theorem within_from (l : List S67) (hl : l.length < 9223372036854775807) (d : Nat) : ∀ k i, i + d = l.length → qos_within.l0 (k + d + 1) l (l.length : Int) (i : Int) = some (W (l.drop i)) := by
  induction d with
  | zero =>
    intro k i hi
    rw [List.drop_of_length_le (by omega)]
    simp only [qos_within.l0]
    rw [if_neg (by omega)]
    rfl
  | succ d ih =>
    intro k i hi
    have hlt : i < l.length := by omega
    have hg : rd_T67 l (i : Int) = l[i] := by
      unfold rd_T67
      rw [Int.toNat_natCast, List.getD_eq_getElem?_getD, List.getElem?_eq_getElem hlt]
      rfl
    have e := ih k (i + 1) (by omega)
    rw [show k + (d + 1) + 1 = (k + d + 1) + 1 from by omega, List.drop_eq_getElem_cons hlt, W]
    rw [qos_within.l0, if_pos (by omega), if_pos (by omega), if_pos (by omega), hg, w64 (by omega) (by omega), show (i : Int) + 1 = ((i + 1 : Nat) : Int) from rfl, e]
    split
    · rfl
    · split <;> rfl
theorem within7 (k : Nat) (x0 x1 x2 x3 x4 x5 x6 : S67) : qos_within.f (k + 8) [x0, x1, x2, x3, x4, x5, x6] = some (W [x0, x1, x2, x3, x4, x5, x6]) := within_from [x0, x1, x2, x3, x4, x5, x6] (by simp) 7 k 0 rfl
theorem W_iff : ∀ l : List S67, W l = if (∀ x ∈ l, x.f1 ≤ x.f0 ∧ x.f0 ≤ x.f2) then 0 else 7
  | [] => by simp [W]
  | x :: r => by
    rw [W, W_iff r]
    by_cases h1 : x.f0 < x.f1
    · rw [if_pos h1, if_neg (fun h => by have := h x (List.mem_cons_self ..); omega)]
    · rw [if_neg h1]
      by_cases h2 : x.f0 > x.f2
      · rw [if_pos h2, if_neg (fun h => by have := h x (List.mem_cons_self ..); omega)]
      · rw [if_neg h2]
        congr 1
        rw [List.forall_mem_cons]
        simp only [eq_iff_iff]
        exact ⟨fun h => ⟨⟨by omega, by omega⟩, h⟩, fun h => h.2⟩
/-- What may be offered. -/
def offP (a b c d e f g : Int) : Prop := (0 ≤ a ∧ a ≤ 1) ∧ (0 ≤ b ∧ b ≤ 8) ∧ (1 ≤ c ∧ c ≤ 8) ∧ ((b = 0 ∧ 1 ≤ d ∧ d ≤ 64) ∨ (b ≠ 0 ∧ d = 0)) ∧ (0 ≤ e ∧ e ≤ 1000) ∧ (0 ≤ f ∧ f ≤ 1000) ∧ (g = 0 ∨ (f < g ∧ g ≤ 1000))
instance (a b c d e f g : Int) : Decidable (offP a b c d e f g) := by unfold offP; infer_instance
/-- What may be asked. -/
def askP (a b c d e f g : Int) : Prop := (0 ≤ a ∧ a ≤ 1) ∧ (0 ≤ b ∧ b ≤ 8) ∧ c = 0 ∧ d = 0 ∧ (0 ≤ e ∧ e ≤ 1000) ∧ (0 ≤ f ∧ f ≤ 1000) ∧ g = 0
instance (a b c d e f g : Int) : Decidable (askP a b c d e f g) := by unfold askP; infer_instance
/-- Does what is offered fit what is asked? -/
def fitP (a e f a' e' f' : Int) : Prop := (a' = 1 → a = 1) ∧ f ≤ f' ∧ (e' = 0 ∨ (e ≠ 0 ∧ e ≤ e'))
instance (a e f a' e' f' : Int) : Decidable (fitP a e f a' e' f') := by unfold fitP; infer_instance
theorem ite_iff {p q : Prop} [Decidable p] [Decidable q] {x y : Int} (h : p ↔ q) : (if p then x else y) = if q then x else y := by
  by_cases hp : p
  · rw [if_pos hp, if_pos (h.1 hp)]
  · rw [if_neg hp, if_neg (fun hq => hp (h.2 hq))]
theorem offer_at (k : Nat) (a b c d e f g : Int) (hf : -9223372036854775808 ≤ f) : qos_Offer.f (k + 10) a b c d e f g = some (if offP a b c d e f g then 0 else 7) := by
  unfold qos_Offer.f
  simp only [qos_Offer.j0, qos_Offer.j1, within7, W_iff, Option.bind_some]
  by_cases h1 : b = 0 <;> by_cases h2 : g = 0 <;> by_cases h3 : f < 1000 <;>
    simp only [h1, h2, h3, if_true, if_false, decide_true, decide_false, Bool.false_eq_true, reduceIte, show (f ≥ 1000) = ¬ (f < 1000) from by simp, not_true_eq_false, not_false_eq_true]
  all_goals
    apply congrArg some
    apply ite_iff
    simp only [List.forall_mem_cons, List.not_mem_nil, false_implies, implies_true, and_true, offP]
    try rw [w64 (by omega) (by omega)]
    simp only [true_and, true_or, ne_eq, not_true_eq_false, false_and, or_false, and_true]
    first | omega | (constructor <;> intro h <;> omega)
theorem ask_at (k : Nat) (a b c d e f g : Int) : qos_Ask.f (k + 8) a b c d e f g = some (if askP a b c d e f g then 0 else 7) := by
  unfold qos_Ask.f
  rw [within7, W_iff, Option.bind_some]
  apply congrArg some
  apply ite_iff
  simp only [List.forall_mem_cons, List.not_mem_nil, false_implies, implies_true, and_true, askP]
  omega
theorem fits_at (k : Nat) (a b c d e f g a' b' c' d' e' f' g' : Int) : qos_Fits.f (k + 1) a b c d e f g a' b' c' d' e' f' g' = some (if fitP a e f a' e' f' then 0 else 16) := by
  unfold qos_Fits.f
  simp only [qos_Fits.j0, fitP]
  repeat' split
  all_goals simp_all
  all_goals omega
theorem cache_at (k : Nat) (a b c d e f g : Int) (hf : -9223372036854775808 ≤ f) : qos_Cache.f (k + 10) a b c d e f g = some (if offP a b c d e f g then (if b = 0 then d else wrap64 (b * c)) else 0) := by
  unfold qos_Cache.f
  rw [offer_at k a b c d e f g hf, Option.bind_some]
  by_cases h : offP a b c d e f g
  · rw [if_pos h, if_pos h, if_pos rfl]
    split <;> rfl
  · rw [if_neg h, if_neg h]
    rfl
theorem awake_at (k : Nat) : broadsheetlaw24_awake.f (k + 10) = some true := by
  unfold broadsheetlaw24_awake.f
  rw [cache_at k _ _ _ _ _ _ _ (by decide), offer_at k _ _ _ _ _ _ _ (by decide), ask_at (k + 2)]
  decide +kernel
theorem awake' (k : Nat) : (broadsheetlaw24_awake.f (k + 10)).bind (fun t => some t) = some true := by rw [awake_at]; rfl
theorem j3_at (k : Nat) (a b c d e f g a' b' c' d' e' f' g' a1 b1 c1 d1 e1 f1 g1 a2 b2 c2 d2 e2 f2 g2 : Int) (h1 : fitP a e f a1 e1 f1) (h2 : fitP a2 e2 f2 a' e' f') (h3 : fitP a e f a' 0 f') :
    broadsheetlaw24_QosLess.j3 (k + 11) a b c d e f g a' b' c' d' e' f' g' a1 b1 c1 d1 e1 f1 g1 a2 b2 c2 d2 e2 f2 g2 = some true := by
  simp only [broadsheetlaw24_QosLess.j3]
  rw [fits_at (k + 9), fits_at (k + 9), fits_at (k + 9), if_pos h1, if_pos h2, if_pos h3, awake_at]
  rfl
theorem less (a b c d e f g a' b' c' d' e' f' g' n : Int) (hf : -9223372036854775808 ≤ f) : broadsheetlaw24_QosLess.f 20 a b c d e f g a' b' c' d' e' f' g' n = some true := by
  have j0t : broadsheetlaw24_QosLess.j0 20 n true a b c d e f g a' b' c' d' e' f' g' = some true := by
    simp only [broadsheetlaw24_QosLess.j0, if_true]
    exact awake' 9
  unfold broadsheetlaw24_QosLess.f
  rw [offer_at 10 a b c d e f g hf, Option.bind_some]
  by_cases ho : offP a b c d e f g
  · rw [if_pos ho, if_pos rfl, ask_at 12, Option.bind_some]
    by_cases ha : askP a' b' c' d' e' f' g'
    · rw [if_pos ha]
      have hc : ∃ x, (1 ≤ x ∧ x ≤ 64) ∧ (if b = 0 then d else wrap64 (b * c)) = x := by
        refine ⟨_, ?_, rfl⟩
        obtain ⟨_, hb, hc, hd, _⟩ := ho
        split
        · omega
        · have h0 : b = 1 ∨ b = 2 ∨ b = 3 ∨ b = 4 ∨ b = 5 ∨ b = 6 ∨ b = 7 ∨ b = 8 := by omega
          rcases h0 with rfl | rfl | rfl | rfl | rfl | rfl | rfl | rfl <;> (rw [w64 (by omega) (by omega)]; omega)
      obtain ⟨x, hx, hxe⟩ := hc
      have hz : fitP a e f 0 0 1000 := ⟨fun h => by omega, by have := ho.2.2.2.2.2.1; omega, .inl rfl⟩
      simp only [broadsheetlaw24_QosLess.j0]
      rw [if_neg (by decide), cache_at 9 a b c d e f g hf, Option.bind_some, if_pos ho, hxe, if_neg (by omega), if_neg (by omega), fits_at 18, if_pos hz, Option.bind_some]
      simp only [broadsheetlaw24_QosLess.j1]
      rw [if_neg (by decide), fits_at 17, Option.bind_some]
      by_cases hft : fitP a e f a' e' f'
      · rw [if_pos hft, if_pos rfl]
        simp only [broadsheetlaw24_QosLess.j2]
        unfold mx mn
        have o := ho
        have q := ha
        have t := hft
        unfold offP at o
        unfold askP at q
        unfold fitP at t
        repeat' split
        all_goals
          refine j3_at 6 _ _ _ _ _ _ _ _ _ _ _ _ _ _ _ _ _ _ _ _ _ _ _ _ _ _ _ _ ?_ ?_ ?_
        all_goals
          unfold fitP
          omega
      · rw [if_neg hft, if_neg (by decide)]
        exact awake' 8
    · rw [if_neg ha]
      exact j0t
  · rw [if_neg ho, if_neg (by decide)]
    exact j0t
end Go.Proofs.Ytfjcgbkoohjmnaa.QosLessP
