import Derived.Test.YtfjcgbkoohjmnaaName
set_option linter.unusedVariables false
set_option linter.unusedSimpArgs false
namespace Go.Proofs.Ytfjcgbkoohjmnaa.Name
open Go.RowKit Base NameP Go.Proofs.Ytfjcgbkoohjmnaa.PNameTells Go.Proofs.YtfjcgbkoohjmnaaW.PrintWords Go.Proofs.YtfjcgbkoohjmnaaW.PrintLast

theorem lead_unique (s : ByteArray) (m : Nat) (hm : m ≤ s.size) (h1 : ∀ j, j < m → ok s j = true) (h2 : m = s.size ∨ ok s m = false) : Lead s = m := by
  have h3 := Lead_le s
  rcases Nat.lt_trichotomy (Lead s) m with h | h | h
  · have h4 := lead_stop s s.size 0 (by unfold Lead at h; omega)
    have h5 := h1 _ h
    unfold Lead at h5
    rw [h4] at h5
    cases h5
  · exact h
  · have h4 := lead_ok s s.size 0 m (by omega) h
    rcases h2 with h2 | h2
    · omega
    · rw [h4] at h2; cases h2
theorem lead_head (s : ByteArray) : Lead (s.extract 0 (Lead s)) = Lead s := by
  have hl := Lead_le s
  have hsz : (s.extract 0 (Lead s)).size = Lead s := by rw [ByteArray.size_extract]; omega
  refine lead_unique _ _ (by omega) (fun j hj => ?_) (.inl hsz.symm)
  unfold ok
  rw [at_head s _ j hl hj]
  exact lead_ok s s.size 0 j (by omega) hj
theorem at_append (s t : ByteArray) (j : Nat) (hj : j < s.size) : at_ (s ++ t) j = at_ s j := by
  have h1 : j < (s ++ t).size := by rw [ByteArray.size_append]; omega
  unfold at_ bt
  simp only [Int.toNat_natCast]
  rw [dif_pos h1, dif_pos hj]
  congr 1
  rw [ByteArray.getElem_append_left hj]
theorem lead_more (s t : ByteArray) (h : Lead s ≠ s.size) : Lead (s ++ t) = Lead s := by
  have hl := Lead_le s
  refine lead_unique _ _ (by rw [ByteArray.size_append]; omega) (fun j hj => ?_) (.inr ?_)
  · unfold ok
    rw [at_append s t j (by omega)]
    exact lead_ok s s.size 0 j (by omega) hj
  · unfold ok
    rw [at_append s t _ (by omega)]
    exact lead_stop s s.size 0 (by unfold Lead at *; omega)
theorem fnd_at (s : ByteArray) : ∀ (l : List ByteArray) (i : Nat), 0 ≤ fnd s l i → ∃ h : (fnd s l i - i).toNat < l.length, (l[(fnd s l i - i).toNat]).toList = s.toList
  | [], i, h => by simp [fnd] at h
  | x :: r, i, h => by
    unfold fnd at h ⊢
    split
    · rename_i e
      rw [if_pos e] at h
      have : ((i : Int) - i).toNat = 0 := by omega
      refine ⟨by rw [this]; simp, ?_⟩
      simp only [this, List.getElem_cons_zero]
      exact e
    · rename_i e
      rw [if_neg e] at h
      obtain ⟨h1, h2⟩ := fnd_at s r (i + 1) h
      rcases fnd_ge s r (i + 1) with h3 | h3
      · omega
      · have hn : (fnd s r (i + 1) - i).toNat = (fnd s r (i + 1) - ((i + 1 : Nat) : Int)).toNat + 1 := by omega
        refine ⟨by rw [hn, List.length_cons]; omega, ?_⟩
        simp only [hn, List.getElem_cons_succ]
        exact h2
theorem bytes_ext {a b : ByteArray} (h : a.toList = b.toList) : a = b := by
  rw [ByteArray.toList_eq, ByteArray.toList_eq] at h
  exact ByteArray.ext (Array.toList_inj.1 h)
theorem twice_at (l : List ByteArray) (i : Nat) (hi : i < l.length) (h : fnd l[i] (l.take i) 0 ≠ -1) (d : Nat) : ∀ j, j ≤ i → j + d = l.length → (j : Int) ≤ twice l d j ∧ twice l d j ≤ (i : Int) := by
  induction d with
  | zero => intro j h1 h2; omega
  | succ d ih =>
    intro j h1 h2
    rw [twice]
    split
    · rename_i e
      have hne : j ≠ i := by
        rintro rfl
        rw [getD_at l j hi] at e
        exact h e
      have := ih (j + 1) (by omega) (by omega)
      omega
    · omega
/-- What the loop of NameLeads asks of its list, at a place. -/
theorem place_facts (l : List ByteArray) (i : Nat) (hi : i < l.length) : ∃ k : Nat, fnd l[i] l 0 = (k : Int) ∧ k ≤ i ∧ (∃ h : k < l.length, l[k] = l[i]) ∧ (k < i → 0 ≤ twice l l.length 0 ∧ twice l l.length 0 ≤ (i : Int)) := by
  obtain ⟨h1, h2, h3⟩ := fnd_own l i hi
  obtain ⟨h4, h5⟩ := fnd_at l[i] l 0 h1
  refine ⟨(fnd l[i] l 0).toNat, by omega, by omega, ?_, fun h => ?_⟩
  · have e : (fnd l[i] l 0 - ((0 : Nat) : Int)).toNat = (fnd l[i] l 0).toNat := by simp
    simp only [e] at h4 h5
    exact ⟨h4, bytes_ext h5⟩
  · exact twice_at l i hi (h3.1 (by omega)) l.length 0 (by omega) (by omega)

theorem lead_walk (s : ByteArray) (w : World) (hs : s.size ≤ 140737488351240) : Calls Try.prog 34 #[.string s] w fun e w' => e = .returned (.int .i64 (Lead s : Nat)) ∧ Below w.heap.size w w' := by
  obtain ⟨k, hk⟩ := Ev.rounds (Lead_ev s hs)
  exact (name_Lead.calls k s _ w hk).mono fun e w' h => ⟨h.1, drawn_below h.2⟩
theorem name_walk (s : ByteArray) (w : World) (hs : s.size ≤ 140737488351232) : Calls Try.prog 32 #[.string s] w fun e w' => e = .returned (.bool (name s)) ∧ Below w.heap.size w w' := by
  obtain ⟨k, hk⟩ := Ev.rounds (name_ev s hs)
  exact (name_Name.calls k s _ w hk).mono fun e w' h => ⟨h.1, drawn_below h.2⟩
theorem word_walk (s : ByteArray) (w : World) : Calls Try.prog 30 #[.string s] w fun e w' => e = .returned (.bool (word s)) ∧ Below w.heap.size w w' :=
  (name_Word.calls s _ w (word_eq s)).mono fun e w' h => ⟨h.1, drawn_below h.2⟩
theorem name_facts {s : ByteArray} (h : name s = true) : Lead s = s.size ∧ s.size ≤ 16 ∧ word s = false := by
  unfold name formed at h
  simp only [Bool.and_eq_true, decide_eq_true_eq, Bool.not_eq_true'] at h
  exact ⟨h.1.2, h.2.1, h.2.2⟩
end Go.Proofs.Ytfjcgbkoohjmnaa.Name
