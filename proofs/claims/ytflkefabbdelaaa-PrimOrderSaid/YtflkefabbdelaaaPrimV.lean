import Derived.Test.YtflkefabbdelaaaOpenS
set_option linter.unusedVariables false
set_option linter.unusedSimpArgs false
namespace Go.Proofs.Ytflkefabbdelaaa.Prim
open Go.RowKit Base Go.Proofs.YtflkefabbdelaaaW.PrintWords
def nums (k : IntKind) (xs : List Int) : List Value := xs.map (.int k)
theorem nums_length (k : IntKind) (xs : List Int) : (nums k xs).length = xs.length := by unfold nums; rw [List.length_map]
section
variable {H : Type} {enc : TypeId × Value → H} {w : World}
/-- An array argument of some ints. -/
theorem ints_arg {P : Program} {t e : TypeId} {n : Nat} {k : IntKind} {r : Reach} {base : Nat} {v : Value} {d : DataW H} {ps : List MemPlace} (hu : P.underlying t = some (.array n e)) (he : P.underlying e = some (.int k)) (hn : P.cellsOf t = n ∧ P.cellsOf e = 1)
    (hok : Value.okWide P w r base t v) (h : Open.TrodZ enc P w t v d ps) : ∃ xs : List Int, v = .agg (nums k xs).toArray ∧ xs.length = n ∧ ∀ x ∈ xs, (Lit.int k x).wf = true := by
  obtain ⟨cs, rfl, hs, ht⟩ := Open.agg_array hu hok h
  obtain ⟨hl, ha⟩ := Open.tr_array hu ht
  rw [hn.2] at ha
  have key : ∀ (l : List Value), (∀ v ∈ l, ∃ m, v = .int k m ∧ (Lit.int k m).wf = true) → ∃ xs : List Int, l = nums k xs ∧ ∀ x ∈ xs, (Lit.int k x).wf = true := by
    intro l
    induction l with
    | nil => exact fun _ => ⟨[], rfl, fun x hx => by cases hx⟩
    | cons u l ih =>
      intro hh
      obtain ⟨xs, rfl, hx⟩ := ih (fun u hu => hh u (List.mem_cons_of_mem _ hu))
      obtain ⟨m, rfl, hw⟩ := hh u (List.mem_cons_self ..)
      refine ⟨m :: xs, rfl, fun x hm => ?_⟩
      rcases List.mem_cons.1 hm with rfl | hm
      · exact hw
      · exact hx x hm
  have hcl : cs.toList.length = n := by rw [hl, hn.1]
  obtain ⟨xs, hx, hw⟩ := key cs.toList (fun v hv => by
    obtain ⟨i, hi, rfl⟩ := List.getElem_of_mem hv
    obtain ⟨m, e', hw⟩ := Open.tr_int he (ha i (by omega))
    refine ⟨m, ?_, hw⟩
    have := congrArg (·[0]?) e'
    simpa [List.getElem?_take, List.getElem?_drop, List.getElem?_eq_getElem hi] using this)
  refine ⟨xs, ?_, ?_, hw⟩
  · rw [← hx]
  · have := congrArg List.length hx
    rw [nums_length] at this
    omega
end
theorem three_of {xs : List Int} (h : xs.length = 3) : ∃ a b c, xs = [a, b, c] := by
  match xs, h with
  | [a, b, c], _ => exact ⟨a, b, c, rfl⟩
end Go.Proofs.Ytflkefabbdelaaa.Prim
