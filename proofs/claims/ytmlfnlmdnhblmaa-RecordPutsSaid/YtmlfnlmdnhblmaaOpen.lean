import Derived.ProofKit
import Derived.SizedLaws
import Derived.Test.YtmlfnlmdnhblmaaBase
set_option linter.unusedVariables false
set_option linter.unusedSimpArgs false
namespace Go.Proofs.Ytmlfnlmdnhblmaa.Open
open Go.RowKit Base
section
variable {H : Type} {enc : TypeId × Value → H} {P : Program} {w : World}
/-- Some cells read as a value of a type, and whatever is in it is no larger than what may come in. -/
def Tr {H : Type} (enc : TypeId × Value → H) (P : Program) (w : World) (t : TypeId) (cs : List Value) : Prop :=
  ∃ fuel x, DataW.trod enc P w 0 (fun _ => true) true fuel t cs = some x ∧ ∀ n ∈ x.1.weights P t, n ≤ reachBytes

/-- An argument as the row has it: how it reads, and how large it is. -/
def TrodZ {H : Type} (enc : TypeId × Value → H) (P : Program) (w : World) (t : TypeId) (v : Value) (d : DataW H) (ps : List MemPlace) : Prop :=
  DataW.Trod enc P w 0 (fun _ => true) true t v d ps ∧ ∀ n ∈ d.weights P t, n ≤ reachBytes

theorem tr_of {t : TypeId} {v : Value} {d : DataW H} {ps : List MemPlace} (h : TrodZ enc P w t v d ps) : Tr enc P w t v.cells.toList := by
  obtain ⟨⟨f, h⟩, hz⟩ := h
  exact ⟨f, _, h, hz⟩

theorem tr_int {t : TypeId} {k : IntKind} {cs : List Value} (hu : P.underlying t = some (.int k)) (h : Tr enc P w t cs) : ∃ n, cs = [.int k n] ∧ (Lit.int k n).wf = true := by
  obtain ⟨f, x, h, _⟩ := h
  cases f with
  | zero => simp [DataW.trod] at h
  | succ f =>
    simp only [DataW.trod, hu] at h
    split at h <;> simp_all

theorem tr_bool {t : TypeId} {cs : List Value} (hu : P.underlying t = some .bool) (h : Tr enc P w t cs) : ∃ b, cs = [.bool b] := by
  obtain ⟨f, x, h, _⟩ := h
  cases f with
  | zero => simp [DataW.trod] at h
  | succ f =>
    simp only [DataW.trod, hu] at h
    split at h <;> simp_all

theorem tr_string {t : TypeId} {cs : List Value} (hu : P.underlying t = some .string) (h : Tr enc P w t cs) : ∃ s, cs = [.string s] ∧ s.size ≤ reachBytes := by
  obtain ⟨f, x, h, hz⟩ := h
  cases f with
  | zero => simp [DataW.trod] at h
  | succ f =>
    simp only [DataW.trod, hu] at h
    split at h <;> try (simp_all; done)
    rename_i s _
    split at h
    · obtain rfl := (Option.some.inj h).symm
      refine ⟨s, rfl, ?_⟩
      have := hz s.data.toList.length (by simp [DataW.weights])
      rw [Array.length_toList] at this
      exact this
    · simp at h

theorem mapM_at {α β : Type} {g : α → Option β} : ∀ {l : List α} {r : List β}, l.mapM g = some r → r.length = l.length ∧ ∀ (i : Nat) (a : α), l[i]? = some a → ∃ b, r[i]? = some b ∧ g a = some b
  | [], r, h => by
    obtain rfl : [] = r := by simpa using h
    exact ⟨rfl, fun i a h => by simp at h⟩
  | x :: l, r, h => by
    simp only [List.mapM_cons, Option.pure_def, Option.bind_eq_bind] at h
    cases hx : g x with
    | none => simp [hx] at h
    | some b =>
      simp only [hx, Option.bind_some] at h
      cases hl : l.mapM g with
      | none => simp [hl] at h
      | some bs =>
        simp only [hl, Option.bind_some, Option.some.injEq] at h
        subst h
        obtain ⟨e1, e2⟩ := mapM_at hl
        refine ⟨by simp [e1], fun i a hi => ?_⟩
        cases i with
        | zero =>
          obtain rfl : x = a := by simpa using hi
          exact ⟨b, rfl, hx⟩
        | succ i =>
          obtain ⟨y, h1, h2⟩ := e2 i a (by simpa using hi)
          exact ⟨y, by simpa using h1, h2⟩
theorem all_mem {e : TypeId} : ∀ {l : List (DataW H)} {d : DataW H}, d ∈ l → ∀ n ∈ d.weights P e, n ∈ DataW.weightsAll P e l
  | y :: l, d, hd, n, hn => by
    simp only [DataW.weightsAll, List.mem_append]
    rcases List.mem_cons.1 hd with rfl | hd
    · exact .inl hn
    · exact .inr (all_mem hd n hn)

theorem tr_array {t e : TypeId} {n : Nat} {cs : List Value} (hu : P.underlying t = some (.array n e)) (h : Tr enc P w t cs) :
    cs.length = P.cellsOf t ∧ ∀ i, i < n → Tr enc P w e ((cs.drop (i * P.cellsOf e)).take (P.cellsOf e)) := by
  obtain ⟨f, x, h, hz⟩ := h
  cases f with
  | zero => simp [DataW.trod] at h
  | succ f =>
    simp only [DataW.trod, hu] at h
    split at h
    · rename_i hl
      refine ⟨hl, fun i hi => ?_⟩
      cases hm : (List.range n).mapM fun i => DataW.trod enc P w 0 (fun _ => true) true f e ((cs.drop (i * P.cellsOf e)).take (P.cellsOf e)) with
      | none => simp [hm] at h
      | some r =>
        simp only [hm, Option.map_some, Option.some.injEq] at h
        subst h
        obtain ⟨b, hb, hg⟩ := (mapM_at hm).2 i i (List.getElem?_range hi)
        refine ⟨f, b, hg, fun n hn => hz n ?_⟩
        simp only [DataW.weights, hu]
        exact all_mem (List.mem_map.2 ⟨b, List.mem_of_getElem? hb, rfl⟩) n hn
    · simp at h

theorem tr_struct {t : TypeId} {fs : Array Field} {cs : List Value} (hu : P.underlying t = some (.struct fs)) (h : Tr enc P w t cs) :
    cs.length = P.cellsOf t ∧ ∀ f ∈ fs.toList, Tr enc P w f.type ((cs.drop f.offset).take (P.cellsOf f.type)) := by
  obtain ⟨f, x, h, hz⟩ := h
  cases f with
  | zero => simp [DataW.trod] at h
  | succ f =>
    simp only [DataW.trod, hu] at h
    split at h
    · rename_i hl
      refine ⟨hl, fun g hg => ?_⟩
      cases hm : fs.toList.mapM fun g => DataW.trod enc P w 0 (fun _ => true) true f g.type ((cs.drop g.offset).take (P.cellsOf g.type)) with
      | none => simp [hm] at h
      | some r =>
        simp only [hm, Option.map_some, Option.some.injEq] at h
        subst h
        obtain ⟨j, hj⟩ := List.mem_iff_getElem?.1 hg
        obtain ⟨b, hb, hgb⟩ := (mapM_at hm).2 j g hj
        refine ⟨f, b, hgb, fun n hn => hz n ?_⟩
        simp only [DataW.weights, hu]
        exact DataW.weights_mem_each (j := j) (by rw [List.getElem?_map, hj]; rfl) (by rw [List.getElem?_map, hb]; rfl) n hn
    · simp at h

theorem tr_slice {t e : TypeId} {cs : List Value} (hu : P.underlying t = some (.slice e)) (h : Tr enc P w t cs) :
    (cs = [.slice none 0 0]) ∨ ∃ a len cap, cs = [.slice (some a) len cap] ∧ len ≤ cap ∧ cap ≤ maxLen ∧ cap * P.bytesOf e ≤ reachBytes ∧ ∀ i, i < len → ∃ c, w.cells? 0 (a.add (i * P.cellsOf e)) (P.cellsOf e) = some c ∧ Tr enc P w e c := by
  obtain ⟨f, x, h, hz⟩ := h
  cases f with
  | zero => simp [DataW.trod] at h
  | succ f =>
    simp only [DataW.trod, hu] at h
    split at h <;> try (simp_all; done)
    rename_i _ _ e' a len cap hu' 
    obtain rfl : e = e' := by simpa using hu'
    refine .inr ⟨a, len, cap, rfl, ?_⟩
    split at h
    · rename_i hb
      cases hm : (List.range len).mapM fun i => (w.cells? 0 (a.add (i * P.cellsOf e)) (P.cellsOf e)).bind (DataW.trod enc P w 0 (fun _ => true) true f e) with
      | none => simp [hm] at h
      | some r =>
        cases hm2 : (List.range (cap - len)).mapM fun j => (w.cells? 0 (a.add ((len + j) * P.cellsOf e)) (P.cellsOf e)).bind (DataW.trod enc P w 0 (fun _ => true) true f e) with
        | none => simp [hm, hm2] at h
        | some r2 =>
          simp only [hm, hm2, if_true, Option.bind_some, Option.map_some, Option.some.injEq] at h
          subst h
          obtain ⟨l1, h1⟩ := mapM_at hm
          obtain ⟨l2, _⟩ := mapM_at hm2
          rw [List.length_range] at l1 l2
          refine ⟨hb.2.1, hb.2.2, ?_, fun i hi => ?_⟩
          · have := hz ((r.map (·.1)).length + (r2.map (·.1)).length |>.mul (P.bytesOf e)) (by simp [DataW.weights, hu])
            simp only [List.length_map, l1, l2] at this
            have e1 : len + (cap - len) = cap := by omega
            rw [e1] at this
            exact this
          · obtain ⟨b, hbi, hgb⟩ := h1 i i (List.getElem?_range hi)
            cases hc : w.cells? 0 (a.add (i * P.cellsOf e)) (P.cellsOf e) with
            | none => simp [hc] at hgb
            | some c =>
              refine ⟨c, rfl, f, b, by simpa [hc] using hgb, fun n hn => hz n ?_⟩
              simp only [DataW.weights, hu, List.mem_cons, List.mem_append]
              exact .inr (.inl (all_mem (List.mem_map.2 ⟨b, List.mem_of_getElem? hbi, rfl⟩) n hn))
    · simp at h

/-- An argument that is an array. -/
theorem agg_array {r : Reach} {base : Nat} {t e : TypeId} {n : Nat} {v : Value} {d : DataW H} {ps : List MemPlace} (hu : P.underlying t = some (.array n e)) (hok : Value.okWide P w r base t v)
    (h : TrodZ enc P w t v d ps) : ∃ cs : Array Value, v = .agg cs ∧ cs.size = P.cellsOf t ∧ Tr enc P w t cs.toList := by
  unfold Value.okWide at hok
  rw [hu] at hok
  obtain ⟨cs, rfl, hs, _⟩ := hok
  exact ⟨cs, rfl, hs, tr_of h⟩
/-- An argument that is a struct. -/
theorem agg_struct {r : Reach} {base : Nat} {t : TypeId} {fs : Array Field} {v : Value} {d : DataW H} {ps : List MemPlace} (hu : P.underlying t = some (.struct fs)) (hok : Value.okWide P w r base t v)
    (h : TrodZ enc P w t v d ps) : ∃ cs : Array Value, v = .agg cs ∧ cs.size = P.cellsOf t ∧ Tr enc P w t cs.toList := by
  unfold Value.okWide at hok
  rw [hu] at hok
  obtain ⟨cs, rfl, hs, _⟩ := hok
  exact ⟨cs, rfl, hs, tr_of h⟩

theorem two_u64 {t e : TypeId} {cs : Array Value} (hu : P.underlying t = some (.array 2 e)) (he : P.underlying e = some (.int .u64)) (hn : P.cellsOf t = 2 ∧ P.cellsOf e = 1) (hs : cs.size = P.cellsOf t) (h : Tr enc P w t cs.toList) :
    ∃ x y, cs = #[.int .u64 x, .int .u64 y] ∧ 0 ≤ x ∧ x < 18446744073709551616 ∧ 0 ≤ y ∧ y < 18446744073709551616 := by
  obtain ⟨h1, h2⟩ := hn
  rw [h1] at hs
  obtain ⟨_, h⟩ := tr_array hu h
  rw [h2] at h
  obtain ⟨l⟩ := cs
  match l, hs with
  | [a, b], _ =>
    obtain ⟨x, e0, w0⟩ := tr_int he (h 0 (by omega))
    obtain ⟨y, e1, w1⟩ := tr_int he (h 1 (by omega))
    simp at e0 e1
    exact ⟨x, y, by rw [e0, e1], (wf_u64 w0).1, (wf_u64 w0).2, (wf_u64 w1).1, (wf_u64 w1).2⟩
end
end Go.Proofs.Ytmlfnlmdnhblmaa.Open
