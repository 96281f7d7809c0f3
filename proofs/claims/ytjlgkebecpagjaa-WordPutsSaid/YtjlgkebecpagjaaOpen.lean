import Derived.ProofKit
import Derived.Test.YtjlgkebecpagjaaBase
set_option linter.unusedVariables false
set_option linter.unusedSimpArgs false
namespace Go.Proofs.Ytjlgkebecpagjaa.Open
open Go.RowKit Base
section
variable {H : Type} {enc : TypeId × Value → H} {P : Program} {w : World}
/-- Some cells read as a value of a type. -/
def Tr {H : Type} (enc : TypeId × Value → H) (P : Program) (w : World) (t : TypeId) (cs : List Value) : Prop :=
  ∃ fuel x, DataW.trod enc P w 0 (fun _ => true) true fuel t cs = some x

theorem tr_of {t : TypeId} {v : Value} {d : DataW H} {ps : List MemPlace} (h : DataW.Trod enc P w 0 (fun _ => true) true t v d ps) : Tr enc P w t v.cells.toList := by
  obtain ⟨f, h⟩ := h
  exact ⟨f, _, h⟩

theorem tr_int {t : TypeId} {k : IntKind} {cs : List Value} (hu : P.underlying t = some (.int k)) (h : Tr enc P w t cs) : ∃ n, cs = [.int k n] ∧ (Lit.int k n).wf = true := by
  obtain ⟨f, x, h⟩ := h
  cases f with
  | zero => simp [DataW.trod] at h
  | succ f =>
    simp only [DataW.trod, hu] at h
    split at h <;> simp_all

theorem tr_bool {t : TypeId} {cs : List Value} (hu : P.underlying t = some .bool) (h : Tr enc P w t cs) : ∃ b, cs = [.bool b] := by
  obtain ⟨f, x, h⟩ := h
  cases f with
  | zero => simp [DataW.trod] at h
  | succ f =>
    simp only [DataW.trod, hu] at h
    split at h <;> simp_all

theorem tr_string {t : TypeId} {cs : List Value} (hu : P.underlying t = some .string) (h : Tr enc P w t cs) : ∃ s, cs = [.string s] ∧ s.size ≤ maxLen := by
  obtain ⟨f, x, h⟩ := h
  cases f with
  | zero => simp [DataW.trod] at h
  | succ f =>
    simp only [DataW.trod, hu] at h
    split at h <;> simp_all

theorem mapM_some {α β : Type} {g : α → Option β} : ∀ {l : List α} {r : List β}, l.mapM g = some r → ∀ a ∈ l, ∃ b, g a = some b
  | [], _, _, a, ha => by simp at ha
  | x :: l, r, h, a, ha => by
    simp only [List.mapM_cons, Option.pure_def, Option.bind_eq_bind] at h
    cases hx : g x with
    | none => simp [hx] at h
    | some b =>
      simp only [hx, Option.bind_some] at h
      cases hl : l.mapM g with
      | none => simp [hl] at h
      | some bs =>
        rcases List.mem_cons.1 ha with rfl | ha
        · exact ⟨b, hx⟩
        · exact mapM_some hl a ha

theorem tr_array {t e : TypeId} {n : Nat} {cs : List Value} (hu : P.underlying t = some (.array n e)) (h : Tr enc P w t cs) :
    cs.length = P.cellsOf t ∧ ∀ i, i < n → Tr enc P w e ((cs.drop (i * P.cellsOf e)).take (P.cellsOf e)) := by
  obtain ⟨f, x, h⟩ := h
  cases f with
  | zero => simp [DataW.trod] at h
  | succ f =>
    simp only [DataW.trod, hu] at h
    split at h
    · rename_i hl
      refine ⟨hl, fun i hi => ?_⟩
      cases hm : (List.range n).mapM fun i => DataW.trod enc P w 0 (fun _ => true) true f e ((cs.drop (i * P.cellsOf e)).take (P.cellsOf e)) with
      | none => simp [hm] at h
      | some r =>
        obtain ⟨b, hb⟩ := mapM_some hm i (List.mem_range.2 hi)
        exact ⟨f, b, hb⟩
    · simp at h

theorem tr_struct {t : TypeId} {fs : Array Field} {cs : List Value} (hu : P.underlying t = some (.struct fs)) (h : Tr enc P w t cs) :
    cs.length = P.cellsOf t ∧ ∀ f ∈ fs.toList, Tr enc P w f.type ((cs.drop f.offset).take (P.cellsOf f.type)) := by
  obtain ⟨f, x, h⟩ := h
  cases f with
  | zero => simp [DataW.trod] at h
  | succ f =>
    simp only [DataW.trod, hu] at h
    split at h
    · rename_i hl
      refine ⟨hl, fun g hg => ?_⟩
      cases hm : fs.toList.mapM fun g => DataW.trod enc P w 0 (fun _ => true) true f g.type ((cs.drop g.offset).take (P.cellsOf g.type)) with
      | none => simp [hm] at h
      | some r =>
        obtain ⟨b, hb⟩ := mapM_some hm g hg
        exact ⟨f, b, hb⟩
    · simp at h

theorem tr_slice {t e : TypeId} {cs : List Value} (hu : P.underlying t = some (.slice e)) (h : Tr enc P w t cs) :
    (cs = [.slice none 0 0]) ∨ ∃ a len cap, cs = [.slice (some a) len cap] ∧ len ≤ cap ∧ cap ≤ maxLen ∧ ∀ i, i < len → ∃ c, w.cells? 0 (a.add (i * P.cellsOf e)) (P.cellsOf e) = some c ∧ Tr enc P w e c := by
  obtain ⟨f, x, h⟩ := h
  cases f with
  | zero => simp [DataW.trod] at h
  | succ f =>
    simp only [DataW.trod, hu] at h
    split at h <;> try (simp_all; done)
    rename_i _ _ e' a len cap hu' 
    obtain rfl : e = e' := by simpa using hu'
    refine .inr ⟨a, len, cap, rfl, ?_⟩
    split at h
    · rename_i hb
      refine ⟨hb.2.1, hb.2.2, fun i hi => ?_⟩
      cases hm : (List.range len).mapM fun i => (w.cells? 0 (a.add (i * P.cellsOf e)) (P.cellsOf e)).bind (DataW.trod enc P w 0 (fun _ => true) true f e) with
      | none => simp [hm] at h
      | some r =>
        obtain ⟨b, hb⟩ := mapM_some hm i (List.mem_range.2 hi)
        cases hc : w.cells? 0 (a.add (i * P.cellsOf e)) (P.cellsOf e) with
        | none => simp [hc] at hb
        | some c => exact ⟨c, rfl, f, b, by simpa [hc] using hb⟩
    · simp at h

/-- An argument that is an array. -/
theorem agg_array {r : Reach} {base : Nat} {t e : TypeId} {n : Nat} {v : Value} {d : DataW H} {ps : List MemPlace} (hu : P.underlying t = some (.array n e)) (hok : Value.okWide P w r base t v)
    (h : DataW.Trod enc P w 0 (fun _ => true) true t v d ps) : ∃ cs : Array Value, v = .agg cs ∧ cs.size = P.cellsOf t ∧ Tr enc P w t cs.toList := by
  unfold Value.okWide at hok
  rw [hu] at hok
  obtain ⟨cs, rfl, hs, _⟩ := hok
  exact ⟨cs, rfl, hs, tr_of h⟩
/-- An argument that is a struct. -/
theorem agg_struct {r : Reach} {base : Nat} {t : TypeId} {fs : Array Field} {v : Value} {d : DataW H} {ps : List MemPlace} (hu : P.underlying t = some (.struct fs)) (hok : Value.okWide P w r base t v)
    (h : DataW.Trod enc P w 0 (fun _ => true) true t v d ps) : ∃ cs : Array Value, v = .agg cs ∧ cs.size = P.cellsOf t ∧ Tr enc P w t cs.toList := by
  unfold Value.okWide at hok
  rw [hu] at hok
  obtain ⟨cs, rfl, hs, _⟩ := hok
  exact ⟨cs, rfl, hs, tr_of h⟩

theorem two_u64 {t e : TypeId} {cs : Array Value} (hu : P.underlying t = some (.array 2 e)) (he : P.underlying e = some (.int .u64)) (hn : P.cellsOf t = 2 ∧ P.cellsOf e = 1) (hs : cs.size = P.cellsOf t) (h : Tr enc P w t cs.toList) :
    ∃ x y, cs = #[.int .u64 x, .int .u64 y] ∧ 0 ≤ x ∧ x < 18446744073709551616 ∧ 0 ≤ y ∧ y < 18446744073709551616 := by
  obtain ⟨h1, h2⟩ := hn
  rw [h1] at hs
  obtain ⟨_, h⟩ := tr_array hu h
  rw [h2] at h
  obtain ⟨l⟩ := cs
  match l, hs with
  | [a, b], _ =>
    obtain ⟨x, e0, w0⟩ := tr_int he (h 0 (by omega))
    obtain ⟨y, e1, w1⟩ := tr_int he (h 1 (by omega))
    simp at e0 e1
    exact ⟨x, y, by rw [e0, e1], (wf_u64 w0).1, (wf_u64 w0).2, (wf_u64 w1).1, (wf_u64 w1).2⟩
end
end Go.Proofs.Ytjlgkebecpagjaa.Open
