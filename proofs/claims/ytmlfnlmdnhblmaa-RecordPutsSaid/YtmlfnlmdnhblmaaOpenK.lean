import Derived.Test.YtmlfnlmdnhblmaaOpen2
import Derived.Test.YtmlfnlmdnhblmaaWWords
set_option linter.unusedVariables false
set_option linter.unusedSimpArgs false
namespace Go.Proofs.Ytmlfnlmdnhblmaa.Open
open Go.RowKit Base Go.Proofs.YtmlfnlmdnhblmaaW.PrintWords
section
variable {H : Type} {enc : TypeId × Value → H} {P : Program} {w : World}
/-- A type's cells open as a kind's. -/
def Opens (P : Program) {α : Type} (t : TypeId) (d : Kd α) (G : α → Prop) : Prop :=
  ∀ (H : Type) (enc : TypeId × Value → H) (w : World) (cs : List Value), Tr enc P w t cs → ∃ a, d.K w a cs ∧ G a
theorem opens_int {t : TypeId} {k : IntKind} (hu : P.underlying t = some (.int k)) : Opens P t (Kd.int k) (fun n => (Lit.int k n).wf = true) := by
  intro H enc w cs h
  obtain ⟨n, rfl, hw⟩ := tr_int hu h
  exact ⟨n, rfl, hw⟩
theorem opens_bool {t : TypeId} (hu : P.underlying t = some .bool) : Opens P t Kd.bool (fun _ => True) := by
  intro H enc w cs h
  obtain ⟨n, rfl⟩ := tr_bool hu h
  exact ⟨n, rfl, trivial⟩
theorem opens_string {t : TypeId} (hu : P.underlying t = some .string) : Opens P t Kd.string (fun s => s.size ≤ reachBytes) := by
  intro H enc w cs h
  obtain ⟨n, rfl, hs⟩ := tr_string hu h
  exact ⟨n, rfl, hs⟩
theorem cells_spec {base : Nat} {a : Addr} {n : Nat} {c : List Value} (h : w.cells? base a n = some c) : c.length = n ∧ ∀ i u, c[i]? = some u → w.cell? (a.add i) = some u := by
  unfold World.cells? at h
  split at h
  · have hg : ∀ {α β : Type} {g : α → Option β} {l : List α} {r : List β}, l.mapM g = some r → r.length = l.length ∧ ∀ (i : Nat) (u : β), r[i]? = some u → ∃ x, l[i]? = some x ∧ g x = some u := by
      intro α β g l
      induction l with
      | nil =>
        intro r h
        obtain rfl : [] = r := by simpa using h
        exact ⟨rfl, fun i u h => by simp at h⟩
      | cons x l ih =>
        intro r h
        simp only [List.mapM_cons, Option.pure_def, Option.bind_eq_bind] at h
        cases hx : g x with
        | none => simp [hx] at h
        | some b =>
          simp only [hx, Option.bind_some] at h
          cases hl : l.mapM g with
          | none => simp [hl] at h
          | some bs =>
            simp only [hl, Option.bind_some, Option.some.injEq] at h
            subst h
            obtain ⟨e1, e2⟩ := ih hl
            refine ⟨by simp [e1], fun i u hi => ?_⟩
            cases i with
            | zero =>
              obtain rfl : b = u := by simpa using hi
              exact ⟨x, rfl, hx⟩
            | succ i =>
              obtain ⟨y, h1, h2⟩ := e2 i u (by simpa using hi)
              exact ⟨y, by simpa using h1, h2⟩
    obtain ⟨e1, e2⟩ := hg h
    refine ⟨by rw [e1, List.length_range], fun i u hi => ?_⟩
    obtain ⟨y, h1, h2⟩ := e2 i u hi
    obtain ⟨hl, h1⟩ := List.getElem?_eq_some_iff.1 h1
    rw [List.getElem_range] at h1
    rw [h1]
    exact h2
  · simp at h
theorem opens_slice {α : Type} {t e : TypeId} {d : Kd α} {G : α → Prop} (hu : P.underlying t = some (.slice e)) (he : Opens P e d G) (hs : P.cellsOf e = d.sz) :
    Opens P t (Kd.slice e d) (fun l => (l.length ≤ maxLen ∧ l.length * P.bytesOf e ≤ reachBytes) ∧ ∀ x ∈ l, G x) := by
  intro H enc w cs h
  rcases tr_slice hu h with rfl | ⟨a, len, cap, rfl, h1, h2, hby, h3⟩
  · exact ⟨[], ⟨none, 0, rfl, Nat.le_refl _, rfl, by simp, (fun h => by simp at h)⟩, ⟨by simp, by simp⟩, (fun x hx => by cases hx)⟩
  · have key : ∀ n, n ≤ len → ∃ l : List α, l.length = n ∧ (∀ x ∈ l, G x) ∧ ∀ j p, l[j]? = some p → ∃ c, c.length = d.sz ∧ d.K w p c ∧ ∀ i u, c[i]? = some u → w.cell? (a.add (j * d.sz + i)) = some u := by
      intro n
      induction n with
      | zero => exact fun _ => ⟨[], rfl, (fun x hx => by cases hx), (fun j p h => by simp at h)⟩
      | succ n ih =>
        intro hn
        obtain ⟨l, hl, hG, hc⟩ := ih (by omega)
        obtain ⟨c, hcell, htr⟩ := h3 n (by omega)
        obtain ⟨x, hK, hGx⟩ := he H enc w c htr
        obtain ⟨hlen, hget⟩ := cells_spec hcell
        refine ⟨l ++ [x], by simp [hl], fun y hy => ?_, fun j p hj => ?_⟩
        · rcases List.mem_append.1 hy with hy | hy
          · exact hG y hy
          · rw [List.mem_singleton.1 hy]; exact hGx
        · rcases Nat.lt_or_ge j l.length with hjl | hjl
          · rw [List.getElem?_append_left hjl] at hj
            exact hc j p hj
          · have hj' : j = n := by
              have := (List.getElem?_eq_some_iff.1 hj).1
              rw [List.length_append, List.length_singleton] at this
              omega
            subst hj'
            rw [List.getElem?_append_right hjl, hl, Nat.sub_self] at hj
            have hp : x = p := by simpa using hj
            subst hp
            refine ⟨c, by rw [hlen, hs], hK, fun i u hi => ?_⟩
            have := hget i u hi
            rw [hs, add_add] at this
            exact this
    obtain ⟨l, hl, hG, hc⟩ := key len (Nat.le_refl _)
    subst hl
    exact ⟨l, ⟨some a, cap, rfl, h1, rfl, by unfold maxLen at h2; omega, fun _ => ⟨a, rfl, hc⟩⟩, ⟨Nat.le_trans h1 h2, Nat.le_trans (Nat.mul_le_mul_right _ h1) hby⟩, hG⟩
theorem slice_arg {α : Type} {t e : TypeId} {k : Kd α} {G : α → Prop} {r : Reach} {base : Nat} {v : Value} {d : DataW H} {ps : List MemPlace}
    (hu : P.underlying t = some (.slice e)) (he : Opens P e k G) (hs : P.cellsOf e = k.sz) (hok : Value.okWide P w r base t v) (h : TrodZ enc P w t v d ps) :
    ∃ (A : Option Addr) (c : Nat) (l : List α), v = .slice A l.length c ∧ Kd.C k w A l.length l ∧ l.length ≤ c ∧ (l.length ≤ maxLen ∧ l.length * P.bytesOf e ≤ reachBytes) ∧ ∀ x ∈ l, G x := by
  obtain ⟨a, len, cap, rfl⟩ := Go.WideShapes.okWide_slice hu hok
  obtain ⟨l, ⟨A, c, e, hc, hC⟩, hl, hG⟩ := opens_slice hu he hs H enc w _ (tr_of h)
  have e' : [Value.slice a len cap] = [Value.slice A l.length c] := e
  exact ⟨A, c, l, (List.cons.inj e').1, hC, hc, hl, hG⟩
end
end Go.Proofs.Ytmlfnlmdnhblmaa.Open
