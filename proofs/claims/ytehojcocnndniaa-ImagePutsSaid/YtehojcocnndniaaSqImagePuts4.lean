import Derived.ProofKit
import Derived.SizedLaws
import Derived.Test.YtehojcocnndniaaWWords
import Derived.Test.YtehojcocnndniaaSqImagePuts3
set_option linter.unusedVariables false
set_option linter.unusedSimpArgs false
namespace Go.Proofs.Ytehojcocnndniaa.Open
open Go.RowKit Base
section
variable {H : Type} {enc : TypeId × Value → H} {P : Program} {w : World}
/-- Some cells read as a value of a type, and whatever is in it is no larger than what may come in. -/
def Tr {H : Type} (enc : TypeId × Value → H) (P : Program) (w : World) (t : TypeId) (cs : List Value) : Prop :=
  ∃ fuel x, DataW.trod enc P w 0 (fun _ => true) true fuel t cs = some x ∧ ∀ n ∈ x.1.weights P t, n ≤ reachBytes

/-- An argument as the row has it: how it reads, and how large it is. -/
def TrodZ {H : Type} (enc : TypeId × Value → H) (P : Program) (w : World) (t : TypeId) (v : Value) (d : DataW H) (ps : List MemPlace) : Prop :=
  DataW.Trod enc P w 0 (fun _ => true) true t v d ps ∧ ∀ n ∈ d.weights P t, n ≤ reachBytes

theorem tr_of {t : TypeId} {v : Value} {d : DataW H} {ps : List MemPlace} (h : TrodZ enc P w t v d ps) : Tr enc P w t v.cells.toList := by
  obtain ⟨⟨f, h⟩, hz⟩ := h
  exact ⟨f, _, h, hz⟩

theorem tr_int {t : TypeId} {k : IntKind} {cs : List Value} (hu : P.underlying t = some (.int k)) (h : Tr enc P w t cs) : ∃ n, cs = [.int k n] ∧ (Lit.int k n).wf = true := by
  obtain ⟨f, x, h, _⟩ := h
  cases f with
  | zero => simp [DataW.trod] at h
  | succ f =>
    simp only [DataW.trod, hu] at h
    split at h <;> simp_all

theorem tr_bool {t : TypeId} {cs : List Value} (hu : P.underlying t = some .bool) (h : Tr enc P w t cs) : ∃ b, cs = [.bool b] := by
  obtain ⟨f, x, h, _⟩ := h
  cases f with
  | zero => simp [DataW.trod] at h
  | succ f =>
    simp only [DataW.trod, hu] at h
    split at h <;> simp_all

theorem tr_string {t : TypeId} {cs : List Value} (hu : P.underlying t = some .string) (h : Tr enc P w t cs) : ∃ s, cs = [.string s] ∧ s.size ≤ reachBytes := by
  obtain ⟨f, x, h, hz⟩ := h
  cases f with
  | zero => simp [DataW.trod] at h
  | succ f =>
    simp only [DataW.trod, hu] at h
    split at h <;> try (simp_all; done)
    rename_i s _
    split at h
    · obtain rfl := (Option.some.inj h).symm
      refine ⟨s, rfl, ?_⟩
      have := hz s.data.toList.length (by simp [DataW.weights])
      rw [Array.length_toList] at this
      exact this
    · simp at h

theorem mapM_at {α β : Type} {g : α → Option β} : ∀ {l : List α} {r : List β}, l.mapM g = some r → r.length = l.length ∧ ∀ (i : Nat) (a : α), l[i]? = some a → ∃ b, r[i]? = some b ∧ g a = some b
  | [], r, h => by
    obtain rfl : [] = r := by simpa using h
    exact ⟨rfl, fun i a h => by simp at h⟩
  | x :: l, r, h => by
    simp only [List.mapM_cons, Option.pure_def, Option.bind_eq_bind] at h
    cases hx : g x with
    | none => simp [hx] at h
    | some b =>
      simp only [hx, Option.bind_some] at h
      cases hl : l.mapM g with
      | none => simp [hl] at h
      | some bs =>
        simp only [hl, Option.bind_some, Option.some.injEq] at h
        subst h
        obtain ⟨e1, e2⟩ := mapM_at hl
        refine ⟨by simp [e1], fun i a hi => ?_⟩
        cases i with
        | zero =>
          obtain rfl : x = a := by simpa using hi
          exact ⟨b, rfl, hx⟩
        | succ i =>
          obtain ⟨y, h1, h2⟩ := e2 i a (by simpa using hi)
          exact ⟨y, by simpa using h1, h2⟩
theorem all_mem {e : TypeId} : ∀ {l : List (DataW H)} {d : DataW H}, d ∈ l → ∀ n ∈ d.weights P e, n ∈ DataW.weightsAll P e l
  | y :: l, d, hd, n, hn => by
    simp only [DataW.weightsAll, List.mem_append]
    rcases List.mem_cons.1 hd with rfl | hd
    · exact .inl hn
    · exact .inr (all_mem hd n hn)

theorem tr_array {t e : TypeId} {n : Nat} {cs : List Value} (hu : P.underlying t = some (.array n e)) (h : Tr enc P w t cs) :
    cs.length = P.cellsOf t ∧ ∀ i, i < n → Tr enc P w e ((cs.drop (i * P.cellsOf e)).take (P.cellsOf e)) := by
  obtain ⟨f, x, h, hz⟩ := h
  cases f with
  | zero => simp [DataW.trod] at h
  | succ f =>
    simp only [DataW.trod, hu] at h
    split at h
    · rename_i hl
      refine ⟨hl, fun i hi => ?_⟩
      cases hm : (List.range n).mapM fun i => DataW.trod enc P w 0 (fun _ => true) true f e ((cs.drop (i * P.cellsOf e)).take (P.cellsOf e)) with
      | none => simp [hm] at h
      | some r =>
        simp only [hm, Option.map_some, Option.some.injEq] at h
        subst h
        obtain ⟨b, hb, hg⟩ := (mapM_at hm).2 i i (List.getElem?_range hi)
        refine ⟨f, b, hg, fun n hn => hz n ?_⟩
        simp only [DataW.weights, hu]
        exact all_mem (List.mem_map.2 ⟨b, List.mem_of_getElem? hb, rfl⟩) n hn
    · simp at h

theorem tr_struct {t : TypeId} {fs : Array Field} {cs : List Value} (hu : P.underlying t = some (.struct fs)) (h : Tr enc P w t cs) :
    cs.length = P.cellsOf t ∧ ∀ f ∈ fs.toList, Tr enc P w f.type ((cs.drop f.offset).take (P.cellsOf f.type)) := by
  obtain ⟨f, x, h, hz⟩ := h
  cases f with
  | zero => simp [DataW.trod] at h
  | succ f =>
    simp only [DataW.trod, hu] at h
    split at h
    · rename_i hl
      refine ⟨hl, fun g hg => ?_⟩
      cases hm : fs.toList.mapM fun g => DataW.trod enc P w 0 (fun _ => true) true f g.type ((cs.drop g.offset).take (P.cellsOf g.type)) with
      | none => simp [hm] at h
      | some r =>
        simp only [hm, Option.map_some, Option.some.injEq] at h
        subst h
        obtain ⟨j, hj⟩ := List.mem_iff_getElem?.1 hg
        obtain ⟨b, hb, hgb⟩ := (mapM_at hm).2 j g hj
        refine ⟨f, b, hgb, fun n hn => hz n ?_⟩
        simp only [DataW.weights, hu]
        exact DataW.weights_mem_each (j := j) (by rw [List.getElem?_map, hj]; rfl) (by rw [List.getElem?_map, hb]; rfl) n hn
    · simp at h

theorem tr_slice {t e : TypeId} {cs : List Value} (hu : P.underlying t = some (.slice e)) (h : Tr enc P w t cs) :
    (cs = [.slice none 0 0]) ∨ ∃ a len cap, cs = [.slice (some a) len cap] ∧ len ≤ cap ∧ cap ≤ maxLen ∧ cap * P.bytesOf e ≤ reachBytes ∧ ∀ i, i < len → ∃ c, w.cells? 0 (a.add (i * P.cellsOf e)) (P.cellsOf e) = some c ∧ Tr enc P w e c := by
  obtain ⟨f, x, h, hz⟩ := h
  cases f with
  | zero => simp [DataW.trod] at h
  | succ f =>
    simp only [DataW.trod, hu] at h
    split at h <;> try (simp_all; done)
    rename_i _ _ e' a len cap hu' 
    obtain rfl : e = e' := by simpa using hu'
    refine .inr ⟨a, len, cap, rfl, ?_⟩
    split at h
    · rename_i hb
      cases hm : (List.range len).mapM fun i => (w.cells? 0 (a.add (i * P.cellsOf e)) (P.cellsOf e)).bind (DataW.trod enc P w 0 (fun _ => true) true f e) with
      | none => simp [hm] at h
      | some r =>
        cases hm2 : (List.range (cap - len)).mapM fun j => (w.cells? 0 (a.add ((len + j) * P.cellsOf e)) (P.cellsOf e)).bind (DataW.trod enc P w 0 (fun _ => true) true f e) with
        | none => simp [hm, hm2] at h
        | some r2 =>
          simp only [hm, hm2, if_true, Option.bind_some, Option.map_some, Option.some.injEq] at h
          subst h
          obtain ⟨l1, h1⟩ := mapM_at hm
          obtain ⟨l2, _⟩ := mapM_at hm2
          rw [List.length_range] at l1 l2
          refine ⟨hb.2.1, hb.2.2, ?_, fun i hi => ?_⟩
          · have := hz ((r.map (·.1)).length + (r2.map (·.1)).length |>.mul (P.bytesOf e)) (by simp [DataW.weights, hu])
            simp only [List.length_map, l1, l2] at this
            have e1 : len + (cap - len) = cap := by omega
            rw [e1] at this
            exact this
          · obtain ⟨b, hbi, hgb⟩ := h1 i i (List.getElem?_range hi)
            cases hc : w.cells? 0 (a.add (i * P.cellsOf e)) (P.cellsOf e) with
            | none => simp [hc] at hgb
            | some c =>
              refine ⟨c, rfl, f, b, by simpa [hc] using hgb, fun n hn => hz n ?_⟩
              simp only [DataW.weights, hu, List.mem_cons, List.mem_append]
              exact .inr (.inl (all_mem (List.mem_map.2 ⟨b, List.mem_of_getElem? hbi, rfl⟩) n hn))
    · simp at h

/-- An argument that is an array. -/
theorem agg_array {r : Reach} {base : Nat} {t e : TypeId} {n : Nat} {v : Value} {d : DataW H} {ps : List MemPlace} (hu : P.underlying t = some (.array n e)) (hok : Value.okWide P w r base t v)
    (h : TrodZ enc P w t v d ps) : ∃ cs : Array Value, v = .agg cs ∧ cs.size = P.cellsOf t ∧ Tr enc P w t cs.toList := by
  unfold Value.okWide at hok
  rw [hu] at hok
  obtain ⟨cs, rfl, hs, _⟩ := hok
  exact ⟨cs, rfl, hs, tr_of h⟩
/-- An argument that is a struct. -/
theorem agg_struct {r : Reach} {base : Nat} {t : TypeId} {fs : Array Field} {v : Value} {d : DataW H} {ps : List MemPlace} (hu : P.underlying t = some (.struct fs)) (hok : Value.okWide P w r base t v)
    (h : TrodZ enc P w t v d ps) : ∃ cs : Array Value, v = .agg cs ∧ cs.size = P.cellsOf t ∧ Tr enc P w t cs.toList := by
  unfold Value.okWide at hok
  rw [hu] at hok
  obtain ⟨cs, rfl, hs, _⟩ := hok
  exact ⟨cs, rfl, hs, tr_of h⟩

theorem two_u64 {t e : TypeId} {cs : Array Value} (hu : P.underlying t = some (.array 2 e)) (he : P.underlying e = some (.int .u64)) (hn : P.cellsOf t = 2 ∧ P.cellsOf e = 1) (hs : cs.size = P.cellsOf t) (h : Tr enc P w t cs.toList) :
    ∃ x y, cs = #[.int .u64 x, .int .u64 y] ∧ 0 ≤ x ∧ x < 18446744073709551616 ∧ 0 ≤ y ∧ y < 18446744073709551616 := by
  obtain ⟨h1, h2⟩ := hn
  rw [h1] at hs
  obtain ⟨_, h⟩ := tr_array hu h
  rw [h2] at h
  obtain ⟨l⟩ := cs
  match l, hs with
  | [a, b], _ =>
    obtain ⟨x, e0, w0⟩ := tr_int he (h 0 (by omega))
    obtain ⟨y, e1, w1⟩ := tr_int he (h 1 (by omega))
    simp at e0 e1
    exact ⟨x, y, by rw [e0, e1], (wf_u64 w0).1, (wf_u64 w0).2, (wf_u64 w1).1, (wf_u64 w1).2⟩
end
end Go.Proofs.Ytehojcocnndniaa.Open
namespace Go.Proofs.Ytehojcocnndniaa.Open
open Go.RowKit Base
section
variable {H : Type} {enc : TypeId × Value → H} {P : Program} {w : World}
theorem u8_of {n : Int} (h : (Lit.int .u8 n).wf = true) : ∃ c : UInt8, n = (c.toNat : Int) := by
  obtain ⟨h0, h1⟩ := wf_u8 h
  refine ⟨UInt8.ofNat n.toNat, ?_⟩
  rw [UInt8.toNat_ofNat']
  omega
theorem four_u8 {t e : TypeId} {cs : Array Value} (hu : P.underlying t = some (.array 4 e)) (he : P.underlying e = some (.int .u8)) (hn : P.cellsOf t = 4 ∧ P.cellsOf e = 1) (hs : cs.size = P.cellsOf t) (h : Tr enc P w t cs.toList) :
    ∃ f : Nat → UInt8, cs = #[.int .u8 ((f 0).toNat : Int), .int .u8 ((f 1).toNat : Int), .int .u8 ((f 2).toNat : Int), .int .u8 ((f 3).toNat : Int)] := by
  obtain ⟨h1, h2⟩ := hn
  rw [h1] at hs
  obtain ⟨_, h⟩ := tr_array hu h
  rw [h2] at h
  obtain ⟨l⟩ := cs
  match l, hs with
  | [a, b, c, d], _ =>
    obtain ⟨x, e0, w0⟩ := tr_int he (h 0 (by omega))
    obtain ⟨y, e1, w1⟩ := tr_int he (h 1 (by omega))
    obtain ⟨z, e2, w2⟩ := tr_int he (h 2 (by omega))
    obtain ⟨u, e3, w3⟩ := tr_int he (h 3 (by omega))
    obtain ⟨x, rfl⟩ := u8_of w0
    obtain ⟨y, rfl⟩ := u8_of w1
    obtain ⟨z, rfl⟩ := u8_of w2
    obtain ⟨u, rfl⟩ := u8_of w3
    simp at e0 e1 e2 e3
    exact ⟨fun i => if i = 0 then x else if i = 1 then y else if i = 2 then z else u, by rw [e0, e1, e2, e3]; rfl⟩
end
end Go.Proofs.Ytehojcocnndniaa.Open
namespace Go.Proofs.Ytehojcocnndniaa.Open
open Go.RowKit Base Go.Proofs.YtehojcocnndniaaW.PrintWords
section
variable {H : Type} {enc : TypeId × Value → H} {P : Program} {w : World}
/-- A type's cells open as a kind's. -/
def Opens (P : Program) {α : Type} (t : TypeId) (d : Kd α) (G : α → Prop) : Prop :=
  ∀ (H : Type) (enc : TypeId × Value → H) (w : World) (cs : List Value), Tr enc P w t cs → ∃ a, d.K w a cs ∧ G a
theorem opens_int {t : TypeId} {k : IntKind} (hu : P.underlying t = some (.int k)) : Opens P t (Kd.int k) (fun n => (Lit.int k n).wf = true) := by
  intro H enc w cs h
  obtain ⟨n, rfl, hw⟩ := tr_int hu h
  exact ⟨n, rfl, hw⟩
theorem opens_bool {t : TypeId} (hu : P.underlying t = some .bool) : Opens P t Kd.bool (fun _ => True) := by
  intro H enc w cs h
  obtain ⟨n, rfl⟩ := tr_bool hu h
  exact ⟨n, rfl, trivial⟩
theorem opens_string {t : TypeId} (hu : P.underlying t = some .string) : Opens P t Kd.string (fun s => s.size ≤ reachBytes) := by
  intro H enc w cs h
  obtain ⟨n, rfl, hs⟩ := tr_string hu h
  exact ⟨n, rfl, hs⟩
theorem cells_spec {base : Nat} {a : Addr} {n : Nat} {c : List Value} (h : w.cells? base a n = some c) : c.length = n ∧ ∀ i u, c[i]? = some u → w.cell? (a.add i) = some u := by
  unfold World.cells? at h
  split at h
  · have hg : ∀ {α β : Type} {g : α → Option β} {l : List α} {r : List β}, l.mapM g = some r → r.length = l.length ∧ ∀ (i : Nat) (u : β), r[i]? = some u → ∃ x, l[i]? = some x ∧ g x = some u := by
      intro α β g l
      induction l with
      | nil =>
        intro r h
        obtain rfl : [] = r := by simpa using h
        exact ⟨rfl, fun i u h => by simp at h⟩
      | cons x l ih =>
        intro r h
        simp only [List.mapM_cons, Option.pure_def, Option.bind_eq_bind] at h
        cases hx : g x with
        | none => simp [hx] at h
        | some b =>
          simp only [hx, Option.bind_some] at h
          cases hl : l.mapM g with
          | none => simp [hl] at h
          | some bs =>
            simp only [hl, Option.bind_some, Option.some.injEq] at h
            subst h
            obtain ⟨e1, e2⟩ := ih hl
            refine ⟨by simp [e1], fun i u hi => ?_⟩
            cases i with
            | zero =>
              obtain rfl : b = u := by simpa using hi
              exact ⟨x, rfl, hx⟩
            | succ i =>
              obtain ⟨y, h1, h2⟩ := e2 i u (by simpa using hi)
              exact ⟨y, by simpa using h1, h2⟩
    obtain ⟨e1, e2⟩ := hg h
    refine ⟨by rw [e1, List.length_range], fun i u hi => ?_⟩
    obtain ⟨y, h1, h2⟩ := e2 i u hi
    obtain ⟨hl, h1⟩ := List.getElem?_eq_some_iff.1 h1
    rw [List.getElem_range] at h1
    rw [h1]
    exact h2
  · simp at h
theorem opens_slice {α : Type} {t e : TypeId} {d : Kd α} {G : α → Prop} (hu : P.underlying t = some (.slice e)) (he : Opens P e d G) (hs : P.cellsOf e = d.sz) :
    Opens P t (Kd.slice e d) (fun l => (l.length ≤ maxLen ∧ l.length * P.bytesOf e ≤ reachBytes) ∧ ∀ x ∈ l, G x) := by
  intro H enc w cs h
  rcases tr_slice hu h with rfl | ⟨a, len, cap, rfl, h1, h2, hby, h3⟩
  · exact ⟨[], ⟨none, 0, rfl, Nat.le_refl _, rfl, by simp, (fun h => by simp at h)⟩, ⟨by simp, by simp⟩, (fun x hx => by cases hx)⟩
  · have key : ∀ n, n ≤ len → ∃ l : List α, l.length = n ∧ (∀ x ∈ l, G x) ∧ ∀ j p, l[j]? = some p → ∃ c, c.length = d.sz ∧ d.K w p c ∧ ∀ i u, c[i]? = some u → w.cell? (a.add (j * d.sz + i)) = some u := by
      intro n
      induction n with
      | zero => exact fun _ => ⟨[], rfl, (fun x hx => by cases hx), (fun j p h => by simp at h)⟩
      | succ n ih =>
        intro hn
        obtain ⟨l, hl, hG, hc⟩ := ih (by omega)
        obtain ⟨c, hcell, htr⟩ := h3 n (by omega)
        obtain ⟨x, hK, hGx⟩ := he H enc w c htr
        obtain ⟨hlen, hget⟩ := cells_spec hcell
        refine ⟨l ++ [x], by simp [hl], fun y hy => ?_, fun j p hj => ?_⟩
        · rcases List.mem_append.1 hy with hy | hy
          · exact hG y hy
          · rw [List.mem_singleton.1 hy]; exact hGx
        · rcases Nat.lt_or_ge j l.length with hjl | hjl
          · rw [List.getElem?_append_left hjl] at hj
            exact hc j p hj
          · have hj' : j = n := by
              have := (List.getElem?_eq_some_iff.1 hj).1
              rw [List.length_append, List.length_singleton] at this
              omega
            subst hj'
            rw [List.getElem?_append_right hjl, hl, Nat.sub_self] at hj
            have hp : x = p := by simpa using hj
            subst hp
            refine ⟨c, by rw [hlen, hs], hK, fun i u hi => ?_⟩
            have := hget i u hi
            rw [hs, add_add] at this
            exact this
    obtain ⟨l, hl, hG, hc⟩ := key len (Nat.le_refl _)
    subst hl
    exact ⟨l, ⟨some a, cap, rfl, h1, rfl, by unfold maxLen at h2; omega, fun _ => ⟨a, rfl, hc⟩⟩, ⟨Nat.le_trans h1 h2, Nat.le_trans (Nat.mul_le_mul_right _ h1) hby⟩, hG⟩
theorem slice_arg {α : Type} {t e : TypeId} {k : Kd α} {G : α → Prop} {r : Reach} {base : Nat} {v : Value} {d : DataW H} {ps : List MemPlace}
    (hu : P.underlying t = some (.slice e)) (he : Opens P e k G) (hs : P.cellsOf e = k.sz) (hok : Value.okWide P w r base t v) (h : TrodZ enc P w t v d ps) :
    ∃ (A : Option Addr) (c : Nat) (l : List α), v = .slice A l.length c ∧ Kd.C k w A l.length l ∧ l.length ≤ c ∧ (l.length ≤ maxLen ∧ l.length * P.bytesOf e ≤ reachBytes) ∧ ∀ x ∈ l, G x := by
  obtain ⟨a, len, cap, rfl⟩ := Go.WideShapes.okWide_slice hu hok
  obtain ⟨l, ⟨A, c, e, hc, hC⟩, hl, hG⟩ := opens_slice hu he hs H enc w _ (tr_of h)
  have e' : [Value.slice a len cap] = [Value.slice A l.length c] := e
  exact ⟨A, c, l, (List.cons.inj e').1, hC, hc, hl, hG⟩
end
end Go.Proofs.Ytehojcocnndniaa.Open
namespace Go.Proofs.Ytehojcocnndniaa.Open
open Go.RowKit Base Go.Proofs.YtehojcocnndniaaW.PrintWords
section
variable {P : Program}
/-- Both. -/
def GPair {α β : Type} (G1 : α → Prop) (G2 : β → Prop) : α × β → Prop := fun x => G1 x.1 ∧ G2 x.2
/-- Fields in line, from an offset on. -/
def OpensF (P : Program) {α : Type} (fs : List Field) (off : Nat) (d : Kd α) (G : α → Prop) : Prop :=
  ∀ (H : Type) (enc : TypeId × Value → H) (w : World) (cs : List Value), cs.length = off + d.sz → (∀ f ∈ fs, Tr enc P w f.type ((cs.drop f.offset).take (P.cellsOf f.type))) → ∃ a, d.K w a (cs.drop off) ∧ G a
theorem fields_last {α : Type} {f : Field} {d : Kd α} {G : α → Prop} (h : Opens P f.type d G) (hs : P.cellsOf f.type = d.sz) : OpensF P [f] f.offset d G := by
  intro H enc w cs hl ht
  have h1 := ht f (List.mem_singleton.2 rfl)
  rw [hs, List.take_of_length_le (by rw [List.length_drop]; omega)] at h1
  exact h H enc w _ h1
theorem fields_cons {α β : Type} {f : Field} {fs : List Field} {d1 : Kd α} {d2 : Kd β} {G1 : α → Prop} {G2 : β → Prop} (h : Opens P f.type d1 G1) (hs : P.cellsOf f.type = d1.sz) (hr : OpensF P fs (f.offset + d1.sz) d2 G2) :
    OpensF P (f :: fs) f.offset (Kd.pair d1 d2) (GPair G1 G2) := by
  intro H enc w cs hl ht
  have hl' : cs.length = f.offset + (d1.sz + d2.sz) := hl
  have h1 := ht f (List.mem_cons_self ..)
  rw [hs] at h1
  obtain ⟨a, ha, ga⟩ := h H enc w _ h1
  obtain ⟨b, hb, gb⟩ := hr H enc w cs (by omega) (fun g hg => ht g (List.mem_cons_of_mem _ hg))
  refine ⟨(a, b), ⟨_, _, ?_, ha, hb⟩, ga, gb⟩
  rw [← List.drop_drop, List.take_append_drop]
theorem opens_struct {α : Type} {t : TypeId} {fs : Array Field} {d : Kd α} {G : α → Prop} (hu : P.underlying t = some (.struct fs)) (hs : P.cellsOf t = d.sz) (h : OpensF P fs.toList 0 d G) : Opens P t d G := by
  intro H enc w cs ht
  obtain ⟨hl, hf⟩ := tr_struct hu ht
  exact h H enc w cs (by omega) hf
theorem opens_iso {α β : Type} {t : TypeId} {d : Kd α} {G : α → Prop} (h : Opens P t d G) (f : β → α) (g : α → β) (hg : ∀ a, f (g a) = a) : Opens P t (Kd.iso d f) (fun x => G (f x)) := by
  intro H enc w cs ht
  obtain ⟨a, ha, ga⟩ := h H enc w cs ht
  refine ⟨g a, ?_, ?_⟩
  · show d.K w (f (g a)) cs
    rw [hg]
    exact ha
  · show G (f (g a))
    rw [hg]
    exact ga
/-- An argument that is a struct, by its kind. -/
theorem struct_arg {H : Type} {enc : TypeId × Value → H} {w : World} {α : Type} {t : TypeId} {fs : Array Field} {k : Kd α} {G : α → Prop} {r : Reach} {base : Nat} {v : Value} {d : DataW H} {ps : List MemPlace}
    (hu : P.underlying t = some (.struct fs)) (hk : Opens P t k G) (hok : Value.okWide P w r base t v) (h : TrodZ enc P w t v d ps) :
    ∃ (a : α) (cs : Array Value), v = .agg cs ∧ k.K w a cs.toList ∧ G a := by
  obtain ⟨cs, rfl, hs, ht⟩ := agg_struct hu hok h
  obtain ⟨a, ha, ga⟩ := hk H enc w _ ht
  exact ⟨a, cs, rfl, ha, ga⟩
end
end Go.Proofs.Ytehojcocnndniaa.Open
namespace Go.Proofs.Ytehojcocnndniaa.Open
open Go.RowKit Base Go.Proofs.YtehojcocnndniaaW.PrintWords
theorem sct_opens : Opens Try.prog 98 Go.Proofs.Ytehojcocnndniaa.PImagePuts.k98 (fun x => GPair (fun n => (Lit.int .i64 n).wf = true) (fun s : ByteArray => s.size ≤ reachBytes) (x.f0, x.f1)) := by
  unfold Go.Proofs.Ytehojcocnndniaa.PImagePuts.k98
  refine opens_iso (d := Kd.pair (Kd.int .i64) Kd.string) ?_ (fun x : Go.Proofs.Ytehojcocnndniaa.PImagePuts.S98 => (x.f0, x.f1)) (fun a => ⟨a.1, a.2⟩) (fun _ => rfl)
  refine opens_struct Try.underlying98 (by kernel_rfl) ?_
  refine fields_cons (opens_int Try.underlying3) (by kernel_rfl) ?_
  exact fields_last (opens_string Try.underlying9) (by kernel_rfl)
theorem sct_small {l : List Go.Proofs.Ytehojcocnndniaa.PImagePuts.S98} (h : l.length * Try.prog.bytesOf 98 ≤ reachBytes) (hG : ∀ x ∈ l, GPair (fun n => (Lit.int .i64 n).wf = true) (fun s : ByteArray => s.size ≤ reachBytes) (x.f0, x.f1)) : Img.Small l := by
  have e : Try.prog.bytesOf 98 = 24 := by kernel_rfl
  have e2 : reachBytes = 140737488351232 := rfl
  rw [e, e2] at h
  exact ⟨by omega, fun x hx => (hG x hx).2⟩
end Go.Proofs.Ytehojcocnndniaa.Open
