import Derived.Test.YtmlfnlmdnhblmaaOpenK
set_option linter.unusedVariables false
set_option linter.unusedSimpArgs false
namespace Go.Proofs.Ytmlfnlmdnhblmaa.Open
open Go.RowKit Base Go.Proofs.YtmlfnlmdnhblmaaW.PrintWords
section
variable {P : Program}
/-- Both. -/
def GPair {α β : Type} (G1 : α → Prop) (G2 : β → Prop) : α × β → Prop := fun x => G1 x.1 ∧ G2 x.2
/-- Fields in line, from an offset on. -/
def OpensF (P : Program) {α : Type} (fs : List Field) (off : Nat) (d : Kd α) (G : α → Prop) : Prop :=
  ∀ (H : Type) (enc : TypeId × Value → H) (w : World) (cs : List Value), cs.length = off + d.sz → (∀ f ∈ fs, Tr enc P w f.type ((cs.drop f.offset).take (P.cellsOf f.type))) → ∃ a, d.K w a (cs.drop off) ∧ G a
theorem fields_last {α : Type} {f : Field} {d : Kd α} {G : α → Prop} (h : Opens P f.type d G) (hs : P.cellsOf f.type = d.sz) : OpensF P [f] f.offset d G := by
  intro H enc w cs hl ht
  have h1 := ht f (List.mem_singleton.2 rfl)
  rw [hs, List.take_of_length_le (by rw [List.length_drop]; omega)] at h1
  exact h H enc w _ h1
theorem fields_cons {α β : Type} {f : Field} {fs : List Field} {d1 : Kd α} {d2 : Kd β} {G1 : α → Prop} {G2 : β → Prop} (h : Opens P f.type d1 G1) (hs : P.cellsOf f.type = d1.sz) (hr : OpensF P fs (f.offset + d1.sz) d2 G2) :
    OpensF P (f :: fs) f.offset (Kd.pair d1 d2) (GPair G1 G2) := by
  intro H enc w cs hl ht
  have hl' : cs.length = f.offset + (d1.sz + d2.sz) := hl
  have h1 := ht f (List.mem_cons_self ..)
  rw [hs] at h1
  obtain ⟨a, ha, ga⟩ := h H enc w _ h1
  obtain ⟨b, hb, gb⟩ := hr H enc w cs (by omega) (fun g hg => ht g (List.mem_cons_of_mem _ hg))
  refine ⟨(a, b), ⟨_, _, ?_, ha, hb⟩, ga, gb⟩
  rw [← List.drop_drop, List.take_append_drop]
theorem opens_struct {α : Type} {t : TypeId} {fs : Array Field} {d : Kd α} {G : α → Prop} (hu : P.underlying t = some (.struct fs)) (hs : P.cellsOf t = d.sz) (h : OpensF P fs.toList 0 d G) : Opens P t d G := by
  intro H enc w cs ht
  obtain ⟨hl, hf⟩ := tr_struct hu ht
  exact h H enc w cs (by omega) hf
theorem opens_iso {α β : Type} {t : TypeId} {d : Kd α} {G : α → Prop} (h : Opens P t d G) (f : β → α) (g : α → β) (hg : ∀ a, f (g a) = a) : Opens P t (Kd.iso d f) (fun x => G (f x)) := by
  intro H enc w cs ht
  obtain ⟨a, ha, ga⟩ := h H enc w cs ht
  refine ⟨g a, ?_, ?_⟩
  · show d.K w (f (g a)) cs
    rw [hg]
    exact ha
  · show G (f (g a))
    rw [hg]
    exact ga
/-- An argument that is a struct, by its kind. -/
theorem struct_arg {H : Type} {enc : TypeId × Value → H} {w : World} {α : Type} {t : TypeId} {fs : Array Field} {k : Kd α} {G : α → Prop} {r : Reach} {base : Nat} {v : Value} {d : DataW H} {ps : List MemPlace}
    (hu : P.underlying t = some (.struct fs)) (hk : Opens P t k G) (hok : Value.okWide P w r base t v) (h : TrodZ enc P w t v d ps) :
    ∃ (a : α) (cs : Array Value), v = .agg cs ∧ k.K w a cs.toList ∧ G a := by
  obtain ⟨cs, rfl, hs, ht⟩ := agg_struct hu hok h
  obtain ⟨a, ha, ga⟩ := hk H enc w _ ht
  exact ⟨a, cs, rfl, ha, ga⟩
end
end Go.Proofs.Ytmlfnlmdnhblmaa.Open
