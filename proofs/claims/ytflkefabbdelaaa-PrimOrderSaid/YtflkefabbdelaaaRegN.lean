import Derived.Test.YtflkefabbdelaaaRegion
set_option linter.unusedVariables false
set_option linter.unusedSimpArgs false
/-! Regions that draw their order, with any number of operations ready at once. -/
namespace Go.Proofs.Ytflkefabbdelaaa.Reg
open Go.Proofs.YtflkefabbdelaaaW.PrintLast
section
variable {P : Program} {ops : Array Oper} {Q : Exit → Act → World → Prop} {S : World → Prop} {z : Nat}
/-- Orders: as Pl; alt i r q: operation i is ready, and behind it r; q: the others that are ready; none: no other. -/
inductive Pn where
  | done : Pn
  | fl : Nat → Pn → Pn
  | alt : Nat → Pn → Pn → Pn
  | none : Pn
def Pn.ids : Pn → List Nat
  | .alt i _ q => i :: q.ids
  | _ => []
def Pn.len : Pn → Nat
  | .done => 0
  | .fl _ r => r.len + 1
  | .alt _ r q => max (r.len + 1) q.len
  | .none => 0
def wpN (P : Program) (ops : Array Oper) (Q : Exit → Act → World → Prop) (S : World → Prop) (z : Nat) : Pn → Act → World → Prop
  | .done, a, w => Q .normal a w
  | .fl i r, a, w => ∃ o v, ops[i]? = some o ∧ YieldsIf P ops S o v a ∧ wpN P ops Q S z r (a.put o.dst v) w
  | .alt i r q, a, w => wpOp P ops Q i (fun a' w' => (i ≠ z → S w') ∧ wpN P ops Q S z r a' w') a w ∧ wpN P ops Q S z q a w
  | .none, _, _ => True
/-- The orders may be taken. -/
def planN (ops : Array Oper) (z : Nat) : Bool → Array Bool → Pn → Bool
  | _, listed, .done => (Region.ready .any ops listed).isEmpty
  | _, listed, .fl i r => (Region.ready .any ops listed).contains i && Region.free .any ops listed i && waitsB ops z i && planN ops z true (listed.setIfInBounds i true) r
  | head, listed, .alt i r q => (!head || Region.ready .any ops listed == i :: q.ids) && (i != z || (match r with | .done => true | _ => false)) && planN ops z true (listed.setIfInBounds i true) r && planN ops z false listed q
  | head, _, .none => !head
theorem wpN_sound (hs : Region.noSelect ops = true) (hQ : ∀ c a w d v, Q (.panic c) (Act.put a d v) w → Q (.panic c) a w) :
    ∀ (l : Pn) (fuel : Nat) (listed : Array Bool) (a : Act) (w : World), ListedClosed .any ops listed →
      (l.len ≤ fuel → planN ops z true listed l = true → (l ≠ .done → S w) → wpN P ops Q S z l a w → wpT P ops Q S z fuel listed a w) ∧
      (l.len ≤ fuel + 1 → planN ops z false listed l = true → wpN P ops Q S z l a w → ∀ k ∈ l.ids, k ∈ Region.ready .any ops listed → wpOp P ops Q k (fun a' w' => (k ≠ z → S w') ∧ wpT P ops Q S z fuel (listed.setIfInBounds k true) a' w') a w)
  | .none, fuel, listed, a, w, _ => ⟨fun _ hp => by simp [planN] at hp, fun _ _ _ k hk => by cases hk⟩
  | .done, fuel, listed, a, w, _ => by
    refine ⟨fun _ hp _ h => ?_, fun _ _ _ k hk => by cases hk⟩
    simp only [planN, List.isEmpty_iff] at hp
    cases fuel with
    | zero => exact ⟨hp, h⟩
    | succ n => exact ⟨fun _ => h, by rw [hp]; simp⟩
  | .fl i r, fuel, listed, a, w, hc => by
    refine ⟨fun hl hp hS h => ?_, fun _ _ _ k hk => by cases hk⟩
    cases fuel with
    | zero => simp [Pn.len] at hl
    | succ fuel =>
      simp only [planN, Bool.and_eq_true] at hp
      obtain ⟨o, v, ho, hy, hr⟩ := h
      have hS' := hS (by simp)
      exact T_first ho (Region.noSelect_spec hs) (fun c a w h => hQ c a w _ _ h) hp.1.2 fuel listed a w hc (Region.free_spec ho hp.1.1.2) (by simpa using hp.1.1.1) hy hS'
        ((wpN_sound hs hQ r fuel _ _ w (hc.set (by simpa using hp.1.1.1))).1 (by simpa [Pn.len] using hl) hp.2 (fun _ => hS') hr)
  | .alt i r q, fuel, listed, a, w, hc => by
    have tail : ∀ fuel, (Pn.alt i r q).len ≤ fuel + 1 → (i != z || (match r with | .done => true | _ => false)) = true → planN ops z true (listed.setIfInBounds i true) r = true → planN ops z false listed q = true → wpN P ops Q S z (.alt i r q) a w →
        ∀ k ∈ (Pn.alt i r q).ids, k ∈ Region.ready .any ops listed → wpOp P ops Q k (fun a' w' => (k ≠ z → S w') ∧ wpT P ops Q S z fuel (listed.setIfInBounds k true) a' w') a w := by
      intro fuel hl hz hr hq h k hk hk2
      simp only [Pn.len] at hl
      simp only [Bool.or_eq_true, bne_iff_ne] at hz
      simp only [Pn.ids, List.mem_cons] at hk
      by_cases hki : k = i
      · subst hki
        refine wpOp_mono (fun a' w' h' => ⟨h'.1, (wpN_sound hs hQ r fuel _ _ w' (hc.set hk2)).1 (by omega) hr (fun hd => ?_) h'.2⟩) h.1
        refine h'.1 (hz.resolve_right ?_)
        cases r <;> simp_all
      · exact (wpN_sound hs hQ q fuel listed a w hc).2 (by omega) hq h.2 k (hk.resolve_left hki) hk2
    refine ⟨fun hl hp _ h => ?_, fun hl hp h => ?_⟩
    · simp only [planN, Bool.and_eq_true, Bool.not_true, Bool.false_or, beq_iff_eq] at hp
      cases fuel with
      | zero => simp only [Pn.len] at hl; omega
      | succ fuel =>
        refine ⟨fun h0 => (by rw [hp.1.1.1] at h0; cases h0), fun k hk => ?_⟩
        refine tail fuel hl hp.1.1.2 hp.1.2 hp.2 h k ?_ hk
        rw [hp.1.1.1] at hk
        exact hk
    · simp only [planN, Bool.and_eq_true] at hp
      exact tail fuel hl hp.1.1.2 hp.1.2 hp.2 h
theorem wp_planN (z : Nat) (l : Pn) {id : Nat} {a : Act} {w : World} (hm : P.follows .mixedOrders = true) (hs : Region.noSelect ops = true)
    (hp : planN ops z true (Array.replicate ops.size false) l = true) (hl : decide (l.len ≤ ops.size) = true) (hQ : ∀ c a w d v, Q (.panic c) (Act.put a d v) w → Q (.panic c) a w) (hS : S w.drew)
    (h : S w.drew → wpN P ops Q S z l a w.drew) : (Code.region id ops true).wp P Q a w :=
  wp_region_any hm (wpAny_of_T _ _ _ _ ((wpN_sound hs hQ l _ _ _ _ (closed_start _)).1 (of_decide_eq_true hl) hp (fun _ => hS) (h hS)))
theorem N_on {i : Nat} {r : Pn} {a : Act} {w : World} {o : Oper} {v : Value} (ho : ops[i]? = some o) (hw : Region.wanted o (yielded ops a.tmps) = true)
    (hv : ∀ w, S w → (execOp a.eval o).run P w = .ok (.value v) w) (h : wpN P ops Q S z r (a.put o.dst v) w) : wpN P ops Q S z (.fl i r) a w :=
  ⟨o, v, ho, .inl ⟨hw, hv⟩, h⟩
theorem N_off {i : Nat} {r : Pn} {a : Act} {w : World} {o : Oper} (ho : ops[i]? = some o) (hw : Region.wanted o (yielded ops a.tmps) = false)
    (h : wpN P ops Q S z r (a.put o.dst undef) w) : wpN P ops Q S z (.fl i r) a w :=
  ⟨o, undef, ho, .inr ⟨hw, rfl⟩, h⟩
/-- One of those that are ready, and the others. -/
theorem N_step {i : Nat} {r q : Pn} {a : Act} {w : World} {o : Oper} (ho : ops[i]? = some o) (hw : Region.wanted o (yielded ops a.tmps) = true)
    (h : ∀ K' : Act → World → Prop, Shut (∀ a w, S w → (S w → wpN P ops Q S z r a w) → K' a w) → Oper.wp P o a w K' Q) (hq : wpN P ops Q S z q a w) : wpN P ops Q S z (.alt i r q) a w := by
  refine ⟨?_, hq⟩
  unfold wpOp
  simp only [ho, hw, if_true]
  exact .inl (h _ (fun a w hS hW => ⟨fun _ => hS, hW hS⟩))
theorem N_none {a : Act} {w : World} : wpN P ops Q S z .none a w := trivial
theorem N_last {i : Nat} {a : Act} {w : World} {o : Oper} (hz : i = z) (ho : ops[i]? = some o) (hw : Region.wanted o (yielded ops a.tmps) = true)
    (h : ∀ K' : Act → World → Prop, Shut (∀ a w, Q .normal a w → K' a w) → Oper.wp P o a w K' Q) : wpN P ops Q S z (.alt i .done .none) a w := by
  refine ⟨?_, trivial⟩
  unfold wpOp
  simp only [ho, hw, if_true]
  exact .inl (h _ (fun a w hW => ⟨fun h => absurd hz h, hW⟩))
theorem N_done {a : Act} {w : World} (h : Q .normal a w) : wpN P ops Q S z .done a w := h
theorem cutN {T : Pn} {a : Act} {w : World} (h : ∀ (W : Pn → Act → World → Prop), W = wpN P ops Q S z → ∀ a0, a0 = a → W T a0 w) : wpN P ops Q S z T a w := h _ rfl _ rfl
end
attribute [irreducible] wpN
end Go.Proofs.Ytflkefabbdelaaa.Reg
