import Derived.OrdersHeld
import Derived.Deep.RegionHeld3
import Derived.Test.YtmlfnlmdnhblmaaWLast
set_option linter.unusedVariables false
set_option linter.unusedSimpArgs false
namespace Go.Proofs.Ytmlfnlmdnhblmaa.Reg
open Go.Proofs.YtmlfnlmdnhblmaaW.PrintLast
section
variable {P : Program} {ops : Array Oper} {Q : Exit → Act → World → Prop} {S : World → Prop} {z : Nat}

/-- Whatever order is picked from here on; S holds behind every operation but number z, for which nobody is left to wait. -/
def wpT (P : Program) (ops : Array Oper) (Q : Exit → Act → World → Prop) (S : World → Prop) (z : Nat) : Nat → Array Bool → Act → World → Prop
  | 0, listed, a, w => Region.ready .any ops listed = [] ∧ Q .normal a w
  | fuel + 1, listed, a, w =>
    (Region.ready .any ops listed = [] → Q .normal a w) ∧
    ∀ i ∈ Region.ready .any ops listed, wpOp P ops Q i (fun a' w' => (i ≠ z → S w') ∧ wpT P ops Q S z fuel (listed.setIfInBounds i true) a' w') a w

theorem wpAny_of_T : ∀ (fuel : Nat) (listed : Array Bool) (a : Act) (w : World), wpT P ops Q S z fuel listed a w → wpAny P .any ops Q fuel listed a w
  | 0, _, _, _, h => h
  | fuel + 1, _, _, _, h => ⟨h.1, fun i hi => wpOp_mono (fun _ _ h' => wpAny_of_T fuel _ _ _ h'.2) (h.2 i hi)⟩

/-- Number z waits for number i, or there is no such number. -/
def waitsB (ops : Array Oper) (z i : Nat) : Bool :=
  match ops[z]? with
  | none => true
  | some o => (o.after.any fun e => Region.binds .any e && e.on == i) || Region.reachB .any ops i 4 z

theorem not_ready {i j : Nat} {listed : Array Bool} (hc : ListedClosed .any ops listed) (hz : waitsB ops z i = true) (hi : i ∈ Region.ready .any ops listed) (hj : j ∈ Region.ready .any ops listed) : j ≠ z := by
  rintro rfl
  have hj0 := hj
  obtain ⟨_, o, ho, hall⟩ := mem_ready.1 hj
  have h0 := (mem_ready.1 hi).1
  unfold waitsB at hz
  rw [ho] at hz
  simp only [Bool.or_eq_true] at hz
  rcases hz with hz | hz
  case inr => exact Region.reach_not_ready hc hz h0 hj0
  obtain ⟨e, he, hb⟩ := Array.any_eq_true'.1 hz
  simp only [Bool.and_eq_true, beq_iff_eq] at hb
  have h1 := hall e he hb.1
  rw [hb.2] at h1
  rcases Nat.lt_or_ge i listed.size with h' | h'
  · simp [h'] at h0 h1
    rw [h0] at h1
    cases h1
  · simp [Array.getElem?_eq_none h'] at h1

theorem T_first {i : Nat} {oi : Oper} {v : Value} (hi : ops[i]? = some oi) (hsel : ∀ (j : Nat) (o : Oper) cs b, ops[j]? = some o → o.op ≠ .select cs b)
    (hQ : ∀ c a w, Q (.panic c) (a.put oi.dst v) w → Q (.panic c) a w) (hz : waitsB ops z i = true) :
    ∀ (fuel : Nat) (listed : Array Bool) (a : Act) (w : World), ListedClosed .any ops listed →
      (∀ j oj, ops[j]? = some oj → j ≠ i → listed.getD j true = false → (∀ e ∈ oj.after, Region.binds .any e = true → e.on ≠ i) → oi.apart ops oj = true) →
      i ∈ Region.ready .any ops listed → YieldsIf P ops S oi v a → S w →
      wpT P ops Q S z fuel (listed.setIfInBounds i true) (a.put oi.dst v) w → wpT P ops Q S z (fuel + 1) listed a w := by
  intro fuel
  induction fuel with
  | zero =>
    intro listed a w hc _ hr hy hS H
    refine ⟨fun h => (by rw [h] at hr; cases hr), fun j hj => ?_⟩
    by_cases hji : j = i
    · subst hji
      exact hy.wpOp hi hS ⟨fun _ => hS, H⟩
    · have := ready_mono hj hji
      rw [H.1] at this
      cases this
  | succ fuel ih =>
    intro listed a w hc hfree hr hy hS H
    refine ⟨fun h => (by rw [h] at hr; cases hr), fun j hj => ?_⟩
    by_cases hji : j = i
    · subst hji
      exact hy.wpOp hi hS ⟨fun _ => hS, H⟩
    · have hjz := not_ready hc hz hr hj
      have h1 := H.2 j (ready_mono hj hji)
      obtain ⟨hjun, oj, hoj, hall⟩ := mem_ready.1 hj
      have hnot : ∀ e ∈ oj.after, Region.binds .any e = true → e.on ≠ i := fun e he hb heq => by
        have h1 := hall e he hb
        have h0 := (mem_ready.1 hr).1
        rw [heq] at h1
        rcases Nat.lt_or_ge i listed.size with h' | h'
        · simp [h'] at h0 h1
          rw [h0] at h1
          cases h1
        · simp [Array.getElem?_eq_none h'] at h1
      have h2 := wpOp_putIf hoj (hfree j oj hoj hji hjun hnot) (fun cs b => hsel i oi cs b hi) (fun cs b => hsel j oj cs b hoj) hQ hy h1
      have hfree' : ∀ k ok, ops[k]? = some ok → k ≠ i → (listed.setIfInBounds j true).getD k true = false →
          (∀ e ∈ ok.after, Region.binds .any e = true → e.on ≠ i) → oi.apart ops ok = true := fun k ok hk hki hun hno => by
        refine hfree k ok hk hki ?_ hno
        by_cases hjk : j = k
        · subst hjk
          exact hjun
        · rw [getD_set_ne true hjk] at hun
          exact hun
      refine wpOp_mono (fun a' w' h3 => ⟨h3.2.1, ih (listed.setIfInBounds j true) a' w' (hc.set hj) hfree' (ready_mono hr (Ne.symm hji)) h3.1 (h3.2.1 hjz) ?_⟩) h2
      rw [Array.setIfInBounds_comm _ _ hji]
      exact h3.2.2

/-- Orders of a region that draws its order: fl: an operation that yields the same value in every world that meets S; one: the only one that is ready; two: two are ready. -/
inductive Pl where
  | done : Pl
  | fl : Nat → Pl → Pl
  | one : Nat → Pl → Pl
  | two : Nat → Nat → Pl → Pl → Pl
/-- S holds behind each operation but number z. -/
def wpG (P : Program) (ops : Array Oper) (Q : Exit → Act → World → Prop) (S : World → Prop) (z : Nat) : Pl → Act → World → Prop
  | .done, a, w => Q .normal a w
  | .fl i r, a, w => ∃ o v, ops[i]? = some o ∧ YieldsIf P ops S o v a ∧ wpG P ops Q S z r (a.put o.dst v) w
  | .one i r, a, w => wpOp P ops Q i (fun a' w' => (i ≠ z → S w') ∧ wpG P ops Q S z r a' w') a w
  | .two i j r q, a, w => wpOp P ops Q i (fun a' w' => (i ≠ z → S w') ∧ wpG P ops Q S z r a' w') a w ∧ wpOp P ops Q j (fun a' w' => (j ≠ z → S w') ∧ wpG P ops Q S z q a' w') a w

/-- The orders may be taken: each float is ready and free where it comes; each other is the only one that is ready, or one of two; z is the last. -/
def planB (ops : Array Oper) (z : Nat) : Array Bool → Pl → Bool
  | listed, .done => (Region.ready .any ops listed).isEmpty
  | listed, .fl i r => (Region.ready .any ops listed).contains i && Region.free .any ops listed i && waitsB ops z i && planB ops z (listed.setIfInBounds i true) r
  | listed, .one i r => (Region.ready .any ops listed == [i]) && (i != z || (match r with | .done => true | _ => false)) && planB ops z (listed.setIfInBounds i true) r
  | listed, .two i j r q => (Region.ready .any ops listed == [i, j]) && (i != z && j != z) && planB ops z (listed.setIfInBounds i true) r && planB ops z (listed.setIfInBounds j true) q

/-- How many steps the orders have at most. -/
def Pl.len : Pl → Nat
  | .done => 0
  | .fl _ r => r.len + 1
  | .one _ r => r.len + 1
  | .two _ _ r q => max r.len q.len + 1

theorem wpG_sound (hs : Region.noSelect ops = true) (hQ : ∀ c a w d v, Q (.panic c) (Act.put a d v) w → Q (.panic c) a w) :
    ∀ (l : Pl) (fuel : Nat) (listed : Array Bool) (a : Act) (w : World), ListedClosed .any ops listed → l.len ≤ fuel → planB ops z listed l = true → (l ≠ .done → S w) → wpG P ops Q S z l a w →
      wpT P ops Q S z fuel listed a w
  | .done, fuel, listed, a, w, _, _, hp, _, h => by
    simp only [planB, List.isEmpty_iff] at hp
    cases fuel with
    | zero => exact ⟨hp, h⟩
    | succ n => exact ⟨fun _ => h, by rw [hp]; simp⟩
  | .fl i r, 0, listed, a, w, _, hl, _, _, _ => by simp [Pl.len] at hl
  | .fl i r, fuel + 1, listed, a, w, hc, hl, hp, hS, h => by
    simp only [planB, Bool.and_eq_true] at hp
    obtain ⟨o, v, ho, hy, hr⟩ := h
    have hS' := hS (by simp)
    exact T_first ho (Region.noSelect_spec hs) (fun c a w h => hQ c a w _ _ h) hp.1.2 fuel listed a w hc (Region.free_spec ho hp.1.1.2) (by simpa using hp.1.1.1) hy hS'
      (wpG_sound hs hQ r fuel _ _ w (hc.set (by simpa using hp.1.1.1)) (by simpa [Pl.len] using hl) hp.2 (fun _ => hS') hr)
  | .one i r, 0, listed, a, w, _, hl, _, _, _ => by simp [Pl.len] at hl
  | .one i r, fuel + 1, listed, a, w, hc, hl, hp, hS, h => by
    simp only [planB, Bool.and_eq_true, beq_iff_eq, Bool.or_eq_true, bne_iff_ne] at hp
    refine ⟨fun h0 => (by rw [hp.1.1] at h0; cases h0), fun j hj => ?_⟩
    obtain rfl : j = i := by rw [hp.1.1] at hj; simpa using hj
    refine wpOp_mono (fun a' w' h' => ⟨h'.1, wpG_sound hs hQ r fuel _ _ w' (hc.set hj) (by simpa [Pl.len] using hl) hp.2 (fun hr => ?_) h'.2⟩) h
    refine h'.1 (hp.1.2.resolve_right ?_)
    cases r <;> simp_all
  | .two i j r q, 0, listed, a, w, _, hl, _, _, _ => by simp [Pl.len] at hl
  | .two i j r q, fuel + 1, listed, a, w, hc, hl, hp, hS, h => by
    simp only [planB, Bool.and_eq_true, beq_iff_eq, bne_iff_ne] at hp
    simp only [Pl.len] at hl
    refine ⟨fun h0 => (by rw [hp.1.1.1] at h0; cases h0), fun k hk => ?_⟩
    have hk' : k = i ∨ k = j := by rw [hp.1.1.1] at hk; simpa using hk
    rcases hk' with rfl | rfl
    · exact wpOp_mono (fun a' w' h' => ⟨h'.1, wpG_sound hs hQ r fuel _ _ w' (hc.set hk) (by omega) hp.1.2 (fun _ => h'.1 hp.1.1.2.1) h'.2⟩) h.1
    · exact wpOp_mono (fun a' w' h' => ⟨h'.1, wpG_sound hs hQ q fuel _ _ w' (hc.set hk) (by omega) hp.2 (fun _ => h'.1 hp.1.1.2.2) h'.2⟩) h.2

theorem closed_start (n : Nat) : ListedClosed .any ops (Array.replicate n false) := by
  intro j oj _ hl
  exfalso
  rw [Array.getD_eq_getD_getElem?, Array.getElem?_replicate] at hl
  split at hl <;> simp at hl
/-- The beginning. z: the last operation's number where S doesn't hold behind it; else the number of all. -/
theorem wp_plan (z : Nat) (l : Pl) {id : Nat} {a : Act} {w : World} (hm : P.follows .mixedOrders = true) (hs : Region.noSelect ops = true)
    (hp : planB ops z (Array.replicate ops.size false) l = true) (hl : decide (l.len ≤ ops.size) = true) (hQ : ∀ c a w d v, Q (.panic c) (Act.put a d v) w → Q (.panic c) a w) (hS : S w.drew)
    (h : S w.drew → wpG P ops Q S z l a w.drew) : (Code.region id ops true).wp P Q a w :=
  wp_region_any hm (wpAny_of_T _ _ _ _ (wpG_sound hs hQ l _ _ _ _ (closed_start _) (of_decide_eq_true hl) hp (fun _ => hS) (h hS)))

theorem G_on {i : Nat} {r : Pl} {a : Act} {w : World} {o : Oper} {v : Value} (ho : ops[i]? = some o) (hw : Region.wanted o (yielded ops a.tmps) = true)
    (hv : ∀ w, S w → (execOp a.eval o).run P w = .ok (.value v) w) (h : wpG P ops Q S z r (a.put o.dst v) w) : wpG P ops Q S z (.fl i r) a w :=
  ⟨o, v, ho, .inl ⟨hw, hv⟩, h⟩
theorem G_off {i : Nat} {r : Pl} {a : Act} {w : World} {o : Oper} (ho : ops[i]? = some o) (hw : Region.wanted o (yielded ops a.tmps) = false)
    (h : wpG P ops Q S z r (a.put o.dst undef) w) : wpG P ops Q S z (.fl i r) a w :=
  ⟨o, undef, ho, .inr ⟨hw, rfl⟩, h⟩
/-- One that waits its turn, and is not wanted. -/
theorem G_skip {i : Nat} {r : Pl} {a : Act} {w : World} {o : Oper} (ho : ops[i]? = some o) (hw : Region.wanted o (yielded ops a.tmps) = false) (hS : S w)
    (h : wpG P ops Q S z r (a.put o.dst undef) w) : wpG P ops Q S z (.one i r) a w := by
  show wpOp P ops Q i _ a w
  unfold wpOp
  simp only [ho, hw, Bool.false_eq_true, if_false]
  exact ⟨fun _ => hS, h⟩
/-- One that waits its turn. -/
theorem G_step {i : Nat} {r : Pl} {a : Act} {w : World} {o : Oper} (ho : ops[i]? = some o) (hw : Region.wanted o (yielded ops a.tmps) = true)
    (h : ∀ K' : Act → World → Prop, Shut (∀ a w, S w → (S w → wpG P ops Q S z r a w) → K' a w) → Oper.wp P o a w K' Q) : wpG P ops Q S z (.one i r) a w := by
  show wpOp P ops Q i _ a w
  unfold wpOp
  simp only [ho, hw, if_true]
  exact .inl (h _ (fun a w hS hW => ⟨fun _ => hS, hW hS⟩))
/-- The last. -/
theorem G_last {i : Nat} {a : Act} {w : World} {o : Oper} (hz : i = z) (ho : ops[i]? = some o) (hw : Region.wanted o (yielded ops a.tmps) = true)
    (h : ∀ K' : Act → World → Prop, Shut (∀ a w, Q .normal a w → K' a w) → Oper.wp P o a w K' Q) : wpG P ops Q S z (.one i .done) a w := by
  show wpOp P ops Q i _ a w
  unfold wpOp
  simp only [ho, hw, if_true]
  exact .inl (h _ (fun a w hW => ⟨fun h => absurd hz h, hW⟩))
/-- Two are ready: both ways. -/
theorem G_two {i j : Nat} {r q : Pl} {a : Act} {w : World} (h1 : wpG P ops Q S z (.one i r) a w) (h2 : wpG P ops Q S z (.one j q) a w) : wpG P ops Q S z (.two i j r q) a w := ⟨h1, h2⟩
theorem G_done {a : Act} {w : World} (h : Q .normal a w) : wpG P ops Q S z .done a w := h
end
attribute [irreducible] wpG
end Go.Proofs.Ytmlfnlmdnhblmaa.Reg
