import Derived.OrdersHeld
import Derived.Deep.RegionHeld3
set_option linter.unusedVariables false
set_option linter.unusedSimpArgs false
namespace Go.Proofs.Ytfjcgbkoohjmnaa.Reg
section
variable {P : Program} {ops : Array Oper} {Q : Exit → Act → World → Prop} {S : World → Prop}

/-- One order of a region that draws its order: operations marked true yield the same value in every world that meets S; the others come one behind the other. -/
def wpG (P : Program) (ops : Array Oper) (Q : Exit → Act → World → Prop) (S : World → Prop) : List (Nat × Bool) → Act → World → Prop
  | [], a, w => Q .normal a w
  | (i, true) :: r, a, w => ∃ o v, ops[i]? = some o ∧ YieldsIf P ops S o v a ∧ wpG P ops Q S r (a.put o.dst v) w
  | (i, false) :: r, a, w => wpOp P ops Q i (fun a' w' => S w' ∧ wpG P ops Q S r a' w') a w

/-- The order may be taken: each marked one is ready and free where it comes; each other is the only one that is ready. -/
def planB (ops : Array Oper) : Array Bool → List (Nat × Bool) → Bool
  | listed, [] => (Region.ready .any ops listed).isEmpty
  | listed, (i, true) :: r => (Region.ready .any ops listed).contains i && Region.free .any ops listed i && planB ops (listed.setIfInBounds i true) r
  | listed, (i, false) :: r => (Region.ready .any ops listed == [i]) && planB ops (listed.setIfInBounds i true) r

theorem wpG_sound (hs : Region.noSelect ops = true) (hQ : ∀ c a w d v, Q (.panic c) (Act.put a d v) w → Q (.panic c) a w) :
    ∀ (l : List (Nat × Bool)) (fuel : Nat) (listed : Array Bool) (a : Act) (w : World), l.length ≤ fuel → planB ops listed l = true → S w → wpG P ops Q S l a w →
      wpAnyH P .any ops Q S fuel listed a w
  | [], fuel, listed, a, w, _, hp, _, h => by
    simp only [planB, List.isEmpty_iff] at hp
    exact wpAnyH_done hp h fuel
  | (i, true) :: r, 0, listed, a, w, hl, _, _, _ => by simp at hl
  | (i, true) :: r, fuel + 1, listed, a, w, hl, hp, hS, h => by
    simp only [planB, Bool.and_eq_true] at hp
    obtain ⟨o, v, ho, hy, hr⟩ := h
    exact wpAnyH_take ho hs hp.1.2 hp.1.1 (fun c a w h => hQ c a w _ _ h) hy hS (wpG_sound hs hQ r fuel _ _ w (by simpa using hl) hp.2 hS hr)
  | (i, false) :: r, 0, listed, a, w, hl, _, _, _ => by simp at hl
  | (i, false) :: r, fuel + 1, listed, a, w, hl, hp, hS, h => by
    simp only [planB, Bool.and_eq_true, beq_iff_eq] at hp
    refine wpAnyH_all hp.1 (by simp) (fun j hj => ?_)
    obtain rfl : j = i := by simpa using hj
    exact wpOp_mono (fun a' w' h' => ⟨h'.1, wpG_sound hs hQ r fuel _ _ w' (by simpa using hl) hp.2 h'.1 h'.2⟩) h

/-- The beginning. -/
theorem wp_plan (l : List (Nat × Bool)) {id : Nat} {a : Act} {w : World} (hm : P.follows .mixedOrders = true) (hs : Region.noSelect ops = true)
    (hp : planB ops (Array.replicate ops.size false) l = true) (hl : decide (l.length ≤ ops.size) = true) (hQ : ∀ c a w d v, Q (.panic c) (Act.put a d v) w → Q (.panic c) a w) (hS : S w.drew)
    (h : S w.drew → wpG P ops Q S l a w.drew) : (Code.region id ops true).wp P Q a w :=
  wp_region_held hm (wpG_sound hs hQ l _ _ _ _ (of_decide_eq_true hl) hp hS (h hS))

theorem G_on {i : Nat} {r : List (Nat × Bool)} {a : Act} {w : World} {o : Oper} {v : Value} (ho : ops[i]? = some o) (hw : Region.wanted o (yielded ops a.tmps) = true)
    (hv : ∀ w, S w → (execOp a.eval o).run P w = .ok (.value v) w) (h : wpG P ops Q S r (a.put o.dst v) w) : wpG P ops Q S ((i, true) :: r) a w :=
  ⟨o, v, ho, .inl ⟨hw, hv⟩, h⟩
theorem G_off {i : Nat} {r : List (Nat × Bool)} {a : Act} {w : World} {o : Oper} (ho : ops[i]? = some o) (hw : Region.wanted o (yielded ops a.tmps) = false)
    (h : wpG P ops Q S r (a.put o.dst undef) w) : wpG P ops Q S ((i, true) :: r) a w :=
  ⟨o, undef, ho, .inr ⟨hw, rfl⟩, h⟩
/-- One that waits its turn, and is not wanted. -/
theorem G_skip {i : Nat} {r : List (Nat × Bool)} {a : Act} {w : World} {o : Oper} (ho : ops[i]? = some o) (hw : Region.wanted o (yielded ops a.tmps) = false) (hS : S w)
    (h : wpG P ops Q S r (a.put o.dst undef) w) : wpG P ops Q S ((i, false) :: r) a w := by
  show wpOp P ops Q i _ a w
  unfold wpOp
  simp only [ho, hw, Bool.false_eq_true, if_false]
  exact ⟨hS, h⟩
/-- One that waits its turn. -/
theorem G_step {i : Nat} {r : List (Nat × Bool)} {a : Act} {w : World} {o : Oper} (ho : ops[i]? = some o) (hw : Region.wanted o (yielded ops a.tmps) = true)
    (h : ∀ K' : Act → World → Prop, Shut (∀ a w, S w → (S w → wpG P ops Q S r a w) → K' a w) → Oper.wp P o a w K' Q) : wpG P ops Q S ((i, false) :: r) a w := by
  show wpOp P ops Q i _ a w
  unfold wpOp
  simp only [ho, hw, if_true]
  exact .inl (h _ (fun a w hS hW => ⟨hS, hW hS⟩))
theorem G_done {a : Act} {w : World} (h : Q .normal a w) : wpG P ops Q S [] a w := h
end
attribute [irreducible] wpG
end Go.Proofs.Ytfjcgbkoohjmnaa.Reg
