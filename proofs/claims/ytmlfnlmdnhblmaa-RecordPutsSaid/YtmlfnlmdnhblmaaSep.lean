import Derived.Test.YtmlfnlmdnhblmaaBase
import Derived.Test.YtmlfnlmdnhblmaaStep
set_option linter.unusedVariables false
set_option linter.unusedSimpArgs false
namespace Go.Proofs.Ytmlfnlmdnhblmaa.Sp
open Go.RowKit Base
/-- Only blocks of F, and new ones, may have turned. -/
structure Mod (F : Nat → Prop) (w w' : World) : Prop where
  os : w'.os = w.os
  tape : w'.tape = w.tape
  output : w'.output = w.output
  size : w.heap.size ≤ w'.heap.size
  block : ∀ k, k < w.heap.size → ¬ F k → w'.heap[k]? = w.heap[k]?
theorem Mod.refl (F : Nat → Prop) (w : World) : Mod F w w := ⟨rfl, rfl, rfl, Nat.le_refl _, fun _ _ _ => rfl⟩
theorem Mod.of {F : Nat → Prop} {w w' : World} (h : Below w.heap.size w w') : Mod F w w' := ⟨h.os, h.tape, h.output, h.size, fun k hk _ => h.block k hk⟩
theorem Mod.trans {F G : Nat → Prop} {a b c : World} (h : Mod F a b) (k : Mod G b c) (hG : ∀ i, G i → F i ∨ a.heap.size ≤ i) : Mod F a c :=
  ⟨k.os.trans h.os, k.tape.trans h.tape, k.output.trans h.output, Nat.le_trans h.size k.size, fun i hi hF => (k.block i (Nat.lt_of_lt_of_le hi h.size) (fun g => (hG i g).elim hF (fun h => by omega))).trans (h.block i hi hF)⟩
theorem Mod.mono {F G : Nat → Prop} {w w' : World} (h : Mod F w w') (hG : ∀ k, F k → G k ∨ w.heap.size ≤ k) : Mod G w w' := (Mod.refl G w).trans h hG
theorem Mod.below {F : Nat → Prop} {B : Nat} {w0 w w' : World} (hb : Below B w0 w) (h : Mod F w w') (hB : B ≤ w.heap.size) (hF : ∀ k, F k → B ≤ k) : Below B w0 w' :=
  hb.trans ⟨h.os, h.tape, h.output, h.size, fun k hk => h.block k (by omega) (fun hf => by have := hF k hf; omega)⟩
theorem Mod.set {F : Nat → Prop} {w w' : World} (h : Mod F w w') {p : Addr} (hp : F p.block ∨ w.heap.size ≤ p.block) (u : Value) : Mod F w (w'.setCell p u) :=
  ⟨h.os, h.tape, h.output, by simpa [World.setCell] using h.size, fun k hk hF => (Below.heap_setCell _ _ _ _ (fun e => by subst e; exact hp.elim hF (fun h => by omega))).trans (h.block k hk hF)⟩
theorem Mod.alloc {F : Nat → Prop} {w w' : World} (h : Mod F w w') (o : Obj) : Mod F w (w'.alloc o) :=
  ⟨h.os, h.tape, h.output, by have := h.size; simp; omega, fun k hk hF => (Below.heap_alloc _ _ _ (by have := h.size; omega)).trans (h.block k hk hF)⟩
theorem Mod.drew {F : Nat → Prop} {w w' : World} (h : Mod F w w') : Mod F w w'.drew := ⟨h.os, h.tape, h.output, h.size, h.block⟩
theorem Mod.grown {F : Nat → Prop} {w w1 w' : World} {row : Option Nat} (h : Mod F w w1) (hg : w1.grownBy w' row) (hr : ∀ k, row = some k → F k ∨ w.heap.size ≤ k) : Mod F w w' :=
  ⟨hg.os.trans h.os, hg.tape.trans h.tape, hg.output.trans h.output, Nat.le_trans h.size hg.size, fun k hk hF => (hg.block k (Nat.lt_of_lt_of_le hk h.size) (fun e => (hr k e.symm).elim hF (fun h => by omega))).trans (h.block k hk hF)⟩
theorem Mod.cell {F : Nat → Prop} {w w' : World} {a : Addr} {u : Value} (h : Mod F w w') (hc : w.cell? a = some u) (hF : ¬ F a.block) : w'.cell? a = some u := by
  have hl := World.block_lt_of_cell? w a hc
  unfold World.cell? at hc ⊢
  rw [h.block a.block hl hF]
  exact hc
theorem Mod.froz {F : Nat → Prop} {w w' : World} {a : Addr} {u : Bool} (h : Mod F w w') (hc : w.frozen? a = u) (hl : a.block < w.heap.size) (hF : ¬ F a.block) : w'.frozen? a = u := by
  unfold World.frozen? at hc ⊢
  rw [h.block a.block hl hF]
  exact hc
/-- Blocks of F are as they were. -/
def Same (F : Nat → Prop) (w w' : World) : Prop := ∀ k, F k → w'.heap[k]? = w.heap[k]?
theorem Mod.same {F G : Nat → Prop} {w w' : World} (h : Mod F w w') (hl : ∀ k, G k → k < w.heap.size) (hd : ∀ k, G k → ¬ F k) : Same G w w' := fun k hk => h.block k (hl k hk) (hd k hk)
theorem Same.of {G : Nat → Prop} {w w' : World} (h : Below w.heap.size w w') (hl : ∀ k, G k → k < w.heap.size) : Same G w w' := fun k hk => h.block k (hl k hk)
theorem Same.cell {F : Nat → Prop} {w w' : World} (h : Same F w w') {b i : Nat} (hb : F b) : w'.cell? ⟨b, i, none⟩ = w.cell? ⟨b, i, none⟩ := by unfold World.cell?; rw [h b hb]
theorem Same.frozen {F : Nat → Prop} {w w' : World} (h : Same F w w') {b i : Nat} (hb : F b) : w'.frozen? ⟨b, i, none⟩ = w.frozen? ⟨b, i, none⟩ := by unfold World.frozen?; rw [h b hb]
/-- What is F's then is F's before, or new. -/
def Grow (F F' : Nat → Prop) (w : World) : Prop := ∀ k, F' k → F k ∨ w.heap.size ≤ k
theorem Grow.refl (F : Nat → Prop) (w : World) : Grow F F w := fun _ h => .inl h
end Go.Proofs.Ytmlfnlmdnhblmaa.Sp
