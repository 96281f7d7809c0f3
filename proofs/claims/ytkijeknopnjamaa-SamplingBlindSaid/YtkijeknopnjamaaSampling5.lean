import Derived.Test.YtkijeknopnjamaaSampling4
set_option linter.unusedVariables false
set_option linter.unusedSimpArgs false
namespace Go.Proofs.Ytkijeknopnjamaa.Sampling
open Go.RowKit Base Go.Proofs.YtkijeknopnjamaaW.PrintWords Go.Proofs.YtkijeknopnjamaaW.PrintLast
/-- A step's cells in a block. -/
def Box (w : World) (b : Nat) (r : Bool) (s : ByteArray) (n : Int) : Prop :=
  w.cell? ⟨b, 0, none⟩ = some (.bool r) ∧ w.cell? ⟨b, 1, none⟩ = some (.string s) ∧ w.cell? ⟨b, 2, none⟩ = some (.int .u64 n) ∧
  w.frozen? ⟨b, 0, none⟩ = false ∧ w.frozen? ⟨b, 1, none⟩ = false ∧ w.frozen? ⟨b, 2, none⟩ = false
theorem Box.below {w w' : World} {b : Nat} {r : Bool} {s : ByteArray} {n : Int} (h : Box w b r s n) (hb : Below w.heap.size w w') (hl : b < w.heap.size) : Box w' b r s n :=
  let ⟨h0, h1, h2, f0, f1, f2⟩ := h
  ⟨cbel hb h0 hl, cbel hb h1 hl, cbel hb h2 hl, fbel hb f0 hl, fbel hb f1 hl, fbel hb f2 hl⟩
theorem Box.kept {w w' : World} {b : Nat} {r : Bool} {s : ByteArray} {n : Int} (h : Box w b r s n) (e : w'.heap[b]? = w.heap[b]?) : Box w' b r s n := by
  have c : ∀ j, w'.cell? ⟨b, j, none⟩ = w.cell? ⟨b, j, none⟩ := fun j => by unfold World.cell?; rw [e]
  have g : ∀ j, w'.frozen? ⟨b, j, none⟩ = w.frozen? ⟨b, j, none⟩ := fun j => by unfold World.frozen?; rw [e]
  unfold Box
  rw [c, c, c, g, g, g]
  exact h
theorem Box.new (w : World) (r : Bool) (s : ByteArray) (n : Int) : Box (w.alloc (.cells #[.bool r, .string s, .int .u64 n] 29)) w.heap.size r s n := by
  refine ⟨?_, ?_, ?_, ?_, ?_, ?_⟩ <;> simp
/-- The three blocks that SamplingBlind begins with. -/
theorem three (w : World) (z : Int) (W : World) (hW : W = ((w.alloc (.cells #[.int .i64 z, .bool false, .string ByteArray.empty, .int .u64 0] 43)).alloc (.cells #[.int .i64 z, .bool false, .string ByteArray.empty, .int .u64 0] 43)).alloc (.cells #[.bool false, .string ⟨#[]⟩, .int .u64 0] 29)) :
    Port W w.heap.size z false ByteArray.empty 0 ∧ Port W (w.heap.size + 1) z false ByteArray.empty 0 ∧ Box W (w.heap.size + 2) false ByteArray.empty 0 ∧ Below w.heap.size w W ∧ w.heap.size + 2 < W.heap.size := by
  have h1 := Port.new w z
  have b1 : Below w.heap.size w (w.alloc (.cells #[.int .i64 z, .bool false, .string ByteArray.empty, .int .u64 0] 43)) := (Below.refl _ _).alloc (Nat.le_refl _) _
  have s1 : (w.alloc (.cells #[.int .i64 z, .bool false, .string ByteArray.empty, .int .u64 0] 43)).heap.size = w.heap.size + 1 := by simp
  generalize w.alloc (.cells #[.int .i64 z, .bool false, .string ByteArray.empty, .int .u64 0] 43) = w1 at *
  have h2 := Port.new w1 z
  have b2 : Below w1.heap.size w1 (w1.alloc (.cells #[.int .i64 z, .bool false, .string ByteArray.empty, .int .u64 0] 43)) := (Below.refl _ _).alloc (Nat.le_refl _) _
  have s2 : (w1.alloc (.cells #[.int .i64 z, .bool false, .string ByteArray.empty, .int .u64 0] 43)).heap.size = w1.heap.size + 1 := by simp
  generalize w1.alloc (.cells #[.int .i64 z, .bool false, .string ByteArray.empty, .int .u64 0] 43) = w2 at *
  have h3 := Box.new w2 false ⟨#[]⟩ 0
  have b3 : Below w2.heap.size w2 (w2.alloc (.cells #[.bool false, .string ⟨#[]⟩, .int .u64 0] 29)) := (Below.refl _ _).alloc (Nat.le_refl _) _
  have s3 : (w2.alloc (.cells #[.bool false, .string ⟨#[]⟩, .int .u64 0] 29)).heap.size = w2.heap.size + 1 := by simp
  rw [← hW] at h3 b3 s3
  have e2 : w2.heap.size = w.heap.size + 2 := by omega
  rw [e2] at h3
  rw [s1] at h2
  exact ⟨(h1.below b2 (by omega)).below b3 (by omega), h2.below b3 (by omega), h3, bstep (bstep b1 b2) b3, by omega⟩
/-- What the port has. -/
def St2 (t : Bool) (s : ByteArray) (f : Int) : Prop := (t = false ∧ s = ByteArray.empty ∧ f = 0) ∨ (t = true ∧ 0 ≤ f)
/-- A read, whatever the port has. -/
theorem read_any (n z : Int) (t : Bool) (s : ByteArray) (f : Int) (b : Nat) (w : World) (hp : Port w b z t s f) (hst : St2 t s f) (hn : n < 18446744073709551616) :
    Calls Try.prog 17 #[.pointer (some ⟨b, 0, none⟩), .int .u64 n] w fun e w' => e = .returned (.tuple #[.string s, .int .u64 (if t then age n f else 0), .int .i64 (if t then 0 else 18)]) ∧ Below w.heap.size w w' := by
  rcases hst with ⟨rfl, rfl, rfl⟩ | ⟨rfl, f0⟩
  · refine (read_none n z b w hp).mono ?_
    rintro e w' ⟨rfl, rfl⟩
    exact ⟨rfl, Below.refl _ _⟩
  · refine (read_last n z f s b w hp hn f0).mono ?_
    rintro e w' ⟨rfl, rfl⟩
    exact ⟨rfl, (Below.refl _ _).drew⟩
/-- The world behind a step's store. -/
def set3 (w : World) (b : Nat) (r : Bool) (s : ByteArray) (n : Int) : World := ((w.setCell ⟨b, 0, none⟩ (.bool r)).setCell ⟨b, 1, none⟩ (.string s)).setCell ⟨b, 2, none⟩ (.int .u64 n)
theorem Box.set {w : World} {b : Nat} {r0 : Bool} {s0 : ByteArray} {n0 : Int} (h : Box w b r0 s0 n0) (r : Bool) (s : ByteArray) (n : Int) : Box (set3 w b r s n) b r s n := by
  obtain ⟨h0, h1, h2, f0, f1, f2⟩ := h
  unfold set3
  refine ⟨coff (coff (csame h0) (by decide)) (by decide), coff (csame (coff h1 (by decide))) (by decide), csame (coff (coff h2 (by decide)) (by decide)), ?_, ?_, ?_⟩ <;> simpa
theorem set3_heap (w : World) (b : Nat) (r : Bool) (s : ByteArray) (n : Int) (i : Nat) (h : i ≠ b) : (set3 w b r s n).heap[i]? = w.heap[i]? := by
  unfold set3
  rw [Below.heap_setCell _ _ _ i h, Below.heap_setCell _ _ _ i h, Below.heap_setCell _ _ _ i h]
theorem set3_below {B : Nat} {w w' : World} {b : Nat} {r : Bool} {s : ByteArray} {n : Int} (h : Below B w w') (hb : B ≤ b) : Below B w (set3 w' b r s n) := ((h.setCell hb _).setCell hb _).setCell hb _
theorem set3_size (w : World) (b : Nat) (r : Bool) (s : ByteArray) (n : Int) : (set3 w b r s n).heap.size = w.heap.size := by unfold set3; simp
theorem read_some (n z : Int) (t : Bool) (s : ByteArray) (f : Int) (b : Nat) (w : World) (hp : Port w b z t s f) (hst : St2 t s f) (hn : n < 18446744073709551616) :
    Calls Try.prog 17 #[.pointer (some ⟨b, 0, none⟩), .int .u64 n] w fun e w' => ∃ x y : Int, e = .returned (.tuple #[.string s, .int .u64 x, .int .i64 y]) ∧ Below w.heap.size w w' :=
  (read_any n z t s f b w hp hst hn).mono fun _ _ h => ⟨_, _, h.1, h.2⟩
end Go.Proofs.Ytkijeknopnjamaa.Sampling
