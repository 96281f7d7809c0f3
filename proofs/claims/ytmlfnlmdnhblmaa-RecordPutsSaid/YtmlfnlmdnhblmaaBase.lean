import Derived.Test.YtmlfnlmdnhblmaaProg
import Derived.WalkKit
import Derived.WalkSpells
import Derived.WalkLawsBesides
import Derived.Below
import Derived.Lib.Hide
import Derived.KernelRfl
import Derived.LaidEqlPtr
import Derived.Deep.LoopGhost
import Derived.Deep.QuietTactic
import Derived.BigQuiet
import Derived.WalkSmall
import Derived.Handy
import Derived.ProofKit
import Derived.LoopTactic
import Derived.OwnWalk
import Derived.Deep.RegionHeld3
set_option linter.unusedVariables false
set_option linter.unusedSimpArgs false
namespace Go.Proofs.Ytmlfnlmdnhblmaa.Base
open Go.RowKit
theorem wrapu64 {x : Int} (h0 : 0 ≤ x) (h1 : x < 18446744073709551616) : IntKind.u64.wrap x = x := by
  simp [IntKind.wrap, IntKind.bits, IntKind.signed]; omega
theorem wrapi64 {x : Int} (h0 : -9223372036854775808 ≤ x) (h1 : x < 9223372036854775808) : IntKind.i64.wrap x = x := by
  simp [IntKind.wrap, IntKind.bits, IntKind.signed]; omega
theorem wf_u64 {n : Int} (h : (Lit.int .u64 n).wf = true) : 0 ≤ n ∧ n < 18446744073709551616 := by
  simp only [Lit.wf, Bool.and_eq_true, decide_eq_true_eq] at h
  have h1 : IntKind.u64.min = 0 := by decide
  have h2 : IntKind.u64.max = 18446744073709551615 := by decide
  omega
theorem wf_i64 {n : Int} (h : (Lit.int .i64 n).wf = true) : -9223372036854775808 ≤ n ∧ n < 9223372036854775808 := by
  simp only [Lit.wf, Bool.and_eq_true, decide_eq_true_eq] at h
  have h1 : IntKind.i64.min = -9223372036854775808 := by decide
  have h2 : IntKind.i64.max = 9223372036854775807 := by decide
  omega
theorem wf_u32 {n : Int} (h : (Lit.int .u32 n).wf = true) : 0 ≤ n ∧ n < 4294967296 := by
  simp only [Lit.wf, Bool.and_eq_true, decide_eq_true_eq] at h
  have h1 : IntKind.u32.min = 0 := by decide
  have h2 : IntKind.u32.max = 4294967295 := by decide
  omega
theorem wf_u8 {n : Int} (h : (Lit.int .u8 n).wf = true) : 0 ≤ n ∧ n < 256 := by
  simp only [Lit.wf, Bool.and_eq_true, decide_eq_true_eq] at h
  have h1 : IntKind.u8.min = 0 := by decide
  have h2 : IntKind.u8.max = 255 := by decide
  omega
theorem cfar {w : World} {p a : Addr} {v u : Value} (h : w.cell? a = some u) (hn : p.block ≠ a.block) : (w.setCell p v).cell? a = some u :=
  (World.cell?_setCell_far w p a v hn).trans h
theorem csame {w : World} {a : Addr} {v u : Value} (h : w.cell? a = some u) : (w.setCell a v).cell? a = some v := World.cell?_setCell_same _ _ _ h
theorem coff {w : World} {b i j : Nat} {v u : Value} (h : w.cell? ⟨b, j, none⟩ = some u) (hn : i ≠ j) : (w.setCell ⟨b, i, none⟩ v).cell? ⟨b, j, none⟩ = some u :=
  by
  rw [World.cell?_setCell_other]
  · exact h
  · intro e
    injection e with _ e
    exact hn e
theorem cnew {w : World} {o : Obj} {a : Addr} {u : Value} (h : w.cell? a = some u) : (w.alloc o).cell? a = some u := by
  rw [World.cell?_alloc_old]
  · exact h
  · intro e
    unfold World.cell? at h
    rw [e] at h
    simp at h
theorem cbel {B : Nat} {w w' : World} {a : Addr} {u : Value} (hb : Below B w w') (h : w.cell? a = some u) (ha : a.block < B) : w'.cell? a = some u := (hb.cell ha).trans h
theorem fbel {B : Nat} {w w' : World} {a : Addr} {u : Bool} (hb : Below B w w') (h : w.frozen? a = u) (ha : a.block < B) : w'.frozen? a = u := (hb.frozen ha).trans h
theorem bx {x y : Int} (h : x = y) {k : IntKind} : Ending.returned (Value.int k x) = Ending.returned (Value.int k y) := by rw [h]
theorem bb {x y : Bool} (h : x = y) : Ending.returned (Value.bool x) = Ending.returned (Value.bool y) := by rw [h]
end Go.Proofs.Ytmlfnlmdnhblmaa.Base
