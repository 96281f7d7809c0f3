import Derived.Test.YtjlgkebecpagjaaMemory4
set_option linter.unusedVariables false
set_option linter.unusedSimpArgs false
namespace Go.Proofs.Ytjlgkebecpagjaa.Part
open Go.RowKit Base Sp Flat Go.Proofs.YtjlgkebecpagjaaW.PrintWords Go.Lib
/-- A partition in block b. -/
def PB (w : World) (b : Nat) (f l : Int) (s : Bool) (p : Value) (m : Int) : Prop := w.heap[b]? = some (.cells #[.int .i64 f, .int .i64 l, .bool s, p, .int .i64 m] 56 (0, 0))
theorem five {w : World} {b : Nat} {f l : Int} {s : Bool} {p : Value} {m : Int} (h : PB w b f l s p m) :
    (w.cell? ⟨b, 0, none⟩ = some (.int .i64 f) ∧ w.cell? ⟨b, 1, none⟩ = some (.int .i64 l) ∧ w.cell? ⟨b, 2, none⟩ = some (.bool s) ∧ w.cell? ⟨b, 3, none⟩ = some p ∧ w.cell? ⟨b, 4, none⟩ = some (.int .i64 m)) ∧
    w.frozen? ⟨b, 0, none⟩ = false ∧ w.frozen? ⟨b, 1, none⟩ = false ∧ w.frozen? ⟨b, 2, none⟩ = false :=
  ⟨⟨blk_cell h 0, blk_cell h 1, blk_cell h 2, blk_cell h 3, blk_cell h 4⟩, blk_frozen h 0, blk_frozen h 1, blk_frozen h 2⟩
theorem PB.set0 {w : World} {b : Nat} {f l : Int} {s : Bool} {p : Value} {m : Int} (h : PB w b f l s p m) (x : Int) : PB (w.setCell ⟨b, 0, none⟩ (.int .i64 x)) b x l s p m := by simpa [PB] using blk_set h 0 (.int .i64 x)
theorem PB.set1 {w : World} {b : Nat} {f l : Int} {s : Bool} {p : Value} {m : Int} (h : PB w b f l s p m) (x : Int) : PB (w.setCell ⟨b, 1, none⟩ (.int .i64 x)) b f x s p m := by simpa [PB] using blk_set h 1 (.int .i64 x)
theorem PB.set2 {w : World} {b : Nat} {f l : Int} {s : Bool} {p : Value} {m : Int} (h : PB w b f l s p m) (x : Bool) : PB (w.setCell ⟨b, 2, none⟩ (.bool x)) b f l x p m := by simpa [PB] using blk_set h 2 (.bool x)
theorem PB.far {w w' : World} {b : Nat} {f l : Int} {s : Bool} {p : Value} {m : Int} {F : Nat → Prop} (h : PB w b f l s p m) (hm : Mod F w w') (hF : ¬ F b) : PB w' b f l s p m := (hm.block b (blk_lt h) hF).trans h
theorem PB.below {w w' : World} {b : Nat} {f l : Int} {s : Bool} {p : Value} {m : Int} (h : PB w b f l s p m) (hb : Below w.heap.size w w') : PB w' b f l s p m := (hb.block b (blk_lt h)).trans h
/-- At least 0. -/
def mx (n : Int) : Int := if n < 0 then 0 else n
/-- What is left behind a window's begin; behind an action. -/
def bl (s : Bool) (n : Int) : Int := if s then 0 else mx n
def ol (l : Int) : Int := if l = 0 then 0 else l - 1
/-- Behind a fault: the faults, what is left, is it stopped. -/
def ef (s : Bool) (f : Int) : Int := if s then f else f + 1
def el (s : Bool) (l : Int) : Int := if s then l else 0
def es (s : Bool) (q f : Int) : Bool := s || decide (q < f + 1)
/-- One block is another. -/
def At (b : Nat) : Nat → Prop := fun k => k = b
theorem at_set {b : Nat} {w w' : World} (h : Mod (At b) w w') (i : Nat) (v : Value) : Mod (At b) w (w'.setCell ⟨b, i, none⟩ v) := h.set (p := ⟨b, i, none⟩) (.inl (show At b b from rfl)) v
theorem begin_ (b : Nat) (f l : Int) (s : Bool) (p : Value) (m n : Int) (w : World) (h : PB w b f l s p m) :
    Calls Try.prog 70 #[.pointer (some ⟨b, 0, none⟩), .int .i64 n] w fun e w' => e = .returned (.tuple #[]) ∧ PB w' b f (bl s n) s p m ∧ Mod (At b) w w' := by
  obtain ⟨⟨c0, c1, c2, c3, c4⟩, g0, g1, g2⟩ := five h
  have H := Lib.hid h
  clear h
  cases s with
  | true =>
    go_enter Try.func70, Try.ntmps70
    go_wp2
    go_end0
    exact ⟨rfl, H.out.set1 _, at_set (Mod.refl _ _) _ _⟩
  | false =>
    by_cases hn : n < 0
    · go_enter Try.func70, Try.ntmps70
      go_wp2
      go_end0
      refine ⟨rfl, ?_, at_set (at_set (Mod.refl _ _) _ _) _ _⟩
      have h2 := (H.out.set1 0).set1 0
      rw [show bl false n = 0 from if_pos (show n < 0 by omega)]
      exact h2
    · go_enter Try.func70, Try.ntmps70
      go_wp2
      go_end0
      refine ⟨rfl, ?_, at_set (at_set (Mod.refl _ _) _ _) _ _⟩
      have h2 := (H.out.set1 0).set1 n
      rw [show bl false n = n from if_neg (show ¬ n < 0 by omega)]
      exact h2
theorem one_ (b : Nat) (f l : Int) (s : Bool) (p : Value) (m : Int) (w : World) (h : PB w b f l s p m) (hl : 0 ≤ l) (hl2 : l < 9223372036854775808) :
    Calls Try.prog 71 #[.pointer (some ⟨b, 0, none⟩)] w fun e w' => e = .returned (.bool (l != 0)) ∧ PB w' b f (ol l) s p m ∧ Mod (At b) w w' := by
  obtain ⟨⟨c0, c1, c2, c3, c4⟩, g0, g1, g2⟩ := five h
  have H := Lib.hid h
  clear h
  have hw : IntKind.i64.wrap (l - 1) = l - 1 := wrapi64 (by omega) (by omega)
  clear hl2
  by_cases hn : l = 0
  · subst hn
    go_enter Try.func71, Try.ntmps71
    go_wp2
    go_ret
    exact ⟨rfl, H.out, Mod.refl _ _⟩
  · have e : (l == 0) = false := by simpa using hn
    have e2 : (l != 0) = true := by simpa using hn
    rw [e2, show ol l = l - 1 from if_neg hn]
    go_enter Try.func71, Try.ntmps71
    go_wp2
    go_ret
    exact ⟨rfl, H.out.set1 _, at_set (Mod.refl _ _) _ _⟩
theorem end_ (b : Nat) (f l : Int) (s : Bool) (p : Value) (m q : Int) (w : World) (h : PB w b f l s p m) (hl : 0 ≤ f) (hl2 : f < 9223372036854775807) :
    Calls Try.prog 72 #[.pointer (some ⟨b, 0, none⟩), .int .i64 q] w fun e w' => e = .returned (.tuple #[]) ∧ PB w' b (ef s f) (el s l) (es s q f) p m ∧ Mod (At b) w w' := by
  obtain ⟨⟨c0, c1, c2, c3, c4⟩, g0, g1, g2⟩ := five h
  have H := Lib.hid h
  clear h
  have hw : IntKind.i64.wrap (f + 1) = f + 1 := wrapi64 (by omega) (by omega)
  clear hl2
  cases s with
  | true =>
    go_enter Try.func72, Try.ntmps72
    go_wp2
    (try simp only [Exit.inBlock, Exit.then])
    refine bodyPost_ret (results_none rfl _ _ _) rfl ?_
    exact ⟨rfl, H.out, Mod.refl _ _⟩
  | false =>
    go_enter Try.func72, Try.ntmps72
    go_wp2
    go_end0
    exact ⟨rfl, ((H.out.set0 _).set1 _).set2 _, at_set (at_set (at_set (Mod.refl _ _) _ _) _ _) _ _⟩
end Go.Proofs.Ytjlgkebecpagjaa.Part
