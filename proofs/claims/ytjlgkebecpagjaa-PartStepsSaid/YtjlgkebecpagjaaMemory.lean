import Derived.Test.YtjlgkebecpagjaaFlat
import Derived.Test.YtjlgkebecpagjaaRegion
import Derived.Lib.BufferWrite
import Derived.Laws.IdiomStrings
set_option linter.unusedVariables false
set_option linter.unusedSimpArgs false
namespace Go.Proofs.Ytjlgkebecpagjaa.Memory
open Go.RowKit Base Sp Flat Go.Proofs.YtjlgkebecpagjaaW.PrintWords Go.Lib
section
variable {P : Program} {ops : Array Oper} {rest : List Oper} {o : Oper} {a : Act} {Q : Exit → Act → World → Prop}
/-- A copy whose run is known. -/
theorem wp_copy {W w1 : World} {r v u : Value} (hgd : o.guard = none) (s x : Operand) (t t' : TypeId) (ho : o.op = .call { callee := .builtin .copy, args := #[s, x], argTypes := #[t, t'] })
    (hs : a.eval s = v) (hx : a.eval x = u) (hrun : (Builtin.copy_ #[t, t'] o.type #[v, u]).run P W = .ok r w1) (h : wpList P ops Q rest (a.put o.dst r) w1) : wpList P ops Q (o :: rest) a W := by
  refine wpList_plain hgd fun K hK => ?_
  unfold Oper.wp execOp
  simp only [ho, resolve, invoke, builtin, Sem.run_bind, Sem.run_pure, Result.andThen_ok, List.map_toArray, List.map_cons, List.map_nil, hs, hx, hrun]
  exact hK _ _ h
end
theorem made_bytes (m : Nat) : madeCells #[Value.int .u8 0] m = (byteCells (List.replicate m 0)).toArray := by
  apply Array.ext'
  apply List.ext_getElem
  · simp [madeCells, byteCells]
  · intro i h1 h2
    simp [madeCells, byteCells, Nat.mod_one]
/-- A memory in block b. -/
def MR (w : World) (F : Nat → Prop) (b : Nat) (l : List UInt8) : Prop :=
  ∃ A, w.heap[b]? = some (.cells #[.slice A l.length l.length] 119 (0, 0)) ∧ F b ∧ (∀ k, F k → k < w.heap.size) ∧
    (0 < l.length → ∃ g, A = some ⟨g, 0, none⟩ ∧ g ≠ b ∧ F g ∧ w.heap[g]? = some (.cells (byteCells l).toArray 5 (0, 0)))
theorem MR.lt {w : World} {F : Nat → Prop} {b : Nat} {l : List UInt8} (h : MR w F b l) : ∀ k, F k → k < w.heap.size := by
  obtain ⟨A, h1, h2, h3, h4⟩ := h
  exact h3
theorem MR.same {w w' : World} {F : Nat → Prop} {b : Nat} {l : List UInt8} (h : MR w F b l) (hs : Same F w w') (hz : w.heap.size ≤ w'.heap.size) : MR w' F b l := by
  obtain ⟨A, h1, h2, h3, h4⟩ := h
  refine ⟨A, (hs b h2).trans h1, h2, fun k hk => Nat.lt_of_lt_of_le (h3 k hk) hz, fun hp => ?_⟩
  obtain ⟨g, e, hg, hF, hc⟩ := h4 hp
  exact ⟨g, e, hg, hF, (hs g hF).trans hc⟩
theorem MR.far {w w' : World} {F G : Nat → Prop} {b : Nat} {l : List UInt8} (h : MR w F b l) (hm : Mod G w w') (hd : ∀ k, F k → ¬ G k) : MR w' F b l := h.same (hm.same h.lt hd) hm.size
theorem MR.below {w w' : World} {F : Nat → Prop} {b : Nat} {l : List UInt8} (h : MR w F b l) (hb : Below w.heap.size w w') : MR w' F b l := h.same (Same.of hb h.lt) hb.size
theorem MR.zero (w : World) : MR (w.alloc (.cells #[.slice none 0 0] 119)) (fun k => k = w.heap.size) w.heap.size [] :=
  ⟨none, heap_alloc_new _ _, rfl, fun k hk => by subst hk; simp, fun h => absurd h (by simp)⟩

theorem size_nil (w : World) : Calls Try.prog 40 #[.pointer none] w fun e w' => e = .returned (.int .i64 ((0 : Nat) : Int)) ∧ w = w' := by
  go_enter Try.func40, Try.ntmps40
  go_wp2
  go_ret
  exact ⟨rfl, rfl⟩
theorem size_ (F : Nat → Prop) (b : Nat) (l : List UInt8) (w : World) (h : MR w F b l) : Calls Try.prog 40 #[.pointer (some ⟨b, 0, none⟩)] w fun e w' => e = .returned (.int .i64 (l.length : Int)) ∧ w = w' := by
  obtain ⟨A, h1, h2, h3, h4⟩ := h
  have c0 : w.cell? ⟨b, 0, none⟩ = some (.slice A l.length l.length) := blk_cell h1 0
  clear h1 h4
  go_enter Try.func40, Try.ntmps40
  go_wp2
  go_ret
  exact ⟨rfl, rfl⟩
/-- Does a region lie in so many bytes? -/
def lb (m : Nat) (at_ n : Int) : Bool := decide (0 ≤ at_ ∧ 0 ≤ n ∧ at_ ≤ m ∧ n ≤ m - at_)
theorem lb_true {m : Nat} {at_ n : Int} : lb m at_ n = true ↔ 0 ≤ at_ ∧ 0 ≤ n ∧ at_ ≤ m ∧ n ≤ m - at_ := by simp [lb]
theorem lies (p : Value) (m : Nat) (hm : m ≤ 9223372036854775807) (at_ n : Int) (w : World) (hS : Calls Try.prog 40 #[p] w fun e w' => e = .returned (.int .i64 (m : Int)) ∧ w = w') :
    Calls Try.prog 75 #[p, .int .i64 at_, .int .i64 n] w fun e w' => e = .returned (.bool (lb m at_ n)) ∧ w = w' := by
  by_cases h1 : 0 ≤ at_
  · by_cases h2 : 0 ≤ n
    · by_cases h3 : at_ ≤ m
      · have hw : IntKind.i64.wrap ((m : Int) - at_) = (m : Int) - at_ := wrapi64 (by omega) (by omega)
        have d1 : decide (0 ≤ at_) = true := decide_eq_true h1
        have d2 : decide (0 ≤ n) = true := decide_eq_true h2
        have d3 : decide (at_ ≤ (m : Int)) = true := decide_eq_true h3
        have e : lb m at_ n = decide (n ≤ (m : Int) - at_) := by unfold lb; rw [decide_eq_decide]; omega
        rw [e]
        clear e
        go_enter Try.func75, Try.ntmps75
        go_wp2_with (go_at_call 40; refine hS.mono ?_; rintro e w' ⟨rfl, rfl⟩)
        go_ret
        exact ⟨rfl, rfl⟩
      · have e : lb m at_ n = false := by unfold lb; rw [decide_eq_false_iff_not]; omega
        have d1 : decide (0 ≤ at_) = true := decide_eq_true h1
        have d2 : decide (0 ≤ n) = true := decide_eq_true h2
        have d3 : decide (at_ ≤ (m : Int)) = false := decide_eq_false h3
        rw [e]
        clear e
        go_enter Try.func75, Try.ntmps75
        go_wp2_with (go_at_call 40; refine hS.mono ?_; rintro e w' ⟨rfl, rfl⟩)
        go_ret
        exact ⟨rfl, rfl⟩
    · have e : lb m at_ n = false := by unfold lb; rw [decide_eq_false_iff_not]; omega
      have d1 : decide (0 ≤ at_) = true := decide_eq_true h1
      have d2 : decide (0 ≤ n) = false := decide_eq_false h2
      rw [e]
      clear e
      go_enter Try.func75, Try.ntmps75
      go_wp2
      go_ret
      exact ⟨rfl, rfl⟩
  · have e : lb m at_ n = false := by unfold lb; rw [decide_eq_false_iff_not]; omega
    have d1 : decide (0 ≤ at_) = false := decide_eq_false h1
    rw [e]
    clear e
    go_enter Try.func75, Try.ntmps75
    go_wp2
    go_ret
    exact ⟨rfl, rfl⟩
theorem load_bad (p : Value) (m : Nat) (hm : m ≤ 9223372036854775807) (at_ n : Int) (w : World) (hS : Calls Try.prog 40 #[p] w fun e w' => e = .returned (.int .i64 (m : Int)) ∧ w = w') (h : lb m at_ n = false) :
    Calls Try.prog 39 #[p, .int .i64 at_, .int .i64 n] w fun e w' => e = .returned (.tuple #[.string ByteArray.empty, .int .i64 21]) ∧ w = w' := by
  have hL := lies p m hm at_ n w hS
  rw [h] at hL
  go_enter Try.func39, Try.ntmps39
  go_wp2_with (go_at_call 75; refine hL.mono ?_; rintro e w' ⟨rfl, rfl⟩)
  go_ret2
  exact ⟨rfl, rfl⟩
theorem load_none (p : Value) (m : Nat) (hm : m ≤ 9223372036854775807) (at_ : Int) (w : World) (hS : Calls Try.prog 40 #[p] w fun e w' => e = .returned (.int .i64 (m : Int)) ∧ w = w') (h : lb m at_ 0 = true) :
    Calls Try.prog 39 #[p, .int .i64 at_, .int .i64 0] w fun e w' => e = .returned (.tuple #[.string ⟨#[]⟩, .int .i64 0]) ∧ Below w.heap.size w w' := by
  have hL := lies p m hm at_ 0 w hS
  rw [h] at hL
  have hmk : ∀ W : World, (Instr.makeSlice 115 (.int .i64 0) (.int .i64 0)).run Try.prog W = .ok (.slice (some ⟨W.heap.size, 0, none⟩) 0 0) (W.alloc (.cells (madeCells #[.int .u8 0] 0) 5)) :=
    fun W => print_make (P := Try.prog) 115 5 .u8 1 Try.underlying115 (by kernel_rfl) (by decide) 0 (by decide) W
  have hcv : ∀ (W : World) (x : Nat), (convert 115 9 (.slice (some ⟨x, 0, none⟩) 0 0)).run Try.prog W = .ok (.string ⟨#[]⟩) W :=
    fun W x => run_convert_bytes_back (P := Try.prog) W 115 9 5 ⟨x, 0, none⟩ 0 [] Try.underlying115 Try.underlying5 Try.underlying9 (fun j hj => absurd hj (by simp))
  go_enter Try.func39, Try.ntmps39
  go_wp2_with (go_at_call 75; refine hL.mono ?_; rintro e w' ⟨rfl, rfl⟩)
  go_ret2
  exact ⟨rfl, (Below.refl _ _).alloc (Nat.le_refl _) _⟩
end Go.Proofs.Ytjlgkebecpagjaa.Memory
