import Derived.Test.YtjlgkebecpagjaaMemory2
set_option linter.unusedVariables false
set_option linter.unusedSimpArgs false
namespace Go.Proofs.Ytjlgkebecpagjaa.Memory
open Go.RowKit Base Sp Flat Go.Proofs.YtjlgkebecpagjaaW.PrintWords Go.Lib
/-- How many bytes a new memory has. -/
def msz (n : Int) : Nat := if n < 0 then 0 else if n ≤ 4096 then n.toNat else 4096
theorem msz_le (n : Int) : msz n ≤ 4096 := by
  unfold msz
  split
  · omega
  · split <;> omega
def zeros (n : Nat) : List UInt8 := List.replicate n 0
theorem zeros_len (n : Nat) : (zeros n).length = n := List.length_replicate
theorem mk (m : Nat) (hm : m ≤ 4096) : ∀ W : World, (Instr.makeSlice 115 (.int .i64 (m : Int)) (.int .i64 (m : Int))).run Try.prog W = .ok (.slice (some ⟨W.heap.size, 0, none⟩) m m) (W.alloc (.cells (madeCells #[.int .u8 0] m) 5)) :=
  fun W => print_make (P := Try.prog) 115 5 .u8 1 Try.underlying115 (by kernel_rfl) (by decide) m (by omega) W
theorem made_MR (w : World) (m : Nat) : MR ((w.alloc (.cells (madeCells #[.int .u8 0] m) 5)).alloc (.cells #[.slice (some ⟨w.heap.size, 0, none⟩) m m] 119)) (fun k => k = w.heap.size ∨ k = w.heap.size + 1) (w.heap.size + 1) (zeros m) := by
  refine ⟨some ⟨w.heap.size, 0, none⟩, ?_, .inr rfl, fun k hk => ?_, fun _ => ⟨w.heap.size, rfl, by omega, .inl rfl, ?_⟩⟩
  · rw [zeros_len]
    simpa using heap_alloc_new (w.alloc (.cells (madeCells #[.int .u8 0] m) 5)) (.cells #[.slice (some ⟨w.heap.size, 0, none⟩) m m] 119)
  · rcases hk with rfl | rfl
    · simp
      omega
    · simp
  · rw [Below.heap_alloc _ _ _ (by simp), made_bytes]
    exact heap_alloc_new _ _
/-- What New gives. -/
def NewR (n : Int) (w : World) (e : Ending) (w' : World) : Prop := e = .returned (.pointer (some ⟨w.heap.size + 1, 0, none⟩)) ∧ MR w' (fun k => k = w.heap.size ∨ k = w.heap.size + 1) (w.heap.size + 1) (zeros (msz n)) ∧ Below w.heap.size w w' ∧ w.heap.size + 1 < w'.heap.size
theorem newR (n : Int) (m : Nat) (hm : msz n = m) (w : World) : NewR n w (.returned (.pointer (some ⟨w.heap.size + 1, 0, none⟩))) ((w.alloc (.cells (madeCells #[.int .u8 0] m) 5)).alloc (.cells #[.slice (some ⟨w.heap.size, 0, none⟩) m m] 119)) := by
  refine ⟨rfl, by rw [hm]; exact made_MR w m, ((Below.refl _ _).alloc (Nat.le_refl _) _).alloc (by simp) _, by simp⟩
theorem new (n : Int) (w : World) : Calls Try.prog 69 #[.int .i64 n] w (NewR n w) := by
  by_cases h0 : n < 0
  · have hm : msz n = 0 := if_pos h0
    have HN := Lib.hid (newR n 0 hm w)
    have hmk : ∀ W : World, (Instr.makeSlice 115 (.int .i64 0) (.int .i64 0)).run Try.prog W = .ok (.slice (some ⟨W.heap.size, 0, none⟩) 0 0) (W.alloc (.cells (madeCells #[.int .u8 0] 0) 5)) := mk 0 (by omega)
    clear hm
    go_enter Try.func69, Try.ntmps69
    go_wp2
    go_ret
    exact HN.out
  · by_cases h1 : n ≤ 4096
    · obtain ⟨m, rfl⟩ : ∃ m : Nat, n = (m : Int) := ⟨n.toNat, by omega⟩
      have hm : msz (m : Int) = m := by
        unfold msz
        rw [if_neg h0, if_pos h1]
        exact Int.toNat_natCast m
      have HN := Lib.hid (newR (m : Int) m hm w)
      have hmk := mk m (by omega)
      have d1 : ¬ (4096 < (m : Int)) := by omega
      clear hm
      go_enter Try.func69, Try.ntmps69
      go_wp2
      all_goals
        go_ret
        exact HN.out
    · have hm : msz n = 4096 := by
        unfold msz
        rw [if_neg h0, if_neg h1]
      have HN := Lib.hid (newR n 4096 hm w)
      have hmk : ∀ W : World, (Instr.makeSlice 115 (.int .i64 4096) (.int .i64 4096)).run Try.prog W = .ok (.slice (some ⟨W.heap.size, 0, none⟩) 4096 4096) (W.alloc (.cells (madeCells #[.int .u8 0] 4096) 5)) := mk 4096 (by omega)
      clear hm
      go_enter Try.func69, Try.ntmps69
      go_wp2
      all_goals
        go_ret
        exact HN.out
theorem store_bad (p : Value) (m : Nat) (hm : m ≤ 9223372036854775807) (at_ : Int) (s : ByteArray) (w : World) (hS : Calls Try.prog 40 #[p] w fun e w' => e = .returned (.int .i64 (m : Int)) ∧ w = w') (h : lb m at_ s.size = false) :
    Calls Try.prog 38 #[p, .int .i64 at_, .string s] w fun e w' => e = .returned (.int .i64 21) ∧ w = w' := by
  have hL := lies p m hm at_ s.size w hS
  rw [h] at hL
  go_enter Try.func38, Try.ntmps38
  go_wp2_with (go_at_call 75; refine hL.mono ?_; rintro e w' ⟨rfl, rfl⟩)
  go_ret
  exact ⟨rfl, rfl⟩
theorem store_none (p : Value) (m : Nat) (hm : m ≤ 9223372036854775807) (at_ : Int) (w : World) (hS : Calls Try.prog 40 #[p] w fun e w' => e = .returned (.int .i64 (m : Int)) ∧ w = w') (h : lb m at_ 0 = true) :
    Calls Try.prog 38 #[p, .int .i64 at_, .string ⟨#[]⟩] w fun e w' => e = .returned (.int .i64 0) ∧ w = w' := by
  have hL := lies p m hm at_ 0 w hS
  rw [h] at hL
  go_enter Try.func38, Try.ntmps38
  go_wp2_with (go_at_call 75; refine hL.mono ?_; rintro e w' ⟨rfl, rfl⟩)
  go_ret
  exact ⟨rfl, rfl⟩
end Go.Proofs.Ytjlgkebecpagjaa.Memory
