import Derived.Test.YtjlgkebecpagjaaPart3
set_option linter.unusedVariables false
set_option linter.unusedSimpArgs false
namespace Go.Proofs.Ytjlgkebecpagjaa.Part
open Go.RowKit Base Sp Flat Go.Proofs.YtjlgkebecpagjaaW.PrintWords Go.Lib
set_option maxRecDepth 20000 in
theorem awake (w : World) : Calls Try.prog 21 #[] w fun e w' => e = .returned (.bool true) ∧ Below w.heap.size w w' := by
  go_enter Try.func21, Try.ntmps21
  go_wp2_with fail
  refine (new _ _ _ _ _ w).mono ?_
  rintro e w1 ⟨b, g, F, rfl, p1, -, -, -, hb, b1⟩
  rw [show mx 0 = 0 from rfl] at p1
  have hA : ∀ k, At b k → w.heap.size ≤ k := fun k hk => by
    have hk : k = b := hk
    omega
  go_wp2_with fail
  refine (window b _ _ _ _ _ 3 w1 p1).mono ?_
  rintro e w2 ⟨rfl, p2, m2⟩
  have b2 := m2.below b1 b1.size hA
  rw [show bl false 3 = 3 from rfl] at p2
  clear p1 b1 m2
  go_wp2_with fail
  refine (may b _ _ _ _ _ w2 p2 (by decide) (by decide)).mono ?_
  rintro e w3 ⟨rfl, p3, m3⟩
  have b3 := m3.below b2 b2.size hA
  rw [show ol 3 = 2 from rfl] at p3
  clear p2 b2 m3
  go_wp2_with fail
  refine (fault b _ _ _ _ _ w3 p3 (by decide) (by decide)).mono ?_
  rintro e w4 ⟨rfl, p4, m4⟩
  have b4 := m4.below b3 b3.size hA
  rw [show ef false 0 = 1 from rfl, show el false 2 = 0 from rfl, show es false 0 0 = true from rfl] at p4
  clear p3 b3 m4
  go_wp2_with fail
  refine (may b _ _ _ _ _ w4 p4 (by decide) (by decide)).mono ?_
  rintro e w5 ⟨rfl, p5, m5⟩
  have b5 := m5.below b4 b4.size hA
  rw [show ol 0 = 0 from rfl] at p5
  clear p4 b4 m5
  go_wp2_with fail
  refine (window b _ _ _ _ _ 3 w5 p5).mono ?_
  rintro e w6 ⟨rfl, p6, m6⟩
  have b6 := m6.below b5 b5.size hA
  rw [show bl true 3 = 0 from rfl] at p6
  clear p5 b5 m6
  go_wp2_with fail
  refine (may b _ _ _ _ _ w6 p6 (by decide) (by decide)).mono ?_
  rintro e w7 ⟨rfl, p7, m7⟩
  have b7 := m7.below b6 b6.size hA
  rw [show ol 0 = 0 from rfl] at p7
  clear p6 b6 m7
  go_wp2_with fail
  refine (state b _ _ _ _ _ w7 p7).mono ?_
  rintro e w8 ⟨rfl, b8⟩
  have b9 := bstep b7 b8
  clear p7 b7 b8
  go_wp2
  have hf : ∀ W, (Instr.field 41 (.agg #[.int .i64 1, .int .i64 0, .bool true]) 2).run Try.prog W = .ok (.bool true) W := by
    intro W
    first
    | kernel_rfl
    | rfl
    | simp [Instr.field, go_sem, Try.underlying41]
  rw [hf]
  go_wp2
  go_ret
  exact ⟨rfl, b9⟩
theorem mx_ne (n : Int) : (mx n != 0) = decide (0 < n) := by
  unfold mx
  by_cases h : n < 0
  · rw [if_pos h]
    have : decide (0 < n) = false := decide_eq_false (by omega)
    rw [this]; rfl
  · rw [if_neg h]
    by_cases h2 : n = 0
    · subst h2; rfl
    · have h3 : (n != 0) = true := by simpa using h2
      rw [h3, decide_eq_true (by omega : 0 < n)]
theorem mx_ge (n : Int) : 0 ≤ mx n := by unfold mx; split <;> omega
theorem mx_lt (n : Int) (h : n < 9223372036854775808) : mx n < 9223372036854775808 := by unfold mx; split <;> omega
set_option maxRecDepth 20000 in
set_option maxHeartbeats 1000000 in
theorem none_ (n : Int) (w : World) (hn : n < 9223372036854775808) : Calls Try.prog 7 #[.int .i64 n] w fun e w' => e = .returned (.bool true) ∧ Below w.heap.size w w' := by
  obtain ⟨W0, hW0⟩ : ∃ W0, W0 = w.alloc (.cells #[.int .i64 0, .int .i64 0, .bool false, .pointer none, .int .i64 0] 56) := ⟨_, rfl⟩
  have b0 : Below w.heap.size w W0 := by rw [hW0]; exact (Below.refl _ _).alloc (Nat.le_refl _) _
  have p0 : PB W0 w.heap.size 0 0 false (.pointer none) 0 := by rw [hW0]; exact heap_alloc_new _ _
  have HN := Lib.hid (mx_lt n hn)
  clear hn
  have hA : ∀ k, At w.heap.size k → w.heap.size ≤ k := fun k hk => by
    have hk : k = w.heap.size := hk
    omega
  go_enter Try.func7, Try.ntmps7
  go_wp2_with fail
  rw [← hW0]
  clear hW0
  refine (window_nil n W0).mono ?_
  rintro e w1 ⟨rfl, rfl⟩
  go_wp2_with fail
  refine (fault_nil W0).mono ?_
  rintro e w1 ⟨rfl, rfl⟩
  go_wp2_with fail
  refine (window _ _ _ _ _ _ n W0 p0).mono ?_
  rintro e w2 ⟨rfl, p2, m2⟩
  have b2 := m2.below b0 b0.size hA
  rw [show bl false n = mx n from rfl] at p2
  clear p0 b0 m2
  have hc := may _ _ _ _ _ _ w2 p2 (mx_ge n) HN.out
  rw [mx_ne] at hc
  go_wp2_with fail
  refine hc.mono ?_
  rintro e w3 ⟨rfl, p3, m3⟩
  have b3 := m3.below b2 b2.size hA
  clear p2 b2 m3 hc
  go_wp2_with fail
  refine (fault _ _ _ _ _ _ w3 p3 (by decide) (by decide)).mono ?_
  rintro e w4 ⟨rfl, p4, m4⟩
  have b4 := m4.below b3 b3.size hA
  rw [show ef false 0 = 1 from rfl, show el false (ol (mx n)) = 0 from rfl, show es false 0 0 = true from rfl] at p4
  clear p3 b3 m4
  go_wp2_with fail
  refine (may_nil w4).mono ?_
  rintro e w5 ⟨rfl, rfl⟩
  go_wp2_with fail
  refine (state_nil w4).mono ?_
  rintro e w5 ⟨rfl, b5⟩
  have p5 := p4.below b5
  have b6 := bstep b4 b5
  clear p4 b4 b5
  go_wp2_with fail
  refine (mem_nil w5).mono ?_
  rintro e w6 ⟨rfl, rfl⟩
  go_wp2_with fail
  refine (mem _ _ _ _ _ _ w5 p5).mono ?_
  rintro e w6 ⟨rfl, rfl⟩
  go_wp2_with fail
  refine (state _ _ _ _ _ _ w5 p5).mono ?_
  rintro e w6 ⟨rfl, b7⟩
  have b8 := bstep b6 b7
  clear p5 b6 b7
  go_wp2_with fail
  refine (awake w6).mono ?_
  rintro e w7 ⟨rfl, b9⟩
  have b10 := bstep b8 b9
  clear b8 b9
  go_wp2
  go_ret
  exact ⟨rfl, b10⟩
end Go.Proofs.Ytjlgkebecpagjaa.Part
