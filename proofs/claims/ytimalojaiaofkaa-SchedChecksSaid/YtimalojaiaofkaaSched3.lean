import Derived.Test.YtimalojaiaofkaaSched2
set_option linter.unusedVariables false
set_option linter.unusedSimpArgs false
namespace Go.Proofs.Ytimalojaiaofkaa.SchedP
open Go.RowKit Base Sp Flat Go.Proofs.YtimalojaiaofkaaW.PrintWords Go.Proofs.YtimalojaiaofkaaW.PrintLast Go.Proofs.Ytimalojaiaofkaa.PSchedChecks
def lit : List S := [⟨0, 0⟩, ⟨-1, 0⟩, ⟨1, 0⟩]
theorem lit_at {w : World} {g : Nat} {t : TypeId} (h : w.heap[g]? = some (.cells #[.int .i64 0, .int .i64 0, .int .i64 (-1), .int .i64 0, .int .i64 1, .int .i64 0] t (0, 0))) : Kd.C kS w (some ⟨g, 0, none⟩) lit.length lit := by
  refine ⟨rfl, by decide, fun _ => ⟨⟨g, 0, none⟩, rfl, fun j p hj => ?_⟩⟩
  have hj3 : j < 3 := (List.getElem?_eq_some_iff.1 hj).1
  refine ⟨[.int .i64 p.f0, .int .i64 p.f1], rfl, Go.Proofs.Ytimalojaiaofkaa.PSchedChecks.k32_mk _ _, fun i u hi => ?_⟩
  have hi2 : i < 2 := (List.getElem?_eq_some_iff.1 hi).1
  have hc : ∀ k, w.cell? ⟨g, k, none⟩ = _ := fun k => blk_cell h k
  have hj' : j = 0 ∨ j = 1 ∨ j = 2 := by omega
  have hi' : i = 0 ∨ i = 1 := by omega
  rcases hj' with rfl | rfl | rfl <;> (obtain rfl := Option.some.inj hj) <;> rcases hi' with rfl | rfl <;> (obtain rfl := Option.some.inj hi) <;> exact hc _
theorem bus_at (A : Option Addr) (cap : Nat) (l : List S) (w : World) (hS : Kd.C kS w A l.length l) (hc : l.length ≤ cap) (hl : l.length ≤ 2000) :
    Calls Try.prog 58 #[.slice A l.length cap] w fun e w' => e = .returned (.int .i64 (hdm (ofl (-1) (pts (pr l)) 0))) ∧ Below w.heap.size w w' := by
  obtain ⟨k, hk⟩ := Ev.rounds (bus_ev l hl)
  exact sched_BusAt.calls k A cap l _ w hS hc hk
theorem deep_at_ (A : Option Addr) (cap : Nat) (l : List S) (f t : Int) (w : World) (hS : Kd.C kS w A l.length l) (hc : l.length ≤ cap) (hl : l.length ≤ 2000) :
    Calls Try.prog 19 #[.slice A l.length cap, .int .i64 f, .int .i64 t] w fun e w' => e = .returned (.int .i64 (deep (pts (pr l)) f t)) ∧ Below w.heap.size w w' := by
  obtain ⟨k, hk⟩ := Ev.rounds (deep_ev l f t hl)
  exact sched_Deep.calls k A cap l f t _ w hS hc hk
theorem refcheck (A : Option Addr) (cap : Nat) (l : List S) (parts : Int) (w : World) (hS : Kd.C kS w A l.length l) (hc : l.length ≤ cap) (hl : l.length ≤ 2000) (hp : parts ≤ 1000 ∨ l.length = 0 ∨ 32 < l.length) :
    Calls Try.prog 17 #[.slice A l.length cap, .int .i64 parts] w fun e w' => e = .returned (.agg #[.int .i64 (chk parts (pr l)).1, .int .i64 (chk parts (pr l)).2]) ∧ Below w.heap.size w w' := by
  obtain ⟨k, hk⟩ := Ev.rounds (ref_ev l parts hl hp)
  exact broadsheetref27_Check.calls k A cap l parts _ _ w hS hc hk
theorem chk_lit : chk 2 (pr lit) = (0, 0) := by decide
theorem deep_lit : deep (pts (pr lit)) 0 1 = 0 ∧ deep (pts (pr lit)) 1 0 = 2 ∧ hdm (ofl (-1) (pts (pr lit)) 0) = 1 := by decide
theorem awake (w : World) : Calls Try.prog 15 #[] w fun e w' => e = .returned (.bool true) ∧ Below w.heap.size w w' := by
  have b0 : ∀ o, Below w.heap.size w (w.alloc o) := fun o => (Below.refl _ _).alloc (Nat.le_refl _) _
  have hL := fun (w' : World) h => @lit_at w' w.heap.size 32 h
  have h0 : (w.alloc (.cells #[.int .i64 0, .int .i64 0, .int .i64 (-1), .int .i64 0, .int .i64 1, .int .i64 0] 32)).heap[w.heap.size]? = some (.cells #[.int .i64 0, .int .i64 0, .int .i64 (-1), .int .i64 0, .int .i64 1, .int .i64 0] 32 (0, 0)) := heap_alloc_new _ _
  have b1 := b0 (.cells #[.int .i64 0, .int .i64 0, .int .i64 (-1), .int .i64 0, .int .i64 1, .int .i64 0] 32)
  have C1 := check _ 3 lit 2 _ (hL _ h0)
  rw [chk_lit] at C1
  obtain ⟨W1, hW1⟩ : ∃ W1, W1 = w.alloc (.cells #[.int .i64 0, .int .i64 0, .int .i64 (-1), .int .i64 0, .int .i64 1, .int .i64 0] 32) := ⟨_, rfl⟩
  rw [← hW1] at C1 h0 b1
  go_enter Try.func15, Try.ntmps15
  go_wp2_with fail
  rw [← hW1]
  clear hW1
  have hlt := blk_lt h0
  refine C1.mono ?_
  rintro e w2 ⟨rfl, b2⟩
  have h2 := (b2.block _ hlt).trans h0
  have bb2 := bstep b1 b2
  clear C1 b2 h0 b1 hlt
  have C2 := deep_at_ _ 3 lit 0 1 _ (hL _ h2) (by decide) (by decide)
  rw [deep_lit.1] at C2
  go_wp2_with fail
  refine C2.mono ?_
  rintro e w3 ⟨rfl, b3⟩
  have h3 := (b3.block _ (blk_lt h2)).trans h2
  have bb3 := bstep bb2 b3
  clear C2 b3 h2 bb2
  have C3 := deep_at_ _ 3 lit 1 0 _ (hL _ h3) (by decide) (by decide)
  rw [deep_lit.2.1] at C3
  go_wp2_with fail
  refine C3.mono ?_
  rintro e w4 ⟨rfl, b4⟩
  have h4 := (b4.block _ (blk_lt h3)).trans h3
  have bb4 := bstep bb3 b4
  clear C3 b4 h3 bb3
  have C4 := bus_at _ 3 lit _ (hL _ h4) (by decide) (by decide)
  rw [deep_lit.2.2] at C4
  go_wp2_with fail
  refine C4.mono ?_
  rintro e w5 ⟨rfl, b5⟩
  have bb5 := bstep bb4 b5
  go_wp2
  go_ret
  exact ⟨rfl, bb5⟩
set_option maxRecDepth 20000 in
set_option maxHeartbeats 2000000 in
theorem checks (A : Option Addr) (cap : Nat) (l : List S) (parts : Int) (w : World) (hS : Kd.C kS w A l.length l) (hc : l.length ≤ cap) :
    Calls Try.prog 3 #[.slice A l.length cap, .int .i64 parts] w fun e w' => e = .returned (.bool true) ∧ Below w.heap.size w w' := by
  by_cases h : 200 < l.length
  · have h1 : (200 : Int) < (l.length : Int) := by omega
    go_enter Try.func3, Try.ntmps3
    go_wp2_with fail
    refine (awake _).mono ?_
    rintro e w2 ⟨rfl, b2⟩
    go_wp2
    go_ret
    exact ⟨rfl, b2⟩
  · have h1 : ¬ (200 : Int) < (l.length : Int) := by omega
    have C1 := check A cap l parts w hS
    by_cases hp : 1000 < parts ∧ 0 < l.length ∧ l.length ≤ 32
    · obtain ⟨p1, p2, p3⟩ := hp
      have q2 : (0 : Int) < (l.length : Int) := by omega
      have q3 : (l.length : Int) ≤ 32 := by omega
      have hne := chk_none (parts := parts) (l := pr l) (by rw [pr_len]; exact p2) (by rw [pr_len]; exact p3) p1
      generalize chk parts (pr l) = R at *
      obtain ⟨R1, R2⟩ := R
      have hne2 : (R1 != 0) = true := by simpa using hne
      go_enter Try.func3, Try.ntmps3
      go_wp2_with fail
      refine C1.mono ?_
      rintro e w2 ⟨rfl, b2⟩
      have hf : ∀ W, Sem.run Try.prog (Instr.field 26 (.agg #[.int .i64 R1, .int .i64 R2]) 0) W = .ok (.int .i64 R1) W := by intro W; kernel_rfl
      go_wp2_with fail
      refine (awake _).mono ?_
      rintro e w3 ⟨rfl, b3⟩
      go_wp2
      go_ret
      exact ⟨rfl, bstep b2 b3⟩
    · have hr : parts ≤ 1000 ∨ l.length = 0 ∨ 32 < l.length := by omega
      have C2 := fun w' (h : Below w.heap.size w w') => refcheck A cap l parts w' (Kd.C_below hS (h.mono (Nat.le_refl _))) hc (by omega) hr
      generalize chk parts (pr l) = R at *
      obtain ⟨R1, R2⟩ := R
      by_cases p1 : 1000 < parts
      · by_cases p2 : 0 < l.length
        · have q2 : (0 : Int) < (l.length : Int) := by omega
          have q3 : ¬ (l.length : Int) ≤ 32 := by omega
          clear hp hr
          go_enter Try.func3, Try.ntmps3
          go_wp2_with fail
          refine C1.mono ?_
          rintro e w2 ⟨rfl, b2⟩
          go_wp2_with fail
          refine (C2 _ b2).mono ?_
          rintro e w3 ⟨rfl, b3⟩
          go_wp2_with fail
          refine (awake _).mono ?_
          rintro e w4 ⟨rfl, b4⟩
          go_wp2
          go_ret
          exact ⟨rfl, bstep (bstep b2 b3) b4⟩
        · have q2 : ¬ (0 : Int) < (l.length : Int) := by omega
          clear hp hr
          go_enter Try.func3, Try.ntmps3
          go_wp2_with fail
          refine C1.mono ?_
          rintro e w2 ⟨rfl, b2⟩
          go_wp2_with fail
          refine (C2 _ b2).mono ?_
          rintro e w3 ⟨rfl, b3⟩
          go_wp2_with fail
          refine (awake _).mono ?_
          rintro e w4 ⟨rfl, b4⟩
          go_wp2
          go_ret
          exact ⟨rfl, bstep (bstep b2 b3) b4⟩
      · clear hp hr
        go_enter Try.func3, Try.ntmps3
        go_wp2_with fail
        refine C1.mono ?_
        rintro e w2 ⟨rfl, b2⟩
        go_wp2_with fail
        refine (C2 _ b2).mono ?_
        rintro e w3 ⟨rfl, b3⟩
        go_wp2_with fail
        refine (awake _).mono ?_
        rintro e w4 ⟨rfl, b4⟩
        go_wp2
        go_ret
        exact ⟨rfl, bstep (bstep b2 b3) b4⟩
end Go.Proofs.Ytimalojaiaofkaa.SchedP
