import Derived.Test.YtfjcgbkoohjmnaaBase
set_option linter.unusedVariables false
set_option linter.unusedSimpArgs false
namespace Go.Proofs.Ytfjcgbkoohjmnaa.Clock
open Go.RowKit Base

theorem new (n : Int) (w : World) :
    Calls Try.prog 15 #[.int .u64 n] w fun e w' => e = .returned (.pointer (some ⟨w.heap.size, 0, none⟩)) ∧ w' = w.alloc (.cells #[.int .u64 n] 33) := by
  go_enter Try.func15, Try.ntmps15
  go_wp2
  go_ret
  exact ⟨rfl, rfl⟩

theorem now_nil (w : World) : Calls Try.prog 19 #[.pointer none] w fun e w' => e = .returned (.int .u64 0) ∧ w = w' := by
  go_enter Try.func19, Try.ntmps19
  go_wp2
  go_ret
  exact ⟨rfl, rfl⟩

theorem now (n : Int) (a : Addr) (w : World) (hc : w.cell? a = some (.int .u64 n)) :
    Calls Try.prog 19 #[.pointer (some a)] w fun e w' => e = .returned (.int .u64 n) ∧ w = w' := by
  go_enter Try.func19, Try.ntmps19
  go_wp2
  go_ret
  exact ⟨rfl, rfl⟩

theorem end_nil (w : World) : Calls Try.prog 17 #[.pointer none] w fun e w' => e = .returned (.bool true) ∧ w = w' := by
  go_enter Try.func17, Try.ntmps17
  go_wp2
  go_ret
  exact ⟨rfl, rfl⟩

/-- Is a number the last one? -/
def last (n : Int) : Bool := n == 18446744073709551615
theorem last_iff (n : Int) : last n = true ↔ n = 18446744073709551615 := by simp [last]
theorem last_false (n : Int) : last n = false ↔ n ≠ 18446744073709551615 := by simp [last]

theorem end_ (n : Int) (a : Addr) (w : World) (hc : w.cell? a = some (.int .u64 n)) :
    Calls Try.prog 17 #[.pointer (some a)] w fun e w' => e = .returned (.bool (last n)) ∧ w = w' := by
  go_enter Try.func17, Try.ntmps17
  go_wp2
  go_ret
  exact ⟨rfl, rfl⟩

theorem next_nil (w : World) : Calls Try.prog 18 #[.pointer none] w fun e w' => e = .returned (.int .i64 22) ∧ w = w' := by
  go_enter Try.func18, Try.ntmps18
  go_wp2_with (go_at_call 17; refine (end_nil _).mono ?_; rintro e w' ⟨rfl, rfl⟩)
  go_ret
  exact ⟨rfl, rfl⟩

theorem next_end (n : Int) (a : Addr) (w : World) (hc : w.cell? a = some (.int .u64 n)) (h : last n = true) :
    Calls Try.prog 18 #[.pointer (some a)] w fun e w' => e = .returned (.int .i64 22) ∧ w = w' := by
  go_enter Try.func18, Try.ntmps18
  go_wp2_with (go_at_call 17; refine (end_ n _ _ hc).mono ?_; rintro e w' ⟨rfl, rfl⟩)
  go_ret
  exact ⟨rfl, rfl⟩

theorem next_ok (n : Int) (a : Addr) (w : World) (h0 : 0 ≤ n) (h1 : n < 18446744073709551616) (hc : w.cell? a = some (.int .u64 n)) (hf : w.frozen? a = false) (h : last n = false) :
    Calls Try.prog 18 #[.pointer (some a)] w fun e w' => e = .returned (.int .i64 0) ∧ w' = w.setCell a (.int .u64 (n + 1)) := by
  have hne := (last_false n).1 h
  have hw : IntKind.u64.wrap (n + 1) = n + 1 := wrapu64 (by omega) (by omega)
  clear hne
  go_enter Try.func18, Try.ntmps18
  go_wp2_with (go_at_call 17; refine (end_ n _ _ hc).mono ?_; rintro e w' ⟨rfl, rfl⟩)
  go_ret
  exact ⟨rfl, rfl⟩

/-- Age: how long ago. -/
def age (a b : Int) : Int := if a ≤ b then 0 else a - b

theorem beyond_u (a b : Int) (w : World) (ha : a < 18446744073709551616) (hb : 0 ≤ b) :
    Calls Try.prog 52 #[.int .u64 a, .int .u64 b] w fun e w' => e = .returned (.int .u64 (age a b)) ∧ w = w' := by
  by_cases h : a ≤ b
  · go_enter Try.func52, Try.ntmps52
    go_wp2
    go_ret
    exact ⟨bx (by unfold age; rw [if_pos h]), rfl⟩
  · have hw : IntKind.u64.wrap (a - b) = a - b := wrapu64 (by omega) (by omega)
    go_enter Try.func52, Try.ntmps52
    go_wp2
    go_ret
    exact ⟨bx (by unfold age; rw [if_neg (by omega)]), rfl⟩

theorem beyond_i (a : Int) (w : World) (h0 : 0 ≤ a) (ha : a < 9223372036854775808) :
    Calls Try.prog 53 #[.int .i64 a, .int .i64 0] w fun e w' => e = .returned (.int .i64 a) ∧ w = w' := by
  by_cases h : a ≤ 0
  · obtain rfl : a = 0 := by omega
    go_enter Try.func53, Try.ntmps53
    go_wp2
    go_ret
    exact ⟨rfl, rfl⟩
  · have hw : IntKind.i64.wrap (a - 0) = a := by rw [Int.sub_zero]; exact wrapi64 (by omega) (by omega)
    go_enter Try.func53, Try.ntmps53
    go_wp2
    go_ret
    exact ⟨bx (by first | rfl | omega | simp), rfl⟩

theorem age_u (a b : Int) (w : World) (ha : a < 18446744073709551616) (hb : 0 ≤ b) :
    Calls Try.prog 25 #[.int .u64 a, .int .u64 b] w fun e w' => e = .returned (.int .u64 (age a b)) ∧ w = w' := by
  go_enter Try.func25, Try.ntmps25
  go_wp2_with (go_at_call 52; refine (beyond_u _ _ _ ha hb).mono ?_; rintro e w' ⟨rfl, rfl⟩)
  go_ret
  exact ⟨rfl, rfl⟩

theorem age_ref (a b : Int) (w : World) (ha : a < 18446744073709551616) (hb : 0 ≤ b) :
    Calls Try.prog 26 #[.int .u64 a, .int .u64 b] w fun e w' => e = .returned (.int .u64 (age a b)) ∧ w = w' := by
  by_cases h : a < b
  · go_enter Try.func26, Try.ntmps26
    go_wp2
    go_ret
    exact ⟨bx (by unfold age; rw [if_pos (by omega)]), rfl⟩
  · have hw : IntKind.u64.wrap (a - b) = a - b := wrapu64 (by omega) (by omega)
    go_enter Try.func26, Try.ntmps26
    go_wp2
    go_ret
    exact ⟨bx (by unfold age; split <;> omega), rfl⟩

/-- Over: so many frames ago, or more. -/
def over (a b f : Int) : Bool := decide (max f 0 ≤ age a b)

theorem over_u (a b f : Int) (w : World) (ha : a < 18446744073709551616) (hb : 0 ≤ b) (hf0 : -9223372036854775808 ≤ f) (hf1 : f < 9223372036854775808) :
    Calls Try.prog 27 #[.int .u64 a, .int .u64 b, .int .i64 f] w fun e w' => e = .returned (.bool (over a b f)) ∧ w = w' := by
  go_enter Try.func27, Try.ntmps27
  go_wp2_with (first
    | (go_at_call 25; refine (age_u _ _ _ ha hb).mono ?_; rintro e w' ⟨rfl, rfl⟩)
    | (go_at_call 53; refine (beyond_i _ _ (by omega) (by omega)).mono ?_; rintro e w' ⟨rfl, rfl⟩))
  all_goals
    go_ret
    exact ⟨bb (by unfold over; rw [decide_eq_decide]; omega), rfl⟩

theorem age_nonneg (a b : Int) : 0 ≤ age a b := by unfold age; split <;> omega

theorem over_ref (a b f : Int) (w : World) (ha : a < 18446744073709551616) (hb : 0 ≤ b) (hf0 : -9223372036854775808 ≤ f) (hf1 : f < 9223372036854775808) :
    Calls Try.prog 28 #[.int .u64 a, .int .u64 b, .int .i64 f] w fun e w' => e = .returned (.bool (over a b f)) ∧ w = w' := by
  have hn := age_nonneg a b
  by_cases h : f < 1
  · go_enter Try.func28, Try.ntmps28
    go_wp2_with (go_at_call 26; refine (age_ref _ _ _ ha hb).mono ?_; rintro e w' ⟨rfl, rfl⟩)
    go_ret
    exact ⟨bb (by unfold over; rw [eq_comm, decide_eq_true_eq]; omega), rfl⟩
  · go_enter Try.func28, Try.ntmps28
    go_wp2_with (go_at_call 26; refine (age_ref _ _ _ ha hb).mono ?_; rintro e w' ⟨rfl, rfl⟩)
    go_ret
    exact ⟨bb (by unfold over; rw [decide_eq_decide]; omega), rfl⟩

theorem awake (w : World) : Calls Try.prog 20 #[] w fun e w' => e = .returned (.bool true) ∧ Below w.heap.size w w' := by
  go_enter Try.func20, Try.ntmps20
  go_wp2_with fail
  refine (new _ _).mono ?_
  rintro e w' ⟨rfl, rfl⟩
  go_wp2_with fail
  refine (next_ok 18446744073709551614 _ _ (by omega) (by omega) (by simp) (by simp) (by decide)).mono ?_
  rintro e w' ⟨rfl, rfl⟩
  go_wp2_with fail
  refine (next_end 18446744073709551615 _ _ (by simp) (by decide)).mono ?_
  rintro e w' ⟨rfl, rfl⟩
  go_wp2_with fail
  refine (now 18446744073709551615 _ _ (by simp)).mono ?_
  rintro e w' ⟨rfl, rfl⟩
  go_wp2_with fail
  refine (end_ 18446744073709551615 _ _ (by simp)).mono ?_
  rintro e w' ⟨rfl, rfl⟩
  go_wp2
  go_ret
  exact ⟨bb (by decide), (Below.refl _ _).alloc (Nat.le_refl _) _⟩

theorem ages (a b f : Int) (w : World) (ha0 : 0 ≤ a) (ha : a < 18446744073709551616) (hb0 : 0 ≤ b) (hb : b < 18446744073709551616) (hf0 : -9223372036854775808 ≤ f) (hf1 : f < 9223372036854775808) :
    Calls Try.prog 8 #[.int .u64 a, .int .u64 b, .int .i64 f] w fun e w' => e = .returned (.bool true) ∧ Below w.heap.size w w' := by
  go_enter Try.func8, Try.ntmps8
  go_wp2_with fail
  refine (age_u _ _ _ ha hb0).mono ?_
  rintro e w' ⟨rfl, rfl⟩
  go_wp2_with fail
  refine (age_ref _ _ _ ha hb0).mono ?_
  rintro e w' ⟨rfl, rfl⟩
  go_wp2_with fail
  refine (over_u _ _ _ _ ha hb0 hf0 hf1).mono ?_
  rintro e w' ⟨rfl, rfl⟩
  go_wp2_with fail
  refine (over_ref _ _ _ _ ha hb0 hf0 hf1).mono ?_
  rintro e w' ⟨rfl, rfl⟩
  go_wp2_with fail
  refine (awake _).mono ?_
  rintro e w' ⟨rfl, hb⟩
  go_wp2
  go_ret
  exact ⟨rfl, hb⟩

theorem nones (n : Int) (w : World) : Calls Try.prog 4 #[.int .u64 n] w fun e w' => e = .returned (.bool true) ∧ Below w.heap.size w w' := by
  go_enter Try.func4, Try.ntmps4
  go_wp2_with fail
  refine (now_nil _).mono ?_
  rintro e w' ⟨rfl, rfl⟩
  go_wp2_with fail
  refine (next_nil _).mono ?_
  rintro e w' ⟨rfl, rfl⟩
  go_wp2_with fail
  refine (end_nil _).mono ?_
  rintro e w' ⟨rfl, rfl⟩
  go_wp2_with fail
  refine (now 0 _ _ (by simp)).mono ?_
  rintro e w' ⟨rfl, rfl⟩
  go_wp2_with fail
  refine (next_ok 0 _ _ (by omega) (by omega) (by simp) (by simp) (by decide)).mono ?_
  rintro e w' ⟨rfl, rfl⟩
  go_wp2_with fail
  refine (now 1 _ _ (by simp)).mono ?_
  rintro e w' ⟨rfl, rfl⟩
  go_wp2_with fail
  refine (new _ _).mono ?_
  rintro e w' ⟨rfl, rfl⟩
  go_wp2_with fail
  refine (now n _ _ (by simp)).mono ?_
  rintro e w' ⟨rfl, rfl⟩
  go_wp2_with fail
  refine (awake _).mono ?_
  rintro e w' ⟨rfl, hb⟩
  go_wp2
  go_ret
  exact ⟨rfl, (((Below.refl _ _).alloc (Nat.le_refl _) _).alloc (by simp) _).trans (hb.mono (by simp; omega))⟩
end Go.Proofs.Ytfjcgbkoohjmnaa.Clock
