import Derived.Test.YtfjcgbkoohjmnaaClock
set_option linter.unusedVariables false
set_option linter.unusedSimpArgs false
namespace Go.Proofs.Ytfjcgbkoohjmnaa.Clock
open Go.RowKit Base

theorem refnext_end (n : Int) (w : World) (h : last n = true) :
    Calls Try.prog 16 #[.int .u64 n] w fun e w' => e = .returned (.tuple #[.int .u64 n, .int .i64 22]) ∧ w = w' := by
  have hn := (last_iff n).1 h
  have hw : (IntKind.u64.wrap (n + 1) == 0) = true := by rw [hn]; decide
  clear hn
  go_enter Try.func16, Try.ntmps16
  go_wp2
  go_ret2
  exact ⟨rfl, rfl⟩

theorem refnext_ok (n : Int) (w : World) (h0 : 0 ≤ n) (h1 : n < 18446744073709551616) (h : last n = false) :
    Calls Try.prog 16 #[.int .u64 n] w fun e w' => e = .returned (.tuple #[.int .u64 (n + 1), .int .i64 0]) ∧ w = w' := by
  have hn := (last_false n).1 h
  have hw : IntKind.u64.wrap (n + 1) = n + 1 := wrapu64 (by omega) (by omega)
  have hz : (n + 1 == 0) = false := by simp; omega
  clear hn
  go_enter Try.func16, Try.ntmps16
  go_wp2
  go_ret2
  exact ⟨rfl, rfl⟩

set_option maxHeartbeats 1000000 in
theorem counts (n t : Int) (w : World) (h0 : 0 ≤ n) (h1 : n < 18446744073709551616) (ht : t < 9223372036854775808) :
    Calls Try.prog 3 #[.int .u64 n, .int .i64 t] w fun e w' => e = .returned (.bool true) ∧ Below w.heap.size w w' := by
  go_enter Try.func3, Try.ntmps3
  go_wp2_with fail
  refine (new _ _).mono ?_
  rintro e w' ⟨rfl, rfl⟩
  go_wp2
  go_loopw [6, 7] (fun m i wr => ∃ k q : Int, 0 ≤ k ∧ k ≤ 1000 ∧ 0 ≤ q ∧ q < 18446744073709551616 ∧ m = .int .u64 q ∧ i = .int .i64 k ∧
      wr.cell? ⟨w.heap.size, 0, none⟩ = some (.int .u64 q) ∧ wr.frozen? ⟨w.heap.size, 0, none⟩ = false ∧ Below w.heap.size w wr) (fun _ i _ => (1000 - intOf i).toNat)
  case atStart => exact ⟨0, n, by omega, by omega, h0, h1, rfl, rfl, by simp, by simp, (Below.refl _ _).alloc (Nat.le_refl _) _⟩
  case round =>
    obtain ⟨k, q, k0, k1, q0, q1, rfl, rfl, hc, hf, hb⟩ := hrel
    by_cases hlt : k < t ∧ k < 1000
    · obtain ⟨hl1, hl2⟩ := hlt
      by_cases hq : last q = true
      · go_wp2_with fail
        refine (refnext_end q _ hq).mono ?_
        rintro e w' ⟨rfl, rfl⟩
        go_wp2_with fail
        refine (end_ q _ _ hc).mono ?_
        rintro e w' ⟨rfl, rfl⟩
        go_wp2_with fail
        refine (next_end q _ _ hc hq).mono ?_
        rintro e w' ⟨rfl, rfl⟩
        go_wp2_with fail
        refine (now q _ _ hc).mono ?_
        rintro e w' ⟨rfl, rfl⟩
        go_wp2
        go_roundw
        case rel => exact ⟨k + 1, q, by omega, by omega, q0, q1, rfl, by go_num, hc, hf, hb⟩
        case measure => simp [intOf]; omega
      · have hq' : last q = false := by simpa using hq
        have hne := (last_false q).1 hq'
        clear hq
        go_wp2_with fail
        refine (refnext_ok q _ q0 q1 hq').mono ?_
        rintro e w' ⟨rfl, rfl⟩
        go_wp2_with fail
        refine (end_ q _ _ hc).mono ?_
        rintro e w' ⟨rfl, rfl⟩
        go_wp2_with fail
        refine (next_ok q _ _ q0 q1 hc hf hq').mono ?_
        rintro e w' ⟨rfl, rfl⟩
        go_wp2_with fail
        refine (now (q + 1) _ _ (World.cell?_setCell_same _ _ _ hc)).mono ?_
        rintro e w' ⟨rfl, rfl⟩
        go_wp2
        go_roundw
        case rel => exact ⟨k + 1, q + 1, by omega, by omega, by omega, by omega, rfl, by go_num, World.cell?_setCell_same _ _ _ hc, by simpa using hf, hb.setCell (Nat.le_refl _) _⟩
        case measure => simp [intOf]; omega
    · have hend : ¬ (k < t ∧ k < 1000) := hlt
      by_cases h1 : k < t
      · have h2 : 1000 ≤ k := by omega
        clear hlt hend
        go_wp2_with fail
        refine (now q _ _ hc).mono ?_
        rintro e w' ⟨rfl, rfl⟩
        go_wp2_with fail
        refine (awake _).mono ?_
        rintro e w' ⟨rfl, hb2⟩
        go_wp2
        go_ret
        exact ⟨rfl, hb.trans (hb2.mono (by have := hb.size; omega))⟩
      · clear hlt hend
        go_wp2_with fail
        refine (now q _ _ hc).mono ?_
        rintro e w' ⟨rfl, rfl⟩
        go_wp2_with fail
        refine (awake _).mono ?_
        rintro e w' ⟨rfl, hb2⟩
        go_wp2
        go_ret
        exact ⟨rfl, hb.trans (hb2.mono (by have := hb.size; omega))⟩
end Go.Proofs.Ytfjcgbkoohjmnaa.Clock
