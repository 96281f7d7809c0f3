import Derived.Test.YtflkefabbdelaaaPrim2
set_option linter.unusedVariables false
set_option linter.unusedSimpArgs false
namespace Go.Proofs.Ytflkefabbdelaaa.Prim
open Go.RowKit Base Flat Go.Proofs.YtflkefabbdelaaaW.PrintWords Go.Proofs.YtflkefabbdelaaaW.PrintLast Go.Proofs.YtflkefabbdelaaaW.PrintMore Wd
/-- What a number is: its kind, is it below 0, its size. -/
def dat (k n : Int) : Int × Bool × Int :=
  if nb k = false then (0, false, 0) else if k = 1 then (3, false, up k n % 2) else if sg k = true ∧ 9223372036854775808 ≤ up k n then (1, true, (-(up k n)) % 18446744073709551616) else (1, false, up k n)
theorem and_one {m : Int} (h0 : 0 ≤ m) (h1 : m < 18446744073709551616) : Go.bits .and .u64 m 1 = m % 2 := by
  obtain ⟨n, rfl⟩ : ∃ n : Nat, m = (n : Int) := ⟨m.toNat, by omega⟩
  exact (and_pow n 1 (by have h64 : (2 : Nat) ^ 64 = 18446744073709551616 := by decide
                         omega) (by decide)).trans (by show ((n % 2 : Nat) : Int) = (n : Int) % 2; omega)
theorem dcells {w : World} {b : Nat} (h : w.heap[b]? = some (.cells #[.int .i64 0, .bool false, .int .u64 0, .string ⟨#[]⟩] 29 (0, 0))) :
    (w.cell? ⟨b, 0, none⟩ = some (.int .i64 0) ∧ w.cell? ⟨b, 1, none⟩ = some (.bool false) ∧ w.cell? ⟨b, 2, none⟩ = some (.int .u64 0) ∧ w.cell? ⟨b, 3, none⟩ = some (.string ⟨#[]⟩)) ∧
    w.frozen? ⟨b, 0, none⟩ = false ∧ w.frozen? ⟨b, 1, none⟩ = false ∧ w.frozen? ⟨b, 2, none⟩ = false ∧ w.frozen? ⟨b, 3, none⟩ = false :=
  ⟨⟨blk_cell h 0, blk_cell h 1, blk_cell h 2, blk_cell h 3⟩, blk_frozen h 0, blk_frozen h 1, blk_frozen h 2, blk_frozen h 3⟩
theorem dset {w : World} {b : Nat} (h : w.heap[b]? = some (.cells #[.int .i64 0, .bool false, .int .u64 0, .string ⟨#[]⟩] 29 (0, 0))) (a : Int) (s : Bool) (m : Int) :
    ((((w.setCell ⟨b, 0, none⟩ (.int .i64 a)).setCell ⟨b, 1, none⟩ (.bool s)).setCell ⟨b, 2, none⟩ (.int .u64 m)).setCell ⟨b, 3, none⟩ (.string ⟨#[]⟩)).cell? ⟨b, 0, none⟩ = some (.int .i64 a) ∧
    ((((w.setCell ⟨b, 0, none⟩ (.int .i64 a)).setCell ⟨b, 1, none⟩ (.bool s)).setCell ⟨b, 2, none⟩ (.int .u64 m)).setCell ⟨b, 3, none⟩ (.string ⟨#[]⟩)).cell? ⟨b, 1, none⟩ = some (.bool s) ∧
    ((((w.setCell ⟨b, 0, none⟩ (.int .i64 a)).setCell ⟨b, 1, none⟩ (.bool s)).setCell ⟨b, 2, none⟩ (.int .u64 m)).setCell ⟨b, 3, none⟩ (.string ⟨#[]⟩)).cell? ⟨b, 2, none⟩ = some (.int .u64 m) ∧
    ((((w.setCell ⟨b, 0, none⟩ (.int .i64 a)).setCell ⟨b, 1, none⟩ (.bool s)).setCell ⟨b, 2, none⟩ (.int .u64 m)).setCell ⟨b, 3, none⟩ (.string ⟨#[]⟩)).cell? ⟨b, 3, none⟩ = some (.string ⟨#[]⟩) := by
  have hq := blk_set (blk_set (blk_set (blk_set h 0 (.int .i64 a)) 1 (.bool s)) 2 (.int .u64 m)) 3 (.string ⟨#[]⟩)
  exact ⟨blk_cell hq 0, blk_cell hq 1, blk_cell hq 2, blk_cell hq 3⟩
set_option maxRecDepth 20000 in
theorem datum (k n : Int) (h0 : 0 ≤ n) (h1 : n < 18446744073709551616) (w : World) : Calls Try.prog 21 #[.int .i64 k, .int .u64 n] w fun e w' => e = .returned (.agg #[.int .i64 (dat k n).1, .bool (dat k n).2.1, .int .u64 (dat k n).2.2, .string ⟨#[]⟩]) ∧ Below w.heap.size w w' := by
  have HN := fun w => number k w
  have HU := fun w => up_ k n h0 h1 w
  have HG := fun w => signed k w
  have hr := up_range k n
  unfold dat
  have b0 : Below w.heap.size w (w.alloc (.cells #[.int .i64 0, .bool false, .int .u64 0, .string ⟨#[]⟩] 29)) := (Below.refl _ _).alloc (Nat.le_refl _) _
  have hc : (w.alloc (.cells #[.int .i64 0, .bool false, .int .u64 0, .string ⟨#[]⟩] 29)).heap[w.heap.size]? = some (.cells #[.int .i64 0, .bool false, .int .u64 0, .string ⟨#[]⟩] 29 (0, 0)) := heap_alloc_new _ _
  generalize up k n = u at *
  cases h : nb k with
  | false =>
    rw [if_pos rfl]
    rw [h] at HN
    clear h h0 h1 hr
    go_enter Try.func21, Try.ntmps21
    go_wp2_with fail
    refine (HU _).mono ?_
    rintro e w1 ⟨rfl, b1⟩
    have HC := Lib.hid ((b1.block w.heap.size (by simp)).trans hc)
    obtain ⟨⟨d0, d1, d2, d3⟩, f0, f1, f2, f3⟩ := dcells HC.out
    have hbz := Lib.hid (bstep b0 b1)
    clear hc b0 b1 HU
    go_wp2_with fail
    refine (HN _).mono ?_
    rintro e w' ⟨rfl, rfl⟩
    go_wp2
    obtain ⟨e0, e1, e2, e3⟩ := dset HC.out 0 false (0)
    exact bodyPost_ret (v := .agg #[.int .i64 0, .bool false, .int .u64 (0), .string ⟨#[]⟩]) (by simp [results, Try.results21, go_sem, e0, e1, e2, e3]) rfl ⟨rfl, (((hbz.out.setCell (Nat.le_refl _) _).setCell (Nat.le_refl _) _).setCell (Nat.le_refl _) _).setCell (Nat.le_refl _) _⟩
  | true =>
    rw [if_neg (by decide)]
    rw [h] at HN
    by_cases hk : k = 1
    · rw [if_pos hk]
      subst hk
      have HA := and_one hr.1 hr.2
      clear h h0 h1 hr
      go_enter Try.func21, Try.ntmps21
      go_wp2_with fail
      refine (HU _).mono ?_
      rintro e w1 ⟨rfl, b1⟩
      have HC := Lib.hid ((b1.block w.heap.size (by simp)).trans hc)
      obtain ⟨⟨d0, d1, d2, d3⟩, f0, f1, f2, f3⟩ := dcells HC.out
      have hbz := Lib.hid (bstep b0 b1)
      clear hc b0 b1 HU
      go_wp2_with fail
      refine (HN _).mono ?_
      rintro e w' ⟨rfl, rfl⟩
      go_wp2
      obtain ⟨e0, e1, e2, e3⟩ := dset HC.out 3 false (u % 2)
      exact bodyPost_ret (v := .agg #[.int .i64 3, .bool false, .int .u64 (u % 2), .string ⟨#[]⟩]) (by simp [results, Try.results21, go_sem, e0, e1, e2, e3]) rfl ⟨rfl, (((hbz.out.setCell (Nat.le_refl _) _).setCell (Nat.le_refl _) _).setCell (Nat.le_refl _) _).setCell (Nat.le_refl _) _⟩
    · rw [if_neg hk]
      have hk2 : (k == 1) = false := by simpa using hk
      cases hs : sg k with
      | false =>
        rw [if_neg (fun h => by cases h.1)]
        rw [hs] at HG
        clear h h0 h1 hr hs
        go_enter Try.func21, Try.ntmps21
        go_wp2_with fail
        refine (HU _).mono ?_
        rintro e w1 ⟨rfl, b1⟩
        have HC := Lib.hid ((b1.block w.heap.size (by simp)).trans hc)
        obtain ⟨⟨d0, d1, d2, d3⟩, f0, f1, f2, f3⟩ := dcells HC.out
        have hbz := Lib.hid (bstep b0 b1)
        clear hc b0 b1 HU
        go_wp2_with fail
        refine (HN _).mono ?_
        rintro e w' ⟨rfl, rfl⟩
        go_wp2_with fail
        refine (HG _).mono ?_
        rintro e w2 ⟨rfl, b2⟩
        have HC := Lib.hid ((b2.block w.heap.size (blk_lt HC.out)).trans HC.out)
        have hbz := Lib.hid (bstep hbz.out b2)
        clear d0 d1 d2 d3 f0 f1 f2 f3 b2
        obtain ⟨⟨d0, d1, d2, d3⟩, f0, f1, f2, f3⟩ := dcells HC.out
        go_wp2
        obtain ⟨e0, e1, e2, e3⟩ := dset HC.out 1 false (u)
        exact bodyPost_ret (v := .agg #[.int .i64 1, .bool false, .int .u64 (u), .string ⟨#[]⟩]) (by simp [results, Try.results21, go_sem, e0, e1, e2, e3]) rfl ⟨rfl, (((hbz.out.setCell (Nat.le_refl _) _).setCell (Nat.le_refl _) _).setCell (Nat.le_refl _) _).setCell (Nat.le_refl _) _⟩
      | true =>
        rw [hs] at HG
        by_cases hu : 9223372036854775808 ≤ u
        · rw [if_pos ⟨rfl, hu⟩]
          obtain ⟨v, hv⟩ : ∃ v, IntKind.i64.wrap u = v := ⟨_, rfl⟩
          have hv0 : v < 0 := by
            rw [← hv]
            simp [IntKind.wrap, IntKind.bits, IntKind.signed]
            omega
          have hv2 : wrap64 u = v := by
            rw [← hv]
            simp [IntKind.wrap, IntKind.bits, IntKind.signed]
            unfold wrap64
            omega
          have hng : IntKind.u64.wrap (-u) = (-u) % 18446744073709551616 := u64_mod _
          generalize (-u) % 18446744073709551616 = x at *
          clear h h0 h1 hr hs hu
          go_enter Try.func21, Try.ntmps21
          go_wp2_with fail
          refine (HU _).mono ?_
          rintro e w1 ⟨rfl, b1⟩
          have HC := Lib.hid ((b1.block w.heap.size (by simp)).trans hc)
          obtain ⟨⟨d0, d1, d2, d3⟩, f0, f1, f2, f3⟩ := dcells HC.out
          have hbz := Lib.hid (bstep b0 b1)
          clear hc b0 b1 HU
          go_wp2_with fail
          refine (HN _).mono ?_
          rintro e w' ⟨rfl, rfl⟩
          go_wp2_with fail
          refine (HG _).mono ?_
          rintro e w2 ⟨rfl, b2⟩
          have HC := Lib.hid ((b2.block w.heap.size (blk_lt HC.out)).trans HC.out)
          have hbz := Lib.hid (bstep hbz.out b2)
          clear d0 d1 d2 d3 f0 f1 f2 f3 b2
          obtain ⟨⟨d0, d1, d2, d3⟩, f0, f1, f2, f3⟩ := dcells HC.out
          go_wp2
          obtain ⟨e0, e1, e2, e3⟩ := dset HC.out 1 true (x)
          exact bodyPost_ret (v := .agg #[.int .i64 1, .bool true, .int .u64 (x), .string ⟨#[]⟩]) (by simp [results, Try.results21, go_sem, e0, e1, e2, e3]) rfl ⟨rfl, (((hbz.out.setCell (Nat.le_refl _) _).setCell (Nat.le_refl _) _).setCell (Nat.le_refl _) _).setCell (Nat.le_refl _) _⟩
        · rw [if_neg (fun h => hu h.2)]
          obtain ⟨v, hv⟩ : ∃ v, IntKind.i64.wrap u = v := ⟨_, rfl⟩
          have hv0 : 0 ≤ v := by
            rw [← hv]
            simp [IntKind.wrap, IntKind.bits, IntKind.signed]
            omega
          have hv2 : wrap64 u = v := by
            rw [← hv]
            simp [IntKind.wrap, IntKind.bits, IntKind.signed]
            unfold wrap64
            omega
          clear h h0 h1 hr hs hu
          go_enter Try.func21, Try.ntmps21
          go_wp2_with fail
          refine (HU _).mono ?_
          rintro e w1 ⟨rfl, b1⟩
          have HC := Lib.hid ((b1.block w.heap.size (by simp)).trans hc)
          obtain ⟨⟨d0, d1, d2, d3⟩, f0, f1, f2, f3⟩ := dcells HC.out
          have hbz := Lib.hid (bstep b0 b1)
          clear hc b0 b1 HU
          go_wp2_with fail
          refine (HN _).mono ?_
          rintro e w' ⟨rfl, rfl⟩
          go_wp2_with fail
          refine (HG _).mono ?_
          rintro e w2 ⟨rfl, b2⟩
          have HC := Lib.hid ((b2.block w.heap.size (blk_lt HC.out)).trans HC.out)
          have hbz := Lib.hid (bstep hbz.out b2)
          clear d0 d1 d2 d3 f0 f1 f2 f3 b2
          obtain ⟨⟨d0, d1, d2, d3⟩, f0, f1, f2, f3⟩ := dcells HC.out
          go_wp2
          obtain ⟨e0, e1, e2, e3⟩ := dset HC.out 1 false (u)
          exact bodyPost_ret (v := .agg #[.int .i64 1, .bool false, .int .u64 (u), .string ⟨#[]⟩]) (by simp [results, Try.results21, go_sem, e0, e1, e2, e3]) rfl ⟨rfl, (((hbz.out.setCell (Nat.le_refl _) _).setCell (Nat.le_refl _) _).setCell (Nat.le_refl _) _).setCell (Nat.le_refl _) _⟩
end Go.Proofs.Ytflkefabbdelaaa.Prim
