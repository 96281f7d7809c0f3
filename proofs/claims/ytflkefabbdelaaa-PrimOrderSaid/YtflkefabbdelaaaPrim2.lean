import Derived.Test.YtflkefabbdelaaaPrim
set_option linter.unusedVariables false
set_option linter.unusedSimpArgs false
namespace Go.Proofs.Ytflkefabbdelaaa.Prim
open Go.RowKit Base Go.Proofs.YtflkefabbdelaaaW.PrintWords Go.Proofs.YtflkefabbdelaaaW.PrintLast Go.Proofs.YtflkefabbdelaaaW.PrintMore Wd
theorem low_ (k n : Int) (h0 : 0 ≤ n) (h1 : n < 18446744073709551616) (w : World) : Calls Try.prog 14 #[.int .i64 k, .int .u64 n] w fun e w' => e = .returned (.int .u64 (low k n)) ∧ Below w.heap.size w w' := by
  have HS := fun w => size k w
  cases h : nb k with
  | false =>
    rw [ks_none h] at HS
    rw [show low k n = 0 from by unfold low; rw [h]; rfl]
    clear h h0 h1
    go_enter Try.func14, Try.ntmps14
    go_wp2_with fail
    refine (HS _).mono ?_
    rintro e w' ⟨rfl, hb⟩
    go_wp2
    go_ret
    exact ⟨rfl, hb⟩
  | true =>
    have hs := ks_sz h
    rw [show low k n = n % pw (ks k) from by unfold low; rw [h]; rfl]
    generalize ks k = s at *
    clear h
    rcases sz_cases hs with rfl | rfl | rfl | rfl
    · have e : shr .u64 (shl .u64 n 56) 56 = n % pw 1 := by
        rw [show (56 : Int) = ((56 : Nat) : Int) from rfl, sh _ 56 (by decide), sl_ _ 56 (by decide)]
        show _ = n % 256
        omega
      have E := Lib.hid e
      clear hs e h0 h1
      go_enter Try.func14, Try.ntmps14
      go_wp2_with fail
      refine (HS _).mono ?_
      rintro e w' ⟨rfl, hb⟩
      go_wp2
      go_ret
      exact ⟨bx E.out, hb⟩
    · have e : shr .u64 (shl .u64 n 48) 48 = n % pw 2 := by
        rw [show (48 : Int) = ((48 : Nat) : Int) from rfl, sh _ 48 (by decide), sl_ _ 48 (by decide)]
        show _ = n % 65536
        omega
      have E := Lib.hid e
      clear hs e h0 h1
      go_enter Try.func14, Try.ntmps14
      go_wp2_with fail
      refine (HS _).mono ?_
      rintro e w' ⟨rfl, hb⟩
      go_wp2
      go_ret
      exact ⟨bx E.out, hb⟩
    · have e : shr .u64 (shl .u64 n 32) 32 = n % pw 4 := by
        rw [show (32 : Int) = ((32 : Nat) : Int) from rfl, sh _ 32 (by decide), sl_ _ 32 (by decide)]
        show _ = n % 4294967296
        omega
      have E := Lib.hid e
      clear hs e h0 h1
      go_enter Try.func14, Try.ntmps14
      go_wp2_with fail
      refine (HS _).mono ?_
      rintro e w' ⟨rfl, hb⟩
      go_wp2
      go_ret
      exact ⟨bx E.out, hb⟩
    · have e : IntKind.u64.wrap n = n % pw 8 := u64_mod n
      have E := Lib.hid e
      clear hs e h0 h1
      go_enter Try.func14, Try.ntmps14
      go_wp2_with fail
      refine (HS _).mono ?_
      rintro e w' ⟨rfl, hb⟩
      go_wp2
      go_ret
      exact ⟨bx E.out, hb⟩
theorem up_ (k n : Int) (h0 : 0 ≤ n) (h1 : n < 18446744073709551616) (w : World) : Calls Try.prog 16 #[.int .i64 k, .int .u64 n] w fun e w' => e = .returned (.int .u64 (up k n)) ∧ Below w.heap.size w w' := by
  have HG := fun w => signed k w
  have HS := fun w => size k w
  have HL := fun w => low_ k n h0 h1 w
  cases h : sg k with
  | true =>
    have HW := fun w => WdSPrimKinds.wide n (ks k) w
    rw [ks_sz (sg_nb h), if_pos rfl, u64_mod] at HW
    rw [show up k n = sgn n (ks k) % 18446744073709551616 from by unfold up; rw [h]; rfl]
    rw [h] at HG
    generalize sgn n (ks k) % 18446744073709551616 = r at *
    generalize ks k = s at *
    clear h h0 h1 HL
    go_enter Try.func16, Try.ntmps16
    go_wp2_with fail
    refine (HG _).mono ?_
    rintro e w1 ⟨rfl, b1⟩
    go_wp2_with fail
    refine (HS _).mono ?_
    rintro e w2 ⟨rfl, b2⟩
    go_wp2_with fail
    refine (HW _).mono ?_
    rintro e w3 ⟨rfl, b3⟩
    go_wp2
    go_ret
    exact ⟨rfl, bstep (bstep b1 b2) b3⟩
  | false =>
    rw [show up k n = low k n from by unfold up; rw [h]; rfl]
    rw [h] at HG
    generalize low k n = r at *
    clear h h0 h1
    go_enter Try.func16, Try.ntmps16
    go_wp2_with fail
    refine (HG _).mono ?_
    rintro e w1 ⟨rfl, b1⟩
    go_wp2_with fail
    refine (HL _).mono ?_
    rintro e w2 ⟨rfl, b2⟩
    go_wp2
    go_ret
    exact ⟨rfl, bstep b1 b2⟩
theorem may_ (k n : Int) (h0 : 0 ≤ n) (h1 : n < 18446744073709551616) (w : World) : Calls Try.prog 12 #[.int .i64 k, .int .u64 n] w fun e w' => e = .returned (.bool (may k n)) ∧ Below w.heap.size w w' := by
  have HN := fun w => number k w
  have HU := fun w => up_ k n h0 h1 w
  cases h : nb k with
  | false =>
    rw [show may k n = false from by unfold may; rw [h]; rfl]
    rw [h] at HN
    clear h h0 h1
    go_enter Try.func12, Try.ntmps12
    go_wp2_with fail
    refine (HN _).mono ?_
    rintro e w1 ⟨rfl, rfl⟩
    go_wp2
    go_ret
    exact ⟨rfl, Below.refl _ _⟩
  | true =>
    rw [h] at HN
    by_cases hu : up k n = n
    · rw [hu] at HU
      by_cases hk : k = 1
      · by_cases hn : n ≤ 1
        · rw [show may k n = true from by unfold may; rw [h, hu, hk, decide_eq_true hn]; simp]
          subst hk
          clear h h0 h1 hu
          go_enter Try.func12, Try.ntmps12
          go_wp2_with fail
          refine (HN _).mono ?_
          rintro e w1 ⟨rfl, rfl⟩
          go_wp2_with fail
          refine (HU _).mono ?_
          rintro e w2 ⟨rfl, b2⟩
          go_wp2
          go_ret
          exact ⟨rfl, b2⟩
        · rw [show may k n = false from by unfold may; rw [h, hu, hk, decide_eq_false hn]; simp]
          subst hk
          clear h h0 h1 hu
          go_enter Try.func12, Try.ntmps12
          go_wp2_with fail
          refine (HN _).mono ?_
          rintro e w1 ⟨rfl, rfl⟩
          go_wp2_with fail
          refine (HU _).mono ?_
          rintro e w2 ⟨rfl, b2⟩
          go_wp2
          go_ret
          exact ⟨bb (decide_eq_false (by omega)), b2⟩
      · have hk2 : (k != 1) = true := by simpa using hk
        rw [show may k n = true from by unfold may; rw [h, hu, hk2]; simp]
        clear h h0 h1 hu
        go_enter Try.func12, Try.ntmps12
        go_wp2_with fail
        refine (HN _).mono ?_
        rintro e w1 ⟨rfl, rfl⟩
        go_wp2_with fail
        refine (HU _).mono ?_
        rintro e w2 ⟨rfl, b2⟩
        go_wp2
        go_ret
        exact ⟨rfl, b2⟩
    · have hu2 : (up k n == n) = false := by simpa using hu
      rw [show may k n = false from by unfold may; rw [h, hu2]; simp]
      generalize up k n = u at *
      clear h h0 h1
      go_enter Try.func12, Try.ntmps12
      go_wp2_with fail
      refine (HN _).mono ?_
      rintro e w1 ⟨rfl, rfl⟩
      go_wp2_with fail
      refine (HU _).mono ?_
      rintro e w2 ⟨rfl, b2⟩
      go_wp2
      go_ret
      exact ⟨rfl, b2⟩
end Go.Proofs.Ytflkefabbdelaaa.Prim
