import Derived.Test.YtibcdpnmhkhebaaPrimK
set_option linter.unusedVariables false
set_option linter.unusedSimpArgs false
namespace Go.Proofs.Ytibcdpnmhkhebaa.Prim
open Go.RowKit Base Go.Proofs.YtibcdpnmhkhebaaW.PrintWords Go.Proofs.YtibcdpnmhkhebaaW.PrintLast Go.Proofs.YtibcdpnmhkhebaaW.PrintMore Wd
theorem may_nb {k n : Int} (h : may k n = true) : nb k = true := by
  unfold may at h
  simp only [Bool.and_eq_true] at h
  exact h.1.1
theorem may_up {k n : Int} (h : may k n = true) : up k n = n := by
  unfold may at h
  simp only [Bool.and_eq_true, beq_iff_eq] at h
  exact h.1.2
theorem may_one {n : Int} (h : may 1 n = true) : n ≤ 1 := by
  unfold may at h
  simp only [Bool.and_eq_true, Bool.or_eq_true] at h
  rcases h.2 with h2 | h2
  · exact absurd h2 (by decide)
  · exact of_decide_eq_true h2
theorem of_dat {k n : Int} (h : may k n = true) (h0 : 0 ≤ n) (h1 : n < 18446744073709551616) : nn (dat k n).2.1 (dat k n).2.2 = n ∧ ng (dat k n).2.1 (dat k n).2.2 = (dat k n).2.1 := by
  have hu := may_up h
  unfold dat
  rw [may_nb h, if_neg (by decide), hu]
  by_cases hk : k = 1
  · rw [if_pos hk]
    subst hk
    have := may_one h
    exact ⟨by show n % 2 = n; omega, rfl⟩
  · rw [if_neg hk]
    by_cases hs : sg k = true ∧ 9223372036854775808 ≤ n
    · rw [if_pos hs]
      have hc : (-n) % 18446744073709551616 ≠ 0 := by omega
      have hg : ng true ((-n) % 18446744073709551616) = true := by
        unfold ng
        simpa using hc
      refine ⟨?_, hg⟩
      unfold nn
      rw [hg, if_pos rfl]
      show (-((-n) % 18446744073709551616)) % 18446744073709551616 = n
      omega
    · rw [if_neg hs]
      exact ⟨rfl, rfl⟩
theorem ofb_dat {k n : Int} (h : may k n = true) (h0 : 0 ≤ n) (h1 : n < 18446744073709551616) : ofb k (dat k n).1 (dat k n).2.1 (dat k n).2.2 ⟨#[]⟩ = true := by
  obtain ⟨a, b⟩ := of_dat h h0 h1
  unfold ofb
  rw [a, b, h]
  simp
theorem ofv_dat {k n : Int} (h : may k n = true) (h0 : 0 ≤ n) (h1 : n < 18446744073709551616) : ofv k (dat k n).1 (dat k n).2.1 (dat k n).2.2 ⟨#[]⟩ = n := by
  unfold ofv
  rw [ofb_dat h h0 h1, if_pos rfl, (of_dat h h0 h1).1]
theorem mod_mod {s n : Int} (h : sz s = true) : n % pw s % pw s = n % pw s := by
  have := pw_mod (n := n) h
  exact Int.emod_eq_of_lt this.1 this.2
theorem up_low (k n : Int) : up k (low k n) = up k n := by
  unfold up
  cases hs : sg k with
  | true =>
    have hz := ks_sz (sg_nb hs)
    rw [if_pos rfl, if_pos rfl]
    unfold low sgn
    rw [sg_nb hs, if_pos rfl, mod_mod hz]
  | false =>
    rw [if_neg (by decide), if_neg (by decide)]
    unfold low
    cases h : nb k with
    | false => rfl
    | true =>
      rw [if_pos rfl, if_pos rfl]
      exact mod_mod (ks_sz h)
theorem sgn_up {s n : Int} (h : sz s = true) : sgn (sgn n s % 18446744073709551616) s = sgn n s := by
  unfold sgn
  rcases sz_cases h with rfl | rfl | rfl | rfl
  · show (if (if n % 256 < 128 then n % 256 else n % 256 - 256) % 18446744073709551616 % 256 < 128 then (if n % 256 < 128 then n % 256 else n % 256 - 256) % 18446744073709551616 % 256 else (if n % 256 < 128 then n % 256 else n % 256 - 256) % 18446744073709551616 % 256 - 256) = (if n % 256 < 128 then n % 256 else n % 256 - 256)
    by_cases hc : n % 256 < 128
    · simp only [if_pos hc]; split <;> omega
    · simp only [if_neg hc]; split <;> omega
  · show (if (if n % 65536 < 32768 then n % 65536 else n % 65536 - 65536) % 18446744073709551616 % 65536 < 32768 then (if n % 65536 < 32768 then n % 65536 else n % 65536 - 65536) % 18446744073709551616 % 65536 else (if n % 65536 < 32768 then n % 65536 else n % 65536 - 65536) % 18446744073709551616 % 65536 - 65536) = (if n % 65536 < 32768 then n % 65536 else n % 65536 - 65536)
    by_cases hc : n % 65536 < 32768
    · simp only [if_pos hc]; split <;> omega
    · simp only [if_neg hc]; split <;> omega
  · show (if (if n % 4294967296 < 2147483648 then n % 4294967296 else n % 4294967296 - 4294967296) % 18446744073709551616 % 4294967296 < 2147483648 then (if n % 4294967296 < 2147483648 then n % 4294967296 else n % 4294967296 - 4294967296) % 18446744073709551616 % 4294967296 else (if n % 4294967296 < 2147483648 then n % 4294967296 else n % 4294967296 - 4294967296) % 18446744073709551616 % 4294967296 - 4294967296) = (if n % 4294967296 < 2147483648 then n % 4294967296 else n % 4294967296 - 4294967296)
    by_cases hc : n % 4294967296 < 2147483648
    · simp only [if_pos hc]; split <;> omega
    · simp only [if_neg hc]; split <;> omega
  · show (if (if n % 18446744073709551616 < 9223372036854775808 then n % 18446744073709551616 else n % 18446744073709551616 - 18446744073709551616) % 18446744073709551616 % 18446744073709551616 < 9223372036854775808 then (if n % 18446744073709551616 < 9223372036854775808 then n % 18446744073709551616 else n % 18446744073709551616 - 18446744073709551616) % 18446744073709551616 % 18446744073709551616 else (if n % 18446744073709551616 < 9223372036854775808 then n % 18446744073709551616 else n % 18446744073709551616 - 18446744073709551616) % 18446744073709551616 % 18446744073709551616 - 18446744073709551616) = (if n % 18446744073709551616 < 9223372036854775808 then n % 18446744073709551616 else n % 18446744073709551616 - 18446744073709551616)
    by_cases hc : n % 18446744073709551616 < 9223372036854775808
    · simp only [if_pos hc]; split <;> omega
    · simp only [if_neg hc]; split <;> omega
theorem up_up (k n : Int) : up k (up k n) = up k n := by
  unfold up
  cases hs : sg k with
  | true =>
    rw [if_pos rfl, if_pos rfl, sgn_up (ks_sz (sg_nb hs))]
  | false =>
    rw [if_neg (by decide), if_neg (by decide)]
    unfold low
    cases h : nb k with
    | false => rfl
    | true =>
      rw [if_pos rfl, if_pos rfl]
      exact mod_mod (ks_sz h)
theorem may_of_up {k n : Int} (h : nb k = true) (hk : k ≠ 1) : may k (up k n) = true := by
  unfold may
  have hk2 : (k != 1) = true := by simpa using hk
  rw [h, up_up, hk2]
  simp
set_option maxRecDepth 20000 in
set_option maxHeartbeats 1000000 in
theorem back (k n : Int) (h0 : 0 ≤ n) (h1 : n < 18446744073709551616) (w : World) : Calls Try.prog 4 #[.int .i64 k, .int .u64 n] w fun e w' => e = .returned (.bool true) ∧ Below w.heap.size w w' := by
  have HN := fun w => number k w
  have HM := fun w => may_ k n h0 h1 w
  have HD := fun w => datum k n h0 h1 w
  have hdr : 0 ≤ (dat k n).2.2 ∧ (dat k n).2.2 < 18446744073709551616 := by
    have := up_range k n
    unfold dat
    repeat' split
    · exact ⟨by decide, by decide⟩
    · show 0 ≤ up k n % 2 ∧ up k n % 2 < _; omega
    · show 0 ≤ (-(up k n)) % 18446744073709551616 ∧ (-(up k n)) % 18446744073709551616 < _; omega
    · exact this
  have HO := fun w => of_ k (dat k n).1 (dat k n).2.1 (dat k n).2.2 ⟨#[]⟩ hdr.1 hdr.2 w
  have HL := fun w => low_ k n h0 h1 w
  have HU := fun w => up_ k (low k n) (low_range k n).1 (low_range k n).2 w
  have HV := fun w => up_ k n h0 h1 w
  have HW := fun w => may_ k (up k n) (up_range k n).1 (up_range k n).2 w
  rw [up_low] at HU
  cases hm : may k n with
  | true =>
    have hnb := may_nb hm
    rw [hm] at HM
    rw [ofb_dat hm h0 h1, ofv_dat hm h0 h1] at HO
    rw [hnb] at HN
    have hup := may_up hm
    rw [hup] at HU HV HW
    rw [hm] at HW
    generalize dat k n = dd at *
    obtain ⟨da, db, dc⟩ := dd
    generalize low k n = lo at *
    clear hm hnb hup hdr h0 h1
    go_enter Try.func4, Try.ntmps4
    go_wp2_with fail
    refine (HM _).mono ?_
    rintro e w1 ⟨rfl, b⟩
    go_wp2_with fail
    refine (HD _).mono ?_
    rintro e w2 ⟨rfl, b1⟩
    have b := bstep b b1
    go_wp2_with fail
    refine (HO _).mono ?_
    rintro e w3 ⟨rfl, b1⟩
    have b := bstep b b1
    go_wp2_with fail
    refine (HL _).mono ?_
    rintro e w4 ⟨rfl, b1⟩
    have b := bstep b b1
    go_wp2_with fail
    refine (HU _).mono ?_
    rintro e w5 ⟨rfl, b1⟩
    have b := bstep b b1
    go_wp2_with fail
    refine (HN _).mono ?_
    rintro e w6 ⟨rfl, rfl⟩
    go_wp2_with fail
    refine (HN _).mono ?_
    rintro e w6 ⟨rfl, rfl⟩
    by_cases hk : k = 1
    · subst hk
      go_wp2_with fail
      refine (awake _).mono ?_
      rintro e w7 ⟨rfl, b1⟩
      go_wp2
      go_ret
      exact ⟨rfl, bstep b b1⟩
    · have hk2 : (k == 1) = false := by simpa using hk
      go_wp2_with fail
      refine (HV _).mono ?_
      rintro e w7 ⟨rfl, b1⟩
      have b := bstep b b1
      go_wp2_with fail
      refine (HW _).mono ?_
      rintro e w8 ⟨rfl, b1⟩
      have b := bstep b b1
      go_wp2_with fail
      refine (awake _).mono ?_
      rintro e w9 ⟨rfl, b1⟩
      go_wp2
      go_ret
      exact ⟨rfl, bstep b b1⟩
  | false =>
    rw [hm] at HM
    have HX : nb k = true → k ≠ 1 → ∀ w, Calls Try.prog 21 #[.int .i64 k, .int .u64 (up k n)] w fun e w' => e = .returned (.bool true) ∧ Below w.heap.size w w' := fun h1 h2 w => by
      have := HW w
      rw [may_of_up h1 h2] at this
      exact this
    generalize dat k n = dd at *
    obtain ⟨da, db, dc⟩ := dd
    generalize ofv k da db dc ⟨#[]⟩ = ov at *
    generalize ofb k da db dc ⟨#[]⟩ = ob at *
    generalize up k n = u at *
    clear hm hdr h0 h1 HL HU HW
    cases hnb : nb k with
    | false =>
      rw [hnb] at HN
      clear HX hnb
      go_enter Try.func4, Try.ntmps4
      go_wp2_with fail
      refine (HM _).mono ?_
      rintro e w1 ⟨rfl, b⟩
      go_wp2_with fail
      refine (HD _).mono ?_
      rintro e w2 ⟨rfl, b1⟩
      have b := bstep b b1
      go_wp2_with fail
      refine (HO _).mono ?_
      rintro e w3 ⟨rfl, b1⟩
      have b := bstep b b1
      go_wp2_with fail
      refine (HN _).mono ?_
      rintro e w6 ⟨rfl, rfl⟩
      go_wp2_with fail
      refine (awake _).mono ?_
      rintro e w7 ⟨rfl, b1⟩
      go_wp2
      go_ret
      exact ⟨rfl, bstep b b1⟩
    | true =>
      have HX := HX hnb
      rw [hnb] at HN
      by_cases hk : k = 1
      · subst hk
        clear HX hnb
        go_enter Try.func4, Try.ntmps4
        go_wp2_with fail
        refine (HM _).mono ?_
        rintro e w1 ⟨rfl, b⟩
        go_wp2_with fail
        refine (HD _).mono ?_
        rintro e w2 ⟨rfl, b1⟩
        have b := bstep b b1
        go_wp2_with fail
        refine (HO _).mono ?_
        rintro e w3 ⟨rfl, b1⟩
        have b := bstep b b1
        go_wp2_with fail
        refine (HN _).mono ?_
        rintro e w6 ⟨rfl, rfl⟩
        go_wp2_with fail
        refine (awake _).mono ?_
        rintro e w7 ⟨rfl, b1⟩
        go_wp2
        go_ret
        exact ⟨rfl, bstep b b1⟩
      · have hk2 : (k == 1) = false := by simpa using hk
        have HX := HX hk
        clear hnb
        go_enter Try.func4, Try.ntmps4
        go_wp2_with fail
        refine (HM _).mono ?_
        rintro e w1 ⟨rfl, b⟩
        go_wp2_with fail
        refine (HD _).mono ?_
        rintro e w2 ⟨rfl, b1⟩
        have b := bstep b b1
        go_wp2_with fail
        refine (HO _).mono ?_
        rintro e w3 ⟨rfl, b1⟩
        have b := bstep b b1
        go_wp2_with fail
        refine (HN _).mono ?_
        rintro e w6 ⟨rfl, rfl⟩
        go_wp2_with fail
        refine (HV _).mono ?_
        rintro e w7 ⟨rfl, b1⟩
        have b := bstep b b1
        go_wp2_with fail
        refine (HX _).mono ?_
        rintro e w8 ⟨rfl, b1⟩
        have b := bstep b b1
        go_wp2_with fail
        refine (awake _).mono ?_
        rintro e w9 ⟨rfl, b1⟩
        go_wp2
        go_ret
        exact ⟨rfl, bstep b b1⟩
end Go.Proofs.Ytibcdpnmhkhebaa.Prim
