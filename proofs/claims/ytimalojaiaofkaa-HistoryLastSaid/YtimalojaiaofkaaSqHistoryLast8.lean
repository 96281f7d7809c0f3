import Derived.Test.YtimalojaiaofkaaSqHistoryLast7
set_option linter.unusedVariables false
set_option linter.unusedSimpArgs false
namespace Go.Proofs.Ytimalojaiaofkaa.His
open Go.RowKit Base Sp Flat Go.Proofs.YtimalojaiaofkaaW.PrintWords Go.Shelf Smp
def seg (l : List Stp) (q j : Nat) : List Stp := (l.drop (q + 1)).take j
theorem seg_step (l : List Stp) (q j : Nat) (h : q + 1 + j < l.length) : seg l q (j + 1) = seg l q j ++ [l[q + 1 + j]] := by
  unfold seg
  rw [List.take_succ_eq_append_getElem (by rw [List.length_drop]; omega), List.getElem_drop]
theorem seg_all (l : List Stp) (q i : Nat) (hq : q ≤ i) : seg l q (i - q) = (l.take (i + 1)).drop (q + 1) := by
  unfold seg
  rw [List.drop_take]
  congr 1
  omega
theorem drop_at (l : List Stp) (q i : Nat) (hq : q ≤ i) (hi : i < l.length) : (l.take (i + 1)).drop q = l[q] :: (l.take (i + 1)).drop (q + 1) := by
  have h : q < (l.take (i + 1)).length := by rw [List.length_take]; omega
  rw [List.drop_eq_getElem_cons h, List.getElem_take]
theorem split_no {d : Int} {K P : List Smp} {x : Stp} {r : List Stp} (h : K = P ++ kl d r) (hk : ¬ okk d x r = true) : K = P ++ kl d (x :: r) := by
  rw [kl, if_neg hk]; exact h
theorem suffix_step {d : Int} {L : List Stp} {x : Stp} {r : List Stp} {P : List Smp} (hs : ∃ T, kl d L = T ++ kl d (x :: r)) (h : kl d L = P ++ kl d r) (hk : okk d x r = true) : ∃ Q, P = Q ++ [x.s] := by
  obtain ⟨T, hT⟩ := hs
  rw [kl, if_pos hk, ← List.singleton_append, ← List.append_assoc, h] at hT
  exact ⟨T, List.append_cancel_right hT⟩
theorem kl_suffix (d : Int) : ∀ (L : List Stp) (q : Nat), ∃ T, kl d L = T ++ kl d (L.drop q)
  | L, 0 => ⟨[], rfl⟩
  | [], q + 1 => ⟨[], rfl⟩
  | x :: r, q + 1 => by
    obtain ⟨T, hT⟩ := kl_suffix d r q
    rw [kl, List.drop_succ_cons]
    by_cases hk : okk d x r = true
    · rw [if_pos hk]; exact ⟨x.s :: T, by rw [hT]; rfl⟩
    · rw [if_neg hk]; exact ⟨T, hT⟩
theorem smp_key_range {w : World} {g o : Nat} {x : Smp} (h : w.rangeAt g o (cells x)) : w.rangeAt g (o + 5) (nums .u8 x.key) := fun j u hj => by
  have hj' : j < 17 := by
    have := (List.getElem?_eq_some_iff.1 hj).1
    rwa [nums_length, key_len] at this
  rw [Nat.add_assoc]
  refine h (5 + j) u ?_
  unfold cells head
  rw [List.getElem?_append_right (by simp)]
  simp only [List.length_cons, List.length_nil]
  rw [show 5 + j - (0 + 1 + 1 + 1 + 1 + 1) = j from by omega, List.getElem?_append_left (by rw [nums_length, key_len]; exact hj')]
  exact hj
theorem measN (q : Nat) : (intOf (.int .i64 ((q : Int) - 1)) + 1).toNat < (intOf (.int .i64 (q : Int)) + 1).toNat := by
  show ((q : Int) - 1 + 1).toNat < ((q : Int) + 1).toNat
  omega
theorem measM (i m : Nat) (h : m ≤ i) : i + 1 - (intOf (.int .i64 (((m + 1 : Nat) : Int)))).toNat < i + 1 - (intOf (.int .i64 (m : Int))).toNat := by
  show i + 1 - (((m + 1 : Nat) : Int)).toNat < i + 1 - ((m : Int)).toNat
  rw [Int.toNat_natCast, Int.toNat_natCast]
  omega
theorem hits_t {x : Smp} {m : Stp} (h : m.ages = true) : hits x m = (decide (0 < m.life) && Clock.over m.now x.frame m.life) := by unfold hits; rw [if_pos h]
theorem hits_f {x : Smp} {m : Stp} (h : m.ages = false) : hits x m = (decide (m.s.key = x.key) && decide (m.s.op ≠ 1)) := by unfold hits; rw [if_neg (by rw [h]; decide)]
theorem mate_t {x : Smp} {m : Stp} (h : m.ages = true) : mate x m = false := by unfold mate; rw [h]; rfl
theorem mate_f {x : Smp} {m : Stp} (h : m.ages = false) : mate x m = decide (m.s.key = x.key) := by unfold mate; rw [h]; rfl
set_option maxHeartbeats 4000000 in
set_option maxRecDepth 20000 in
theorem last (d : Int) (A : Option Addr) (cap : Nat) (l : List Stp) (w : World) (hC : Kd.C kst w A l.length l) (hd1 : d < 9223372036854775808) (hl9 : l.length ≤ 9223372036854775807) :
    Calls Try.prog 9 #[.int .i64 d, .slice A l.length cap] w fun e w' => e = .returned (.bool true) ∧ Below w.heap.size w w' := by
  have b0 := Below.refl w.heap.size w
  by_cases hl : (l.length : Int) > 150
  · have hl1 : (150 : Int) < (l.length : Int) := by omega
    clear hl hd1
    go_enter Try.func9, Try.ntmps9
    go_wp2_with fail
    refine (awake _).mono ?_
    rintro e w1 ⟨rfl, b1⟩
    go_wp2
    go_ret
    exact ⟨rfl, b1⟩
  · have hl1 : ¬ (150 : Int) < (l.length : Int) := by omega
    by_cases hd : d < 1
    · clear hl hd1
      go_enter Try.func9, Try.ntmps9
      go_wp2_with fail
      refine (awake _).mono ?_
      rintro e w1 ⟨rfl, b1⟩
      go_wp2
      go_ret
      exact ⟨rfl, b1⟩
    · have CR := rises A cap l w hC hl9
      cases hrs : rs 0 l with
      | false =>
        rw [hrs] at CR
        clear hl hd1
        go_enter Try.func9, Try.ntmps9
        go_wp2_with fail
        refine CR.mono ?_
        rintro e w0 ⟨rfl, rfl⟩
        go_wp2_with fail
        refine (awake _).mono ?_
        rintro e w1 ⟨rfl, b1⟩
        go_wp2
        go_ret
        exact ⟨rfl, b1⟩
      | true =>
        rw [hrs] at CR
        have hris := Lib.hid (rs_low l 0 hrs).1
        have C0 := new d 0 w hd1 (by decide)
        have e1 : mx0 d = d := by unfold mx0; rw [if_neg (by omega)]
        have e2 : mx0 0 = 0 := rfl
        rw [e1, e2] at C0
        have HC := Lib.hid hC
        have HL : Hid (l.length ≤ 150) := Lib.hid (by omega)
        have HD : Hid (1 ≤ d) := Lib.hid (by omega)
        obtain ⟨b, hbd⟩ : ∃ b, b = w.heap.size := ⟨_, rfl⟩
        have HBD := Lib.hid hbd
        rw [← hbd] at C0
        have hb1 : ∀ w2, Below b w w2 → Below w.heap.size w w2 := fun w2 h => hbd ▸ h
        clear hl hC hd1 hrs e1 e2 hbd
        go_enter Try.func9, Try.ntmps9
        go_wp2_with fail
        refine CR.mono ?_
        rintro e w0 ⟨rfl, rfl⟩
        go_wp2_with fail
        refine C0.mono ?_
        rintro e w2 ⟨rfl, h2, b2⟩
        have hC2 := Kd.C_below HC.out (hb1 w2 b2)
        have HB2 : Hid (Below w0.heap.size w0 w2) := Lib.hid (hb1 w2 b2)
        clear C0 CR b2 hb1 b0
        go_wp2
        go_loopw [6, 7, 8, 9, 10, 11, 12] (fun v6 _ _ _ _ _ _ wr => ∃ (i : Nat) (F : Nat → Prop), v6 = .int .i64 (i : Int) ∧ i ≤ l.length ∧ HS wr F b d 0 (hruns d 0 (l.take i)) ∧ Hid (∀ k, F k → b < k) ∧ Below b w2 wr) (fun v6 _ _ _ _ _ _ _ => l.length - (intOf v6).toNat)
        case atStart => exact ⟨0, fun _ => False, rfl, Nat.zero_le _, h2, Lib.hid (fun k h => h.elim), Below.refl _ _⟩
        case round =>
          clear h2
          obtain ⟨i, F, rfl, hi, h8, hF, bb⟩ := hrel
          by_cases hlt : i < l.length
          · have q0 : (0 : Int) ≤ (i : Int) := by omega
            have q1 : (i : Int) < (l.length : Int) := by omega
            obtain ⟨ad, rfl, st⟩ := step_at hC2 hlt
            have hlen : ((hruns d 0 (l.take i)).length + 1) * 80 ≤ 140737488355328 := by have := hruns_le d 0 l i hi; have := HL.out; omega
            have hst2 := hruns_step d 0 l i hlt
            have hkl := hruns_kl d HD.out l hris.out (i + 1) (by omega)
            rw [hst2] at hkl
            have hK9 : (hstep d 0 (hruns d 0 (l.take i)) l[i]).length * 80 ≤ 140737488355328 := by have := hruns_le d 0 l i hi; have := HL.out; have := hstep_le d 0 (hruns d 0 (l.take i)) l[i]; omega
            have HST := Lib.hid hst2
            have hlt2 := Lib.hid hlt
            have hwi : wrap64 ((i : Int) + 1) = ((i + 1 : Nat) : Int) := by have := HL.out; unfold wrap64; omega
            have hal : ∀ k (hk : k < l.length), (ad.add (k * 26)).block < b ∧ StpAt w2 (ad.add (k * 26)) (l[k]'hk) := fun k hk => by
              obtain ⟨ad', e, st'⟩ := step_at HC.out hk
              obtain rfl := Option.some.inj e
              obtain ⟨ad'', e2, st2⟩ := step_at hC2 hk
              obtain rfl := Option.some.inj e2
              exact ⟨by have := st'.lt; have := HBD.out; omega, st2⟩
            have HAL := Lib.hid hal
            have hsl := (hal i hlt).1
            have st8 := st.below bb hsl
            have C1 := do_ h8 l[i] hlen
            generalize hstep d 0 (hruns d 0 (l.take i)) l[i] = K at C1 hkl hK9 HST
            generalize l[i] = x at st st8 C1
            have hbr := Lib.hid h8.lt
            have BB := Lib.hid bb
            have HKL := Lib.hid hkl
            have HK9 := Lib.hid hK9
            clear h8 hlt hi hlen st bb hal hsl hst2 hkl hK9
            go_wp2_with (first | ((with_reducible refine gate_dst (N := 38) rfl ?_); refine load_any (by kernel_rfl) 62 (.tmp 37) rfl _ rfl (stc x) _ st8.all Try.underlying62 rfl (stp26 x) ?_) | fail)
            refine C1.mono ?_
            rintro e w5 ⟨rfl, F5, h5, g5, m5⟩
            have bb5 := Lib.hid (m5.below BB.out (Nat.le_of_lt hbr.out) (fun k hk => hk.elim (fun e => by omega) (fun hh => Nat.le_of_lt (hF.out k hh))))
            have hF5 := Lib.hid (fun k (hk : F5 k) => (g5 k hk).elim (hF.out k) (fun hh => Nat.lt_of_lt_of_le hbr.out hh))
            have C2 := all h5 HK9.out
            have H5 := Lib.hid h5
            have hb5 := Lib.hid h5.lt
            clear C1 st8 g5 m5 h5
            go_wp2_with fail
            refine C2.mono ?_
            rintro e w6 ⟨v7, rfl, r7, b6⟩
            have R7 := Lib.hid (r7.mono (G := fun k => w5.heap.size ≤ k) (fun k hk => hk.1))
            obtain ⟨A7, c7, rfl, hle7, hA7⟩ := r7.slice
            have B6 := Lib.hid b6
            have HAL6 := Lib.hid (fun k (hk : k < l.length) => (And.intro ((HAL.out k hk).2.below (bb5.out.trans (B6.out.mono (Nat.le_of_lt hb5.out))) (HAL.out k hk).1) (Nat.lt_of_lt_of_le (HAL.out k hk).1 (Nat.le_of_lt (Nat.lt_of_lt_of_le hb5.out B6.out.size))) : StpAt w6 (ad.add (k * 26)) (l[k]'hk) ∧ (ad.add (k * 26)).block < w6.heap.size))
            have brf := Below.refl w6.heap.size w6
            clear C2 hle7 hA7 r7 b6
            go_wp2
            go_loopw [8, 9, 10, 11, 12] (fun v8 v9 _ _ _ wr => ∃ (N : Nat) (n : Int) (P : List Smp), v9 = .int .i64 n ∧ v8 = .int .i64 (P.length : Int) ∧ Hid (n + 1 = (N : Int) ∧ N ≤ i + 1 ∧ K = P ++ kl d ((l.take (i + 1)).drop N)) ∧ Below w6.heap.size w6 wr) (fun _ v9 _ _ _ _ => (intOf v9 + 1).toNat)
            case atStart => exact ⟨i + 1, (i : Int), K, rfl, rfl, Lib.hid ⟨rfl, Nat.le_refl _, by rw [List.drop_eq_nil_of_le (by rw [List.length_take]; omega)]; simp [kl]⟩, brf⟩
            case round =>
              clear brf
              obtain ⟨N, n, P, rfl, rfl, hN, bw⟩ := hrel
              by_cases hn : 0 ≤ n
              · obtain ⟨q, rfl⟩ : ∃ q : Nat, n = (q : Int) := ⟨n.toNat, by omega⟩
                have hqi : q ≤ i := by have := hN.out; omega
                have hql : q < l.length := by have := hlt2.out; omega
                have hq1 : (q : Int) < (l.length : Int) := by omega
                have hNq : N = q + 1 := by have := hN.out; omega
                have HP := Lib.hid (hNq ▸ hN.out.2.2)
                have hda := drop_at l q i hqi hlt2.out
                obtain ⟨stq, hsq⟩ := HAL6.out q hql
                have hsuf := kl_suffix d (l.take (i + 1)) q
                rw [hda] at hsuf
                have HDA := Lib.hid hda
                have HSUF := Lib.hid hsuf
                have HQ := Lib.hid (And.intro hqi hql)
                have hwq : wrap64 ((q : Int) + 1) = ((q + 1 : Nat) : Int) := by have := HL.out; unfold wrap64; omega
                have hwm : wrap64 ((q : Int) - 1) = (q : Int) - 1 := by have := HL.out; unfold wrap64; omega
                generalize l[q] = x at stq HDA HSUF
                have stw := stq.below bw hsq
                have STX := Lib.hid (And.intro stq hsq)
                have a0 := stw.ages
                have a1 : wr.cell? ⟨(ad.add (q * 26)).block, (ad.add (q * 26)).off + 1, none⟩ = some (.int .i64 x.s.op) := stw.smp 0 _ rfl
                have a2 : wr.cell? ⟨(ad.add (q * 26)).block, (ad.add (q * 26)).off + 1 + 2, none⟩ = some (.int .u64 x.s.frame) := stw.smp 2 _ rfl
                clear hN hNq hda hsuf stq hqi hsq stw
                cases hxa : x.ages with
                | true =>
                  rw [hxa] at a0
                  clear a1 a2
                  go_wp2
                  try rw [hwm]
                  exact ⟨⟨q, (q : Int) - 1, P, rfl, rfl, Lib.hid ⟨by omega, by have := HQ.out; omega, by rw [HDA.out]; exact split_no HP.out (fun hh => by have := (okk_iff.1 hh).1; rw [hxa] at this; cases this)⟩, bw⟩, measN q⟩
                | false =>
                  rw [hxa] at a0
                  by_cases hxo : x.s.op = 1
                  · rw [hxo] at a1
                    have HXO := Lib.hid (And.intro hxa hxo)
                    clear hxa hxo a2
                    go_wp2
                    try rw [hwq]
                    go_loopw [10, 11, 12] (fun v10 v11 v12 wr2 => ∃ (j m L : Nat) (G : Bool), v12 = .int .i64 (m : Int) ∧ v10 = .int .i64 (L : Int) ∧ v11 = .bool G ∧ Hid (m = q + 1 + j ∧ j ≤ i - q ∧ L = later x.s (seg l q j) ∧ G = gone x.s (seg l q j)) ∧ Below w6.heap.size w6 wr2) (fun _ _ v12 _ => i + 1 - (intOf v12).toNat)
                    case atStart => exact ⟨0, q + 1, 0, false, rfl, rfl, rfl, Lib.hid ⟨rfl, Nat.zero_le _, rfl, rfl⟩, bw⟩
                    case round =>
                      clear a0 a1 bw
                      obtain ⟨j, m, L, G, rfl, rfl, rfl, hm, bw⟩ := hrel
                      by_cases hmi : m ≤ i
                      · have hmi1 : (m : Int) ≤ (i : Int) := by omega
                        have hml : m < l.length := by have := hlt2.out; omega
                        have hml1 : (m : Int) < (l.length : Int) := by omega
                        have hm0 : (0 : Int) ≤ (m : Int) := by omega
                        have hmi2 := Lib.hid hmi
                        have hwm2 : wrap64 ((m : Int) + 1) = ((m + 1 : Nat) : Int) := by have := HL.out; unfold wrap64; omega
                        have hsg0 := seg_step l q j (by have := hm.out.1; omega)
                        have hLb : L ≤ j := by
                          rw [hm.out.2.2.1]
                          unfold later
                          refine Nat.le_trans List.countP_le_length ?_
                          unfold seg
                          rw [List.length_take]
                          exact Nat.min_le_left _ _
                        have hwL : wrap64 ((L : Int) + 1) = ((L + 1 : Nat) : Int) := by have := HL.out; have := hm.out; have := hmi; unfold wrap64; omega
                        obtain ⟨stm, hsm⟩ := HAL6.out m hml
                        have hsg : Hid (seg l q (j + 1) = seg l q j ++ [l[m]]) := Lib.hid (by rw [hsg0]; congr 2; simp only [hm.out.1])
                        generalize l[m] = y at stm hsg
                        have stz := stm.below bw hsm
                        have stx := STX.out.1.below bw STX.out.2
                        have y0 := stz.ages
                        have y1 : wr.cell? ⟨(ad.add (m * 26)).block, (ad.add (m * 26)).off + 1, none⟩ = some (.int .i64 y.s.op) := stz.smp 0 _ rfl
                        have y2 := stz.now
                        have y3 := stz.life
                        have x2 : wr.cell? ⟨(ad.add (q * 26)).block, (ad.add (q * 26)).off + 1 + 2, none⟩ = some (.int .u64 x.s.frame) := stx.smp 2 _ rfl
                        have yk := smp_key_range stz.smp
                        have xk := smp_key_range stx.smp
                        clear hmi hsg0 hLb hsm stm stx stz
                        cases hya : y.ages with
                        | true =>
                          rw [hya] at y0
                          have hgd := y.good
                          have HT := Lib.hid (hits_t (x := x.s) hya)
                          have MT := Lib.hid (mate_t (x := x.s) hya)
                          clear y1 yk xk
                          cases G with
                          | true =>
                            clear y2 y3 x2 hgd hya
                            go_wp2_with fail
                            refine Reg.wp_plan (S := fun w' => 0 ≤ w'.heap.size) 29 (.fl 0 (.fl 1 (.fl 2 (.fl 3 (.fl 4 (.fl 5 (.fl 6 (.fl 7 (.fl 8 (.fl 9 (.fl 10 (.fl 11 (.fl 12 (.fl 13 (.fl 14 (.fl 15 (.fl 16 (.fl 17 (.fl 18 (.fl 19 (.fl 20 (.fl 21 (.fl 22 (.fl 23 (.fl 24 (.one 25 (.fl 26 (.fl 27 (.fl 28 .done))))))))))))))))))))))))))))) (by kernel_rfl) (by kernel_rfl) (by kernel_rfl) (by kernel_rfl) (fun _ _ _ d _ h => by cases d <;> exact h) ?_ (fun hHeld => ?_)
                            · exact Nat.zero_le _
                            refine Reg.G_on (o := { dst := some 75, op := Op.move (Operand.tmp 11), type := 4, pos := "law.go:88", after := #[], guard := Option.none }) (v := ?_) (by rfl) ?_ (fun wS hSw => ?_) ?_
                            rotate_left
                            · kernel_rfl
                            · (try dsimp only at hSw); go_simp; (try with_reducible rfl)
                            try simp only [Act.put, List.setIfInBounds_toArray, List.set_cons_zero, List.set_cons_succ]
                            refine Reg.G_on (o := { dst := some 76, op := Op.move (Operand.tmp 75), type := 4, pos := "law.go:88", after := #[{ on := 0, ground := Ground.data }], guard := Option.none }) (v := ?_) (by rfl) ?_ (fun wS hSw => ?_) ?_
                            rotate_left
                            · kernel_rfl
                            · (try dsimp only at hSw); go_simp; (try with_reducible rfl)
                            try simp only [Act.put, List.setIfInBounds_toArray, List.set_cons_zero, List.set_cons_succ]
                            refine Reg.G_off (o := { dst := some 77, op := Op.move (Operand.tmp 1), type := 51, pos := "law.go:88", after := #[{ on := 1, ground := Ground.guard }], guard := some (1, false) }) (by rfl) ?_ ?_
                            · kernel_rfl
                            try simp only [Act.put, List.setIfInBounds_toArray, List.set_cons_zero, List.set_cons_succ]
                            refine Reg.G_off (o := { dst := some 78, op := Op.move (Operand.tmp 12), type := 3, pos := "law.go:88", after := #[{ on := 1, ground := Ground.guard }], guard := some (1, false) }) (by rfl) ?_ ?_
                            · kernel_rfl
                            try simp only [Act.put, List.setIfInBounds_toArray, List.set_cons_zero, List.set_cons_succ]
                            refine Reg.G_off (o := { dst := some 79, op := Op.indexAddr 51 (Operand.tmp 77) (Operand.tmp 78), type := 0, pos := "law.go:88", after := #[{ on := 2, ground := Ground.data }, { on := 3, ground := Ground.data }, { on := 1, ground := Ground.guard }], guard := some (1, false) }) (by rfl) ?_ ?_
                            · kernel_rfl
                            try simp only [Act.put, List.setIfInBounds_toArray, List.set_cons_zero, List.set_cons_succ]
                            refine Reg.G_off (o := { dst := some 80, op := Op.fieldAddr 62 (Operand.tmp 79) 3, type := 0, pos := "law.go:88", after := #[{ on := 4, ground := Ground.data }, { on := 1, ground := Ground.guard }], guard := some (1, false) }) (by rfl) ?_ ?_
                            · kernel_rfl
                            try simp only [Act.put, List.setIfInBounds_toArray, List.set_cons_zero, List.set_cons_succ]
                            refine Reg.G_off (o := { dst := some 81, op := Op.load 3 (Operand.tmp 80), type := 3, pos := "law.go:88", after := #[{ on := 5, ground := Ground.data }, { on := 1, ground := Ground.guard }], guard := some (1, false) }) (by rfl) ?_ ?_
                            · kernel_rfl
                            try simp only [Act.put, List.setIfInBounds_toArray, List.set_cons_zero, List.set_cons_succ]
                            refine Reg.G_off (o := { dst := some 82, op := Op.binOp BinOp.gtr 3 (Operand.tmp 81) (Operand.const (Value.int IntKind.i64 0)) 3, type := 4, pos := "law.go:88", after := #[{ on := 6, ground := Ground.data }, { on := 1, ground := Ground.guard }], guard := some (1, false) }) (by rfl) ?_ ?_
                            · kernel_rfl
                            try simp only [Act.put, List.setIfInBounds_toArray, List.set_cons_zero, List.set_cons_succ]
                            refine Reg.G_off (o := { dst := some 83, op := Op.move (Operand.tmp 82), type := 4, pos := "law.go:88", after := #[{ on := 7, ground := Ground.data }, { on := 1, ground := Ground.chain }, { on := 1, ground := Ground.guard }], guard := some (1, false) }) (by rfl) ?_ ?_
                            · kernel_rfl
                            try simp only [Act.put, List.setIfInBounds_toArray, List.set_cons_zero, List.set_cons_succ]
                            refine Reg.G_off (o := { dst := some 84, op := Op.move (Operand.tmp 1), type := 51, pos := "law.go:88", after := #[{ on := 8, ground := Ground.guard }], guard := some (8, true) }) (by rfl) ?_ ?_
                            · kernel_rfl
                            try simp only [Act.put, List.setIfInBounds_toArray, List.set_cons_zero, List.set_cons_succ]
                            refine Reg.G_off (o := { dst := some 85, op := Op.move (Operand.tmp 12), type := 3, pos := "law.go:88", after := #[{ on := 8, ground := Ground.guard }], guard := some (8, true) }) (by rfl) ?_ ?_
                            · kernel_rfl
                            try simp only [Act.put, List.setIfInBounds_toArray, List.set_cons_zero, List.set_cons_succ]
                            refine Reg.G_off (o := { dst := some 86, op := Op.indexAddr 51 (Operand.tmp 84) (Operand.tmp 85), type := 0, pos := "law.go:88", after := #[{ on := 9, ground := Ground.data }, { on := 10, ground := Ground.data }, { on := 8, ground := Ground.guard }], guard := some (8, true) }) (by rfl) ?_ ?_
                            · kernel_rfl
                            try simp only [Act.put, List.setIfInBounds_toArray, List.set_cons_zero, List.set_cons_succ]
                            refine Reg.G_off (o := { dst := some 87, op := Op.fieldAddr 62 (Operand.tmp 86) 2, type := 0, pos := "law.go:88", after := #[{ on := 11, ground := Ground.data }, { on := 8, ground := Ground.guard }], guard := some (8, true) }) (by rfl) ?_ ?_
                            · kernel_rfl
                            try simp only [Act.put, List.setIfInBounds_toArray, List.set_cons_zero, List.set_cons_succ]
                            refine Reg.G_off (o := { dst := some 88, op := Op.load 58 (Operand.tmp 87), type := 58, pos := "law.go:88", after := #[{ on := 12, ground := Ground.data }, { on := 8, ground := Ground.guard }], guard := some (8, true) }) (by rfl) ?_ ?_
                            · kernel_rfl
                            try simp only [Act.put, List.setIfInBounds_toArray, List.set_cons_zero, List.set_cons_succ]
                            refine Reg.G_off (o := { dst := some 89, op := Op.move (Operand.tmp 1), type := 51, pos := "law.go:88", after := #[{ on := 8, ground := Ground.guard }], guard := some (8, true) }) (by rfl) ?_ ?_
                            · kernel_rfl
                            try simp only [Act.put, List.setIfInBounds_toArray, List.set_cons_zero, List.set_cons_succ]
                            refine Reg.G_off (o := { dst := some 90, op := Op.move (Operand.tmp 9), type := 3, pos := "law.go:88", after := #[{ on := 8, ground := Ground.guard }], guard := some (8, true) }) (by rfl) ?_ ?_
                            · kernel_rfl
                            try simp only [Act.put, List.setIfInBounds_toArray, List.set_cons_zero, List.set_cons_succ]
                            refine Reg.G_off (o := { dst := some 91, op := Op.indexAddr 51 (Operand.tmp 89) (Operand.tmp 90), type := 0, pos := "law.go:88", after := #[{ on := 14, ground := Ground.data }, { on := 15, ground := Ground.data }, { on := 8, ground := Ground.guard }], guard := some (8, true) }) (by rfl) ?_ ?_
                            · kernel_rfl
                            try simp only [Act.put, List.setIfInBounds_toArray, List.set_cons_zero, List.set_cons_succ]
                            refine Reg.G_off (o := { dst := some 92, op := Op.fieldAddr 62 (Operand.tmp 91) 1, type := 0, pos := "law.go:88", after := #[{ on := 16, ground := Ground.data }, { on := 8, ground := Ground.guard }], guard := some (8, true) }) (by rfl) ?_ ?_
                            · kernel_rfl
                            try simp only [Act.put, List.setIfInBounds_toArray, List.set_cons_zero, List.set_cons_succ]
                            refine Reg.G_off (o := { dst := some 93, op := Op.fieldAddr 60 (Operand.tmp 92) 2, type := 0, pos := "law.go:88", after := #[{ on := 17, ground := Ground.data }, { on := 8, ground := Ground.guard }], guard := some (8, true) }) (by rfl) ?_ ?_
                            · kernel_rfl
                            try simp only [Act.put, List.setIfInBounds_toArray, List.set_cons_zero, List.set_cons_succ]
                            refine Reg.G_off (o := { dst := some 94, op := Op.load 58 (Operand.tmp 93), type := 58, pos := "law.go:88", after := #[{ on := 18, ground := Ground.data }, { on := 8, ground := Ground.guard }], guard := some (8, true) }) (by rfl) ?_ ?_
                            · kernel_rfl
                            try simp only [Act.put, List.setIfInBounds_toArray, List.set_cons_zero, List.set_cons_succ]
                            refine Reg.G_off (o := { dst := some 95, op := Op.move (Operand.tmp 1), type := 51, pos := "law.go:88", after := #[{ on := 8, ground := Ground.guard }], guard := some (8, true) }) (by rfl) ?_ ?_
                            · kernel_rfl
                            try simp only [Act.put, List.setIfInBounds_toArray, List.set_cons_zero, List.set_cons_succ]
                            refine Reg.G_off (o := { dst := some 96, op := Op.move (Operand.tmp 12), type := 3, pos := "law.go:88", after := #[{ on := 8, ground := Ground.guard }], guard := some (8, true) }) (by rfl) ?_ ?_
                            · kernel_rfl
                            try simp only [Act.put, List.setIfInBounds_toArray, List.set_cons_zero, List.set_cons_succ]
                            refine Reg.G_off (o := { dst := some 97, op := Op.indexAddr 51 (Operand.tmp 95) (Operand.tmp 96), type := 0, pos := "law.go:88", after := #[{ on := 20, ground := Ground.data }, { on := 21, ground := Ground.data }, { on := 8, ground := Ground.guard }], guard := some (8, true) }) (by rfl) ?_ ?_
                            · kernel_rfl
                            try simp only [Act.put, List.setIfInBounds_toArray, List.set_cons_zero, List.set_cons_succ]
                            refine Reg.G_off (o := { dst := some 98, op := Op.fieldAddr 62 (Operand.tmp 97) 3, type := 0, pos := "law.go:88", after := #[{ on := 22, ground := Ground.data }, { on := 8, ground := Ground.guard }], guard := some (8, true) }) (by rfl) ?_ ?_
                            · kernel_rfl
                            try simp only [Act.put, List.setIfInBounds_toArray, List.set_cons_zero, List.set_cons_succ]
                            refine Reg.G_off (o := { dst := some 99, op := Op.load 3 (Operand.tmp 98), type := 3, pos := "law.go:88", after := #[{ on := 23, ground := Ground.data }, { on := 8, ground := Ground.guard }], guard := some (8, true) }) (by rfl) ?_ ?_
                            · kernel_rfl
                            try simp only [Act.put, List.setIfInBounds_toArray, List.set_cons_zero, List.set_cons_succ]
                            refine Reg.G_skip (o := { dst := some 100, op := Op.call { callee := Callee.value (Operand.func 40), args := #[Operand.tmp 88, Operand.tmp 94, Operand.tmp 99], argTypes := #[58, 58, 3] }, type := 4, pos := "law.go:88", after := #[{ on := 13, ground := Ground.data }, { on := 19, ground := Ground.data }, { on := 24, ground := Ground.data }, { on := 8, ground := Ground.chain }, { on := 8, ground := Ground.guard }], guard := some (8, true) }) (by rfl) ?_ (by assumption) ?_
                            · kernel_rfl
                            try simp only [Act.put, List.setIfInBounds_toArray, List.set_cons_zero, List.set_cons_succ]
                            refine Reg.G_off (o := { dst := some 101, op := Op.pick (Operand.tmp 83) (Operand.tmp 100) (Operand.const (Value.bool false)), type := 4, pos := "law.go:88", after := #[{ on := 8, ground := Ground.data }, { on := 25, ground := Ground.data }, { on := 1, ground := Ground.guard }], guard := some (1, false) }) (by rfl) ?_ ?_
                            · kernel_rfl
                            try simp only [Act.put, List.setIfInBounds_toArray, List.set_cons_zero, List.set_cons_succ]
                            refine Reg.G_on (o := { dst := some 102, op := Op.pick (Operand.tmp 76) (Operand.const (Value.bool true)) (Operand.tmp 101), type := 4, pos := "law.go:88", after := #[{ on := 1, ground := Ground.data }, { on := 26, ground := Ground.data }], guard := Option.none }) (v := ?_) (by rfl) ?_ (fun wS hSw => ?_) ?_
                            rotate_left
                            · kernel_rfl
                            · (try dsimp only at hSw); go_simp; (try with_reducible rfl)
                            try simp only [Act.put, List.setIfInBounds_toArray, List.set_cons_zero, List.set_cons_succ]
                            refine Reg.G_on (o := { dst := some 11, op := Op.assign (Operand.tmp 102), type := 4, pos := "law.go:88", after := #[{ on := 27, ground := Ground.data }, { on := 25, ground := Ground.chain }, { on := 0, ground := Ground.phase }, { on := 1, ground := Ground.phase }, { on := 2, ground := Ground.phase }, { on := 3, ground := Ground.phase }, { on := 4, ground := Ground.phase }, { on := 5, ground := Ground.phase }, { on := 6, ground := Ground.phase }, { on := 7, ground := Ground.phase }, { on := 8, ground := Ground.phase }, { on := 9, ground := Ground.phase }, { on := 10, ground := Ground.phase }, { on := 11, ground := Ground.phase }, { on := 12, ground := Ground.phase }, { on := 13, ground := Ground.phase }, { on := 14, ground := Ground.phase }, { on := 15, ground := Ground.phase }, { on := 16, ground := Ground.phase }, { on := 17, ground := Ground.phase }, { on := 18, ground := Ground.phase }, { on := 19, ground := Ground.phase }, { on := 20, ground := Ground.phase }, { on := 21, ground := Ground.phase }, { on := 22, ground := Ground.phase }, { on := 23, ground := Ground.phase }, { on := 24, ground := Ground.phase }, { on := 25, ground := Ground.phase }, { on := 26, ground := Ground.phase }, { on := 27, ground := Ground.phase }], guard := Option.none }) (v := ?_) (by rfl) ?_ (fun wS hSw => ?_) ?_
                            rotate_left
                            · kernel_rfl
                            · (try dsimp only at hSw); go_simp; (try with_reducible rfl)
                            try simp only [Act.put, List.setIfInBounds_toArray, List.set_cons_zero, List.set_cons_succ]
                            refine Reg.G_done ?_
                            clear hHeld
                            go_wp2
                            try rw [hwm2]
                            exact ⟨⟨j + 1, m + 1, L, true, rfl, rfl, rfl, Lib.hid ⟨by have := hm.out; omega, by have := hm.out; omega, by rw [hsg.out, later_snoc, ← hm.out.2.2.1, MT.out]; rfl, by rw [hsg.out, gone_snoc, ← hm.out.2.2.2, Bool.true_or]; skip⟩, bw.drew⟩, measM i m hmi2.out⟩
                          | false =>
                            by_cases hlf : 0 < y.life
                            · have C3 := Clock.over_u y.now x.s.frame y.life wr.drew (wf_u64 hgd.1).2 (wf_u64 x.s.good.2.2.1).1 (wf_i64 hgd.2).1 (wf_i64 hgd.2).2
                              have HT2 : Hid (hits x.s y = Clock.over y.now x.s.frame y.life) := Lib.hid (by rw [HT.out, decide_eq_true hlf, Bool.true_and])
                              generalize Clock.over y.now x.s.frame y.life = ov at C3 HT2
                              generalize y.now = now at *
                              generalize y.life = life at *
                              generalize x.s.frame = fr at *
                              clear hgd hya HT
                              go_wp2_with fail
                              refine Reg.wp_plan (S := fun w' => w'.cell? ⟨(ad.add (m * 26)).block, (ad.add (m * 26)).off + 24, none⟩ = some (.int .u64 now) ∧ w'.cell? ⟨(ad.add (m * 26)).block, (ad.add (m * 26)).off + 25, none⟩ = some (.int .i64 life) ∧ w'.cell? ⟨(ad.add (q * 26)).block, (ad.add (q * 26)).off + 1 + 2, none⟩ = some (.int .u64 fr)) 29 (.fl 0 (.fl 1 (.fl 2 (.fl 3 (.fl 4 (.fl 5 (.fl 6 (.fl 7 (.fl 8 (.fl 9 (.fl 10 (.fl 11 (.fl 12 (.fl 13 (.fl 14 (.fl 15 (.fl 16 (.fl 17 (.fl 18 (.fl 19 (.fl 20 (.fl 21 (.fl 22 (.fl 23 (.fl 24 (.one 25 (.fl 26 (.fl 27 (.fl 28 .done))))))))))))))))))))))))))))) (by kernel_rfl) (by kernel_rfl) (by kernel_rfl) (by kernel_rfl) (fun _ _ _ d _ h => by cases d <;> exact h) ?_ (fun hHeld => ?_)
                              · exact ⟨by simpa using y2, by simpa using y3, by simpa using x2⟩
                              refine Reg.G_on (o := { dst := some 75, op := Op.move (Operand.tmp 11), type := 4, pos := "law.go:88", after := #[], guard := Option.none }) (v := ?_) (by rfl) ?_ (fun wS hSw => ?_) ?_
                              rotate_left
                              · kernel_rfl
                              · (try dsimp only at hSw); go_simp; (try with_reducible rfl)
                              try simp only [Act.put, List.setIfInBounds_toArray, List.set_cons_zero, List.set_cons_succ]
                              refine Reg.G_on (o := { dst := some 76, op := Op.move (Operand.tmp 75), type := 4, pos := "law.go:88", after := #[{ on := 0, ground := Ground.data }], guard := Option.none }) (v := ?_) (by rfl) ?_ (fun wS hSw => ?_) ?_
                              rotate_left
                              · kernel_rfl
                              · (try dsimp only at hSw); go_simp; (try with_reducible rfl)
                              try simp only [Act.put, List.setIfInBounds_toArray, List.set_cons_zero, List.set_cons_succ]
                              refine Reg.G_on (o := { dst := some 77, op := Op.move (Operand.tmp 1), type := 51, pos := "law.go:88", after := #[{ on := 1, ground := Ground.guard }], guard := some (1, false) }) (v := ?_) (by rfl) ?_ (fun wS hSw => ?_) ?_
                              rotate_left
                              · kernel_rfl
                              · (try dsimp only at hSw); go_simp; (try with_reducible rfl)
                              try simp only [Act.put, List.setIfInBounds_toArray, List.set_cons_zero, List.set_cons_succ]
                              refine Reg.G_on (o := { dst := some 78, op := Op.move (Operand.tmp 12), type := 3, pos := "law.go:88", after := #[{ on := 1, ground := Ground.guard }], guard := some (1, false) }) (v := ?_) (by rfl) ?_ (fun wS hSw => ?_) ?_
                              rotate_left
                              · kernel_rfl
                              · (try dsimp only at hSw); go_simp; (try with_reducible rfl)
                              try simp only [Act.put, List.setIfInBounds_toArray, List.set_cons_zero, List.set_cons_succ]
                              refine Reg.G_on (o := { dst := some 79, op := Op.indexAddr 51 (Operand.tmp 77) (Operand.tmp 78), type := 0, pos := "law.go:88", after := #[{ on := 2, ground := Ground.data }, { on := 3, ground := Ground.data }, { on := 1, ground := Ground.guard }], guard := some (1, false) }) (v := ?_) (by rfl) ?_ (fun wS hSw => ?_) ?_
                              rotate_left
                              · kernel_rfl
                              · (try dsimp only at hSw); go_simp; (try with_reducible rfl)
                              try simp only [Act.put, List.setIfInBounds_toArray, List.set_cons_zero, List.set_cons_succ]
                              refine Reg.G_on (o := { dst := some 80, op := Op.fieldAddr 62 (Operand.tmp 79) 3, type := 0, pos := "law.go:88", after := #[{ on := 4, ground := Ground.data }, { on := 1, ground := Ground.guard }], guard := some (1, false) }) (v := ?_) (by rfl) ?_ (fun wS hSw => ?_) ?_
                              rotate_left
                              · kernel_rfl
                              · (try dsimp only at hSw); go_simp; (try with_reducible rfl)
                              try simp only [Act.put, List.setIfInBounds_toArray, List.set_cons_zero, List.set_cons_succ]
                              refine Reg.G_on (o := { dst := some 81, op := Op.load 3 (Operand.tmp 80), type := 3, pos := "law.go:88", after := #[{ on := 5, ground := Ground.data }, { on := 1, ground := Ground.guard }], guard := some (1, false) }) (v := ?_) (by rfl) ?_ (fun wS hSw => ?_) ?_
                              rotate_left
                              · kernel_rfl
                              · (try dsimp only at hSw); go_simp; (try with_reducible rfl)
                              try simp only [Act.put, List.setIfInBounds_toArray, List.set_cons_zero, List.set_cons_succ]
                              refine Reg.G_on (o := { dst := some 82, op := Op.binOp BinOp.gtr 3 (Operand.tmp 81) (Operand.const (Value.int IntKind.i64 0)) 3, type := 4, pos := "law.go:88", after := #[{ on := 6, ground := Ground.data }, { on := 1, ground := Ground.guard }], guard := some (1, false) }) (v := ?_) (by rfl) ?_ (fun wS hSw => ?_) ?_
                              rotate_left
                              · kernel_rfl
                              · (try dsimp only at hSw); go_simp; (try with_reducible rfl)
                              try simp only [Act.put, List.setIfInBounds_toArray, List.set_cons_zero, List.set_cons_succ]
                              refine Reg.G_on (o := { dst := some 83, op := Op.move (Operand.tmp 82), type := 4, pos := "law.go:88", after := #[{ on := 7, ground := Ground.data }, { on := 1, ground := Ground.chain }, { on := 1, ground := Ground.guard }], guard := some (1, false) }) (v := ?_) (by rfl) ?_ (fun wS hSw => ?_) ?_
                              rotate_left
                              · kernel_rfl
                              · (try dsimp only at hSw); go_simp; (try with_reducible rfl)
                              try simp only [Act.put, List.setIfInBounds_toArray, List.set_cons_zero, List.set_cons_succ]
                              refine Reg.G_on (o := { dst := some 84, op := Op.move (Operand.tmp 1), type := 51, pos := "law.go:88", after := #[{ on := 8, ground := Ground.guard }], guard := some (8, true) }) (v := ?_) (by rfl) ?_ (fun wS hSw => ?_) ?_
                              rotate_left
                              · kernel_rfl
                              · (try dsimp only at hSw); go_simp; (try with_reducible rfl)
                              try simp only [Act.put, List.setIfInBounds_toArray, List.set_cons_zero, List.set_cons_succ]
                              refine Reg.G_on (o := { dst := some 85, op := Op.move (Operand.tmp 12), type := 3, pos := "law.go:88", after := #[{ on := 8, ground := Ground.guard }], guard := some (8, true) }) (v := ?_) (by rfl) ?_ (fun wS hSw => ?_) ?_
                              rotate_left
                              · kernel_rfl
                              · (try dsimp only at hSw); go_simp; (try with_reducible rfl)
                              try simp only [Act.put, List.setIfInBounds_toArray, List.set_cons_zero, List.set_cons_succ]
                              refine Reg.G_on (o := { dst := some 86, op := Op.indexAddr 51 (Operand.tmp 84) (Operand.tmp 85), type := 0, pos := "law.go:88", after := #[{ on := 9, ground := Ground.data }, { on := 10, ground := Ground.data }, { on := 8, ground := Ground.guard }], guard := some (8, true) }) (v := ?_) (by rfl) ?_ (fun wS hSw => ?_) ?_
                              rotate_left
                              · kernel_rfl
                              · (try dsimp only at hSw); go_simp; (try with_reducible rfl)
                              try simp only [Act.put, List.setIfInBounds_toArray, List.set_cons_zero, List.set_cons_succ]
                              refine Reg.G_on (o := { dst := some 87, op := Op.fieldAddr 62 (Operand.tmp 86) 2, type := 0, pos := "law.go:88", after := #[{ on := 11, ground := Ground.data }, { on := 8, ground := Ground.guard }], guard := some (8, true) }) (v := ?_) (by rfl) ?_ (fun wS hSw => ?_) ?_
                              rotate_left
                              · kernel_rfl
                              · (try dsimp only at hSw); go_simp; (try with_reducible rfl)
                              try simp only [Act.put, List.setIfInBounds_toArray, List.set_cons_zero, List.set_cons_succ]
                              refine Reg.G_on (o := { dst := some 88, op := Op.load 58 (Operand.tmp 87), type := 58, pos := "law.go:88", after := #[{ on := 12, ground := Ground.data }, { on := 8, ground := Ground.guard }], guard := some (8, true) }) (v := ?_) (by rfl) ?_ (fun wS hSw => ?_) ?_
                              rotate_left
                              · kernel_rfl
                              · (try dsimp only at hSw); go_simp; (try with_reducible rfl)
                              try simp only [Act.put, List.setIfInBounds_toArray, List.set_cons_zero, List.set_cons_succ]
                              refine Reg.G_on (o := { dst := some 89, op := Op.move (Operand.tmp 1), type := 51, pos := "law.go:88", after := #[{ on := 8, ground := Ground.guard }], guard := some (8, true) }) (v := ?_) (by rfl) ?_ (fun wS hSw => ?_) ?_
                              rotate_left
                              · kernel_rfl
                              · (try dsimp only at hSw); go_simp; (try with_reducible rfl)
                              try simp only [Act.put, List.setIfInBounds_toArray, List.set_cons_zero, List.set_cons_succ]
                              refine Reg.G_on (o := { dst := some 90, op := Op.move (Operand.tmp 9), type := 3, pos := "law.go:88", after := #[{ on := 8, ground := Ground.guard }], guard := some (8, true) }) (v := ?_) (by rfl) ?_ (fun wS hSw => ?_) ?_
                              rotate_left
                              · kernel_rfl
                              · (try dsimp only at hSw); go_simp; (try with_reducible rfl)
                              try simp only [Act.put, List.setIfInBounds_toArray, List.set_cons_zero, List.set_cons_succ]
                              refine Reg.G_on (o := { dst := some 91, op := Op.indexAddr 51 (Operand.tmp 89) (Operand.tmp 90), type := 0, pos := "law.go:88", after := #[{ on := 14, ground := Ground.data }, { on := 15, ground := Ground.data }, { on := 8, ground := Ground.guard }], guard := some (8, true) }) (v := ?_) (by rfl) ?_ (fun wS hSw => ?_) ?_
                              rotate_left
                              · kernel_rfl
                              · (try dsimp only at hSw); go_simp; (try with_reducible rfl)
                              try simp only [Act.put, List.setIfInBounds_toArray, List.set_cons_zero, List.set_cons_succ]
                              refine Reg.G_on (o := { dst := some 92, op := Op.fieldAddr 62 (Operand.tmp 91) 1, type := 0, pos := "law.go:88", after := #[{ on := 16, ground := Ground.data }, { on := 8, ground := Ground.guard }], guard := some (8, true) }) (v := ?_) (by rfl) ?_ (fun wS hSw => ?_) ?_
                              rotate_left
                              · kernel_rfl
                              · (try dsimp only at hSw); go_simp; (try with_reducible rfl)
                              try simp only [Act.put, List.setIfInBounds_toArray, List.set_cons_zero, List.set_cons_succ]
                              refine Reg.G_on (o := { dst := some 93, op := Op.fieldAddr 60 (Operand.tmp 92) 2, type := 0, pos := "law.go:88", after := #[{ on := 17, ground := Ground.data }, { on := 8, ground := Ground.guard }], guard := some (8, true) }) (v := ?_) (by rfl) ?_ (fun wS hSw => ?_) ?_
                              rotate_left
                              · kernel_rfl
                              · (try dsimp only at hSw); go_simp; (try with_reducible rfl)
                              try simp only [Act.put, List.setIfInBounds_toArray, List.set_cons_zero, List.set_cons_succ]
                              refine Reg.G_on (o := { dst := some 94, op := Op.load 58 (Operand.tmp 93), type := 58, pos := "law.go:88", after := #[{ on := 18, ground := Ground.data }, { on := 8, ground := Ground.guard }], guard := some (8, true) }) (v := ?_) (by rfl) ?_ (fun wS hSw => ?_) ?_
                              rotate_left
                              · kernel_rfl
                              · (try dsimp only at hSw); go_simp; (try with_reducible rfl)
                              try simp only [Act.put, List.setIfInBounds_toArray, List.set_cons_zero, List.set_cons_succ]
                              refine Reg.G_on (o := { dst := some 95, op := Op.move (Operand.tmp 1), type := 51, pos := "law.go:88", after := #[{ on := 8, ground := Ground.guard }], guard := some (8, true) }) (v := ?_) (by rfl) ?_ (fun wS hSw => ?_) ?_
                              rotate_left
                              · kernel_rfl
                              · (try dsimp only at hSw); go_simp; (try with_reducible rfl)
                              try simp only [Act.put, List.setIfInBounds_toArray, List.set_cons_zero, List.set_cons_succ]
                              refine Reg.G_on (o := { dst := some 96, op := Op.move (Operand.tmp 12), type := 3, pos := "law.go:88", after := #[{ on := 8, ground := Ground.guard }], guard := some (8, true) }) (v := ?_) (by rfl) ?_ (fun wS hSw => ?_) ?_
                              rotate_left
                              · kernel_rfl
                              · (try dsimp only at hSw); go_simp; (try with_reducible rfl)
                              try simp only [Act.put, List.setIfInBounds_toArray, List.set_cons_zero, List.set_cons_succ]
                              refine Reg.G_on (o := { dst := some 97, op := Op.indexAddr 51 (Operand.tmp 95) (Operand.tmp 96), type := 0, pos := "law.go:88", after := #[{ on := 20, ground := Ground.data }, { on := 21, ground := Ground.data }, { on := 8, ground := Ground.guard }], guard := some (8, true) }) (v := ?_) (by rfl) ?_ (fun wS hSw => ?_) ?_
                              rotate_left
                              · kernel_rfl
                              · (try dsimp only at hSw); go_simp; (try with_reducible rfl)
                              try simp only [Act.put, List.setIfInBounds_toArray, List.set_cons_zero, List.set_cons_succ]
                              refine Reg.G_on (o := { dst := some 98, op := Op.fieldAddr 62 (Operand.tmp 97) 3, type := 0, pos := "law.go:88", after := #[{ on := 22, ground := Ground.data }, { on := 8, ground := Ground.guard }], guard := some (8, true) }) (v := ?_) (by rfl) ?_ (fun wS hSw => ?_) ?_
                              rotate_left
                              · kernel_rfl
                              · (try dsimp only at hSw); go_simp; (try with_reducible rfl)
                              try simp only [Act.put, List.setIfInBounds_toArray, List.set_cons_zero, List.set_cons_succ]
                              refine Reg.G_on (o := { dst := some 99, op := Op.load 3 (Operand.tmp 98), type := 3, pos := "law.go:88", after := #[{ on := 23, ground := Ground.data }, { on := 8, ground := Ground.guard }], guard := some (8, true) }) (v := ?_) (by rfl) ?_ (fun wS hSw => ?_) ?_
                              rotate_left
                              · kernel_rfl
                              · (try dsimp only at hSw); go_simp; (try with_reducible rfl)
                              try simp only [Act.put, List.setIfInBounds_toArray, List.set_cons_zero, List.set_cons_succ]
                              refine Reg.G_step (o := { dst := some 100, op := Op.call { callee := Callee.value (Operand.func 40), args := #[Operand.tmp 88, Operand.tmp 94, Operand.tmp 99], argTypes := #[58, 58, 3] }, type := 4, pos := "law.go:88", after := #[{ on := 13, ground := Ground.data }, { on := 19, ground := Ground.data }, { on := 24, ground := Ground.data }, { on := 8, ground := Ground.chain }, { on := 8, ground := Ground.guard }], guard := some (8, true) }) (by rfl) ?_ (fun K hK => ?_)
                              · kernel_rfl
                              go_simp
                              refine (C3).mono ?_
                              rintro e w' ⟨rfl, rfl⟩
                              refine hK.out _ _ ?_ (fun hHeld => ?_)
                              · exact ⟨by simpa using y2, by simpa using y3, by simpa using x2⟩
                              clear hK K
                              try simp only [Act.put, List.setIfInBounds_toArray, List.set_cons_zero, List.set_cons_succ]
                              refine Reg.G_on (o := { dst := some 101, op := Op.pick (Operand.tmp 83) (Operand.tmp 100) (Operand.const (Value.bool false)), type := 4, pos := "law.go:88", after := #[{ on := 8, ground := Ground.data }, { on := 25, ground := Ground.data }, { on := 1, ground := Ground.guard }], guard := some (1, false) }) (v := ?_) (by rfl) ?_ (fun wS hSw => ?_) ?_
                              rotate_left
                              · kernel_rfl
                              · (try dsimp only at hSw); go_simp; (try with_reducible rfl)
                              try simp only [Act.put, List.setIfInBounds_toArray, List.set_cons_zero, List.set_cons_succ]
                              refine Reg.G_on (o := { dst := some 102, op := Op.pick (Operand.tmp 76) (Operand.const (Value.bool true)) (Operand.tmp 101), type := 4, pos := "law.go:88", after := #[{ on := 1, ground := Ground.data }, { on := 26, ground := Ground.data }], guard := Option.none }) (v := ?_) (by rfl) ?_ (fun wS hSw => ?_) ?_
                              rotate_left
                              · kernel_rfl
                              · (try dsimp only at hSw); go_simp; (try with_reducible rfl)
                              try simp only [Act.put, List.setIfInBounds_toArray, List.set_cons_zero, List.set_cons_succ]
                              refine Reg.G_on (o := { dst := some 11, op := Op.assign (Operand.tmp 102), type := 4, pos := "law.go:88", after := #[{ on := 27, ground := Ground.data }, { on := 25, ground := Ground.chain }, { on := 0, ground := Ground.phase }, { on := 1, ground := Ground.phase }, { on := 2, ground := Ground.phase }, { on := 3, ground := Ground.phase }, { on := 4, ground := Ground.phase }, { on := 5, ground := Ground.phase }, { on := 6, ground := Ground.phase }, { on := 7, ground := Ground.phase }, { on := 8, ground := Ground.phase }, { on := 9, ground := Ground.phase }, { on := 10, ground := Ground.phase }, { on := 11, ground := Ground.phase }, { on := 12, ground := Ground.phase }, { on := 13, ground := Ground.phase }, { on := 14, ground := Ground.phase }, { on := 15, ground := Ground.phase }, { on := 16, ground := Ground.phase }, { on := 17, ground := Ground.phase }, { on := 18, ground := Ground.phase }, { on := 19, ground := Ground.phase }, { on := 20, ground := Ground.phase }, { on := 21, ground := Ground.phase }, { on := 22, ground := Ground.phase }, { on := 23, ground := Ground.phase }, { on := 24, ground := Ground.phase }, { on := 25, ground := Ground.phase }, { on := 26, ground := Ground.phase }, { on := 27, ground := Ground.phase }], guard := Option.none }) (v := ?_) (by rfl) ?_ (fun wS hSw => ?_) ?_
                              rotate_left
                              · kernel_rfl
                              · (try dsimp only at hSw); go_simp; (try with_reducible rfl)
                              try simp only [Act.put, List.setIfInBounds_toArray, List.set_cons_zero, List.set_cons_succ]
                              refine Reg.G_done ?_
                              clear hHeld
                              go_wp2
                              try rw [hwm2]
                              exact ⟨⟨j + 1, m + 1, L, ov, rfl, rfl, rfl, Lib.hid ⟨by have := hm.out; omega, by have := hm.out; omega, by rw [hsg.out, later_snoc, ← hm.out.2.2.1, MT.out]; rfl, by rw [hsg.out, gone_snoc, ← hm.out.2.2.2, HT2.out]; simp⟩, bw.drew⟩, measM i m hmi2.out⟩
                            · have HT2 : Hid (hits x.s y = false) := Lib.hid (by rw [HT.out, decide_eq_false hlf, Bool.false_and])
                              generalize y.life = life at *
                              have HLF := Lib.hid hlf
                              clear hgd hya HT y2 x2
                              go_wp2_with fail
                              refine Reg.wp_plan (S := fun w' => w'.cell? ⟨(ad.add (m * 26)).block, (ad.add (m * 26)).off + 25, none⟩ = some (.int .i64 life)) 29 (.fl 0 (.fl 1 (.fl 2 (.fl 3 (.fl 4 (.fl 5 (.fl 6 (.fl 7 (.fl 8 (.fl 9 (.fl 10 (.fl 11 (.fl 12 (.fl 13 (.fl 14 (.fl 15 (.fl 16 (.fl 17 (.fl 18 (.fl 19 (.fl 20 (.fl 21 (.fl 22 (.fl 23 (.fl 24 (.one 25 (.fl 26 (.fl 27 (.fl 28 .done))))))))))))))))))))))))))))) (by kernel_rfl) (by kernel_rfl) (by kernel_rfl) (by kernel_rfl) (fun _ _ _ d _ h => by cases d <;> exact h) ?_ (fun hHeld => ?_)
                              · simpa using y3
                              have hlf4 : ¬ 0 < life := by have := HLF.out; omega
                              have hlf5 : decide (0 < life) = false := decide_eq_false hlf4
                              refine Reg.G_on (o := { dst := some 75, op := Op.move (Operand.tmp 11), type := 4, pos := "law.go:88", after := #[], guard := Option.none }) (v := ?_) (by rfl) ?_ (fun wS hSw => ?_) ?_
                              rotate_left
                              · kernel_rfl
                              · (try dsimp only at hSw); go_simp; (try with_reducible rfl)
                              try simp only [Act.put, List.setIfInBounds_toArray, List.set_cons_zero, List.set_cons_succ]
                              refine Reg.G_on (o := { dst := some 76, op := Op.move (Operand.tmp 75), type := 4, pos := "law.go:88", after := #[{ on := 0, ground := Ground.data }], guard := Option.none }) (v := ?_) (by rfl) ?_ (fun wS hSw => ?_) ?_
                              rotate_left
                              · kernel_rfl
                              · (try dsimp only at hSw); go_simp; (try with_reducible rfl)
                              try simp only [Act.put, List.setIfInBounds_toArray, List.set_cons_zero, List.set_cons_succ]
                              refine Reg.G_on (o := { dst := some 77, op := Op.move (Operand.tmp 1), type := 51, pos := "law.go:88", after := #[{ on := 1, ground := Ground.guard }], guard := some (1, false) }) (v := ?_) (by rfl) ?_ (fun wS hSw => ?_) ?_
                              rotate_left
                              · kernel_rfl
                              · (try dsimp only at hSw); go_simp; (try with_reducible rfl)
                              try simp only [Act.put, List.setIfInBounds_toArray, List.set_cons_zero, List.set_cons_succ]
                              refine Reg.G_on (o := { dst := some 78, op := Op.move (Operand.tmp 12), type := 3, pos := "law.go:88", after := #[{ on := 1, ground := Ground.guard }], guard := some (1, false) }) (v := ?_) (by rfl) ?_ (fun wS hSw => ?_) ?_
                              rotate_left
                              · kernel_rfl
                              · (try dsimp only at hSw); go_simp; (try with_reducible rfl)
                              try simp only [Act.put, List.setIfInBounds_toArray, List.set_cons_zero, List.set_cons_succ]
                              refine Reg.G_on (o := { dst := some 79, op := Op.indexAddr 51 (Operand.tmp 77) (Operand.tmp 78), type := 0, pos := "law.go:88", after := #[{ on := 2, ground := Ground.data }, { on := 3, ground := Ground.data }, { on := 1, ground := Ground.guard }], guard := some (1, false) }) (v := ?_) (by rfl) ?_ (fun wS hSw => ?_) ?_
                              rotate_left
                              · kernel_rfl
                              · (try dsimp only at hSw); go_simp; (try with_reducible rfl)
                              try simp only [Act.put, List.setIfInBounds_toArray, List.set_cons_zero, List.set_cons_succ]
                              refine Reg.G_on (o := { dst := some 80, op := Op.fieldAddr 62 (Operand.tmp 79) 3, type := 0, pos := "law.go:88", after := #[{ on := 4, ground := Ground.data }, { on := 1, ground := Ground.guard }], guard := some (1, false) }) (v := ?_) (by rfl) ?_ (fun wS hSw => ?_) ?_
                              rotate_left
                              · kernel_rfl
                              · (try dsimp only at hSw); go_simp; (try with_reducible rfl)
                              try simp only [Act.put, List.setIfInBounds_toArray, List.set_cons_zero, List.set_cons_succ]
                              refine Reg.G_on (o := { dst := some 81, op := Op.load 3 (Operand.tmp 80), type := 3, pos := "law.go:88", after := #[{ on := 5, ground := Ground.data }, { on := 1, ground := Ground.guard }], guard := some (1, false) }) (v := ?_) (by rfl) ?_ (fun wS hSw => ?_) ?_
                              rotate_left
                              · kernel_rfl
                              · (try dsimp only at hSw); go_simp; (try with_reducible rfl)
                              try simp only [Act.put, List.setIfInBounds_toArray, List.set_cons_zero, List.set_cons_succ]
                              refine Reg.G_on (o := { dst := some 82, op := Op.binOp BinOp.gtr 3 (Operand.tmp 81) (Operand.const (Value.int IntKind.i64 0)) 3, type := 4, pos := "law.go:88", after := #[{ on := 6, ground := Ground.data }, { on := 1, ground := Ground.guard }], guard := some (1, false) }) (v := ?_) (by rfl) ?_ (fun wS hSw => ?_) ?_
                              rotate_left
                              · kernel_rfl
                              · (try dsimp only at hSw); go_simp; (try with_reducible rfl)
                              try simp only [Act.put, List.setIfInBounds_toArray, List.set_cons_zero, List.set_cons_succ]
                              refine Reg.G_on (o := { dst := some 83, op := Op.move (Operand.tmp 82), type := 4, pos := "law.go:88", after := #[{ on := 7, ground := Ground.data }, { on := 1, ground := Ground.chain }, { on := 1, ground := Ground.guard }], guard := some (1, false) }) (v := ?_) (by rfl) ?_ (fun wS hSw => ?_) ?_
                              rotate_left
                              · kernel_rfl
                              · (try dsimp only at hSw); go_simp; (try with_reducible rfl)
                              try simp only [Act.put, List.setIfInBounds_toArray, List.set_cons_zero, List.set_cons_succ]
                              refine Reg.G_off (o := { dst := some 84, op := Op.move (Operand.tmp 1), type := 51, pos := "law.go:88", after := #[{ on := 8, ground := Ground.guard }], guard := some (8, true) }) (by rfl) ?_ ?_
                              · kernel_rfl
                              try simp only [Act.put, List.setIfInBounds_toArray, List.set_cons_zero, List.set_cons_succ]
                              refine Reg.G_off (o := { dst := some 85, op := Op.move (Operand.tmp 12), type := 3, pos := "law.go:88", after := #[{ on := 8, ground := Ground.guard }], guard := some (8, true) }) (by rfl) ?_ ?_
                              · kernel_rfl
                              try simp only [Act.put, List.setIfInBounds_toArray, List.set_cons_zero, List.set_cons_succ]
                              refine Reg.G_off (o := { dst := some 86, op := Op.indexAddr 51 (Operand.tmp 84) (Operand.tmp 85), type := 0, pos := "law.go:88", after := #[{ on := 9, ground := Ground.data }, { on := 10, ground := Ground.data }, { on := 8, ground := Ground.guard }], guard := some (8, true) }) (by rfl) ?_ ?_
                              · kernel_rfl
                              try simp only [Act.put, List.setIfInBounds_toArray, List.set_cons_zero, List.set_cons_succ]
                              refine Reg.G_off (o := { dst := some 87, op := Op.fieldAddr 62 (Operand.tmp 86) 2, type := 0, pos := "law.go:88", after := #[{ on := 11, ground := Ground.data }, { on := 8, ground := Ground.guard }], guard := some (8, true) }) (by rfl) ?_ ?_
                              · kernel_rfl
                              try simp only [Act.put, List.setIfInBounds_toArray, List.set_cons_zero, List.set_cons_succ]
                              refine Reg.G_off (o := { dst := some 88, op := Op.load 58 (Operand.tmp 87), type := 58, pos := "law.go:88", after := #[{ on := 12, ground := Ground.data }, { on := 8, ground := Ground.guard }], guard := some (8, true) }) (by rfl) ?_ ?_
                              · kernel_rfl
                              try simp only [Act.put, List.setIfInBounds_toArray, List.set_cons_zero, List.set_cons_succ]
                              refine Reg.G_off (o := { dst := some 89, op := Op.move (Operand.tmp 1), type := 51, pos := "law.go:88", after := #[{ on := 8, ground := Ground.guard }], guard := some (8, true) }) (by rfl) ?_ ?_
                              · kernel_rfl
                              try simp only [Act.put, List.setIfInBounds_toArray, List.set_cons_zero, List.set_cons_succ]
                              refine Reg.G_off (o := { dst := some 90, op := Op.move (Operand.tmp 9), type := 3, pos := "law.go:88", after := #[{ on := 8, ground := Ground.guard }], guard := some (8, true) }) (by rfl) ?_ ?_
                              · kernel_rfl
                              try simp only [Act.put, List.setIfInBounds_toArray, List.set_cons_zero, List.set_cons_succ]
                              refine Reg.G_off (o := { dst := some 91, op := Op.indexAddr 51 (Operand.tmp 89) (Operand.tmp 90), type := 0, pos := "law.go:88", after := #[{ on := 14, ground := Ground.data }, { on := 15, ground := Ground.data }, { on := 8, ground := Ground.guard }], guard := some (8, true) }) (by rfl) ?_ ?_
                              · kernel_rfl
                              try simp only [Act.put, List.setIfInBounds_toArray, List.set_cons_zero, List.set_cons_succ]
                              refine Reg.G_off (o := { dst := some 92, op := Op.fieldAddr 62 (Operand.tmp 91) 1, type := 0, pos := "law.go:88", after := #[{ on := 16, ground := Ground.data }, { on := 8, ground := Ground.guard }], guard := some (8, true) }) (by rfl) ?_ ?_
                              · kernel_rfl
                              try simp only [Act.put, List.setIfInBounds_toArray, List.set_cons_zero, List.set_cons_succ]
                              refine Reg.G_off (o := { dst := some 93, op := Op.fieldAddr 60 (Operand.tmp 92) 2, type := 0, pos := "law.go:88", after := #[{ on := 17, ground := Ground.data }, { on := 8, ground := Ground.guard }], guard := some (8, true) }) (by rfl) ?_ ?_
                              · kernel_rfl
                              try simp only [Act.put, List.setIfInBounds_toArray, List.set_cons_zero, List.set_cons_succ]
                              refine Reg.G_off (o := { dst := some 94, op := Op.load 58 (Operand.tmp 93), type := 58, pos := "law.go:88", after := #[{ on := 18, ground := Ground.data }, { on := 8, ground := Ground.guard }], guard := some (8, true) }) (by rfl) ?_ ?_
                              · kernel_rfl
                              try simp only [Act.put, List.setIfInBounds_toArray, List.set_cons_zero, List.set_cons_succ]
                              refine Reg.G_off (o := { dst := some 95, op := Op.move (Operand.tmp 1), type := 51, pos := "law.go:88", after := #[{ on := 8, ground := Ground.guard }], guard := some (8, true) }) (by rfl) ?_ ?_
                              · kernel_rfl
                              try simp only [Act.put, List.setIfInBounds_toArray, List.set_cons_zero, List.set_cons_succ]
                              refine Reg.G_off (o := { dst := some 96, op := Op.move (Operand.tmp 12), type := 3, pos := "law.go:88", after := #[{ on := 8, ground := Ground.guard }], guard := some (8, true) }) (by rfl) ?_ ?_
                              · kernel_rfl
                              try simp only [Act.put, List.setIfInBounds_toArray, List.set_cons_zero, List.set_cons_succ]
                              refine Reg.G_off (o := { dst := some 97, op := Op.indexAddr 51 (Operand.tmp 95) (Operand.tmp 96), type := 0, pos := "law.go:88", after := #[{ on := 20, ground := Ground.data }, { on := 21, ground := Ground.data }, { on := 8, ground := Ground.guard }], guard := some (8, true) }) (by rfl) ?_ ?_
                              · kernel_rfl
                              try simp only [Act.put, List.setIfInBounds_toArray, List.set_cons_zero, List.set_cons_succ]
                              refine Reg.G_off (o := { dst := some 98, op := Op.fieldAddr 62 (Operand.tmp 97) 3, type := 0, pos := "law.go:88", after := #[{ on := 22, ground := Ground.data }, { on := 8, ground := Ground.guard }], guard := some (8, true) }) (by rfl) ?_ ?_
                              · kernel_rfl
                              try simp only [Act.put, List.setIfInBounds_toArray, List.set_cons_zero, List.set_cons_succ]
                              refine Reg.G_off (o := { dst := some 99, op := Op.load 3 (Operand.tmp 98), type := 3, pos := "law.go:88", after := #[{ on := 23, ground := Ground.data }, { on := 8, ground := Ground.guard }], guard := some (8, true) }) (by rfl) ?_ ?_
                              · kernel_rfl
                              try simp only [Act.put, List.setIfInBounds_toArray, List.set_cons_zero, List.set_cons_succ]
                              refine Reg.G_skip (o := { dst := some 100, op := Op.call { callee := Callee.value (Operand.func 40), args := #[Operand.tmp 88, Operand.tmp 94, Operand.tmp 99], argTypes := #[58, 58, 3] }, type := 4, pos := "law.go:88", after := #[{ on := 13, ground := Ground.data }, { on := 19, ground := Ground.data }, { on := 24, ground := Ground.data }, { on := 8, ground := Ground.chain }, { on := 8, ground := Ground.guard }], guard := some (8, true) }) (by rfl) ?_ (by assumption) ?_
                              · kernel_rfl
                              try simp only [Act.put, List.setIfInBounds_toArray, List.set_cons_zero, List.set_cons_succ]
                              refine Reg.G_on (o := { dst := some 101, op := Op.pick (Operand.tmp 83) (Operand.tmp 100) (Operand.const (Value.bool false)), type := 4, pos := "law.go:88", after := #[{ on := 8, ground := Ground.data }, { on := 25, ground := Ground.data }, { on := 1, ground := Ground.guard }], guard := some (1, false) }) (v := ?_) (by rfl) ?_ (fun wS hSw => ?_) ?_
                              rotate_left
                              · kernel_rfl
                              · (try dsimp only at hSw); go_simp; (try with_reducible rfl)
                              try simp only [Act.put, List.setIfInBounds_toArray, List.set_cons_zero, List.set_cons_succ]
                              refine Reg.G_on (o := { dst := some 102, op := Op.pick (Operand.tmp 76) (Operand.const (Value.bool true)) (Operand.tmp 101), type := 4, pos := "law.go:88", after := #[{ on := 1, ground := Ground.data }, { on := 26, ground := Ground.data }], guard := Option.none }) (v := ?_) (by rfl) ?_ (fun wS hSw => ?_) ?_
                              rotate_left
                              · kernel_rfl
                              · (try dsimp only at hSw); go_simp; (try with_reducible rfl)
                              try simp only [Act.put, List.setIfInBounds_toArray, List.set_cons_zero, List.set_cons_succ]
                              refine Reg.G_on (o := { dst := some 11, op := Op.assign (Operand.tmp 102), type := 4, pos := "law.go:88", after := #[{ on := 27, ground := Ground.data }, { on := 25, ground := Ground.chain }, { on := 0, ground := Ground.phase }, { on := 1, ground := Ground.phase }, { on := 2, ground := Ground.phase }, { on := 3, ground := Ground.phase }, { on := 4, ground := Ground.phase }, { on := 5, ground := Ground.phase }, { on := 6, ground := Ground.phase }, { on := 7, ground := Ground.phase }, { on := 8, ground := Ground.phase }, { on := 9, ground := Ground.phase }, { on := 10, ground := Ground.phase }, { on := 11, ground := Ground.phase }, { on := 12, ground := Ground.phase }, { on := 13, ground := Ground.phase }, { on := 14, ground := Ground.phase }, { on := 15, ground := Ground.phase }, { on := 16, ground := Ground.phase }, { on := 17, ground := Ground.phase }, { on := 18, ground := Ground.phase }, { on := 19, ground := Ground.phase }, { on := 20, ground := Ground.phase }, { on := 21, ground := Ground.phase }, { on := 22, ground := Ground.phase }, { on := 23, ground := Ground.phase }, { on := 24, ground := Ground.phase }, { on := 25, ground := Ground.phase }, { on := 26, ground := Ground.phase }, { on := 27, ground := Ground.phase }], guard := Option.none }) (v := ?_) (by rfl) ?_ (fun wS hSw => ?_) ?_
                              rotate_left
                              · kernel_rfl
                              · (try dsimp only at hSw); go_simp; (try with_reducible rfl)
                              try simp only [Act.put, List.setIfInBounds_toArray, List.set_cons_zero, List.set_cons_succ]
                              refine Reg.G_done ?_
                              clear hHeld
                              go_wp2
                              try rw [hwm2]
                              exact ⟨⟨j + 1, m + 1, L, false, rfl, rfl, rfl, Lib.hid ⟨by have := hm.out; omega, by have := hm.out; omega, by rw [hsg.out, later_snoc, ← hm.out.2.2.1, MT.out]; rfl, by rw [hsg.out, gone_snoc, ← hm.out.2.2.2, HT2.out]; rfl⟩, bw.drew⟩, measM i m hmi2.out⟩
                        | false =>
                          rw [hya] at y0
                          have HT := Lib.hid (hits_f (x := x.s) hya)
                          have MT := Lib.hid (mate_f (x := x.s) hya)
                          have hq := fun W => keys_eql y.s.key x.s.key (smp_key y.s) (smp_key x.s) W
                          clear y2 y3 x2 hya
                          by_cases hky : y.s.key = x.s.key
                          · rw [decide_eq_true hky] at hq
                            have HT2 : Hid (hits x.s y = decide (y.s.op ≠ 1)) := Lib.hid (by rw [HT.out, decide_eq_true hky, Bool.true_and])
                            have MT2 : Hid (mate x.s y = true) := Lib.hid (by rw [MT.out, decide_eq_true hky])
                            clear hky HT MT
                            cases G with
                            | true =>
                              clear y1
                              go_wp2_with fail
                              refine Reg.wp_plan (S := fun w' => w'.rangeAt (ad.add (m * 26)).block ((ad.add (m * 26)).off + 1 + 5) (nums .u8 y.s.key) ∧ w'.rangeAt (ad.add (q * 26)).block ((ad.add (q * 26)).off + 1 + 5) (nums .u8 x.s.key)) 13 (.fl 0 (.fl 1 (.fl 2 (.fl 3 (.fl 4 (.fl 5 (.fl 6 (.fl 7 (.fl 8 (.fl 9 (.fl 10 (.fl 11 (.fl 12 .done))))))))))))) (by kernel_rfl) (by kernel_rfl) (by kernel_rfl) (by kernel_rfl) (fun _ _ _ d _ h => by cases d <;> exact h) ?_ (fun hHeld => ?_)
                              · exact ⟨yk, xk⟩
                              refine Reg.G_on (o := { dst := some 103, op := Op.move (Operand.tmp 1), type := 51, pos := "law.go:89", after := #[], guard := Option.none }) (v := ?_) (by rfl) ?_ (fun wS hSw => ?_) ?_
                              rotate_left
                              · kernel_rfl
                              · (try dsimp only at hSw); go_simp; (try with_reducible rfl)
                              try simp only [Act.put, List.setIfInBounds_toArray, List.set_cons_zero, List.set_cons_succ]
                              refine Reg.G_on (o := { dst := some 104, op := Op.move (Operand.tmp 12), type := 3, pos := "law.go:89", after := #[], guard := Option.none }) (v := ?_) (by rfl) ?_ (fun wS hSw => ?_) ?_
                              rotate_left
                              · kernel_rfl
                              · (try dsimp only at hSw); go_simp; (try with_reducible rfl)
                              try simp only [Act.put, List.setIfInBounds_toArray, List.set_cons_zero, List.set_cons_succ]
                              refine Reg.G_on (o := { dst := some 105, op := Op.indexAddr 51 (Operand.tmp 103) (Operand.tmp 104), type := 0, pos := "law.go:89", after := #[{ on := 0, ground := Ground.data }, { on := 1, ground := Ground.data }], guard := Option.none }) (v := ?_) (by rfl) ?_ (fun wS hSw => ?_) ?_
                              rotate_left
                              · kernel_rfl
                              · (try dsimp only at hSw); go_simp; (try with_reducible rfl)
                              try simp only [Act.put, List.setIfInBounds_toArray, List.set_cons_zero, List.set_cons_succ]
                              refine Reg.G_on (o := { dst := some 106, op := Op.fieldAddr 62 (Operand.tmp 105) 1, type := 0, pos := "law.go:89", after := #[{ on := 2, ground := Ground.data }], guard := Option.none }) (v := ?_) (by rfl) ?_ (fun wS hSw => ?_) ?_
                              rotate_left
                              · kernel_rfl
                              · (try dsimp only at hSw); go_simp; (try with_reducible rfl)
                              try simp only [Act.put, List.setIfInBounds_toArray, List.set_cons_zero, List.set_cons_succ]
                              refine Reg.G_on (o := { dst := some 107, op := Op.fieldAddr 60 (Operand.tmp 106) 5, type := 0, pos := "law.go:89", after := #[{ on := 3, ground := Ground.data }], guard := Option.none }) (v := ?_) (by rfl) ?_ (fun wS hSw => ?_) ?_
                              rotate_left
                              · kernel_rfl
                              · (try dsimp only at hSw); go_simp; (try with_reducible rfl)
                              try simp only [Act.put, List.setIfInBounds_toArray, List.set_cons_zero, List.set_cons_succ]
                              refine Reg.G_on (o := { dst := some 108, op := Op.load 53 (Operand.tmp 107), type := 53, pos := "law.go:89", after := #[{ on := 4, ground := Ground.data }], guard := Option.none }) (v := .agg (nums .u8 y.s.key).toArray) (by rfl) ?_ (fun wS hSw => ?_) ?_
                              · kernel_rfl
                              · exact load_yields rfl rfl hSw.1 Try.underlying53 rfl (key17 _ (key_len y.s))
                              try simp only [Act.put, List.setIfInBounds_toArray, List.set_cons_zero, List.set_cons_succ]
                              refine Reg.G_on (o := { dst := some 109, op := Op.move (Operand.tmp 1), type := 51, pos := "law.go:89", after := #[], guard := Option.none }) (v := ?_) (by rfl) ?_ (fun wS hSw => ?_) ?_
                              rotate_left
                              · kernel_rfl
                              · (try dsimp only at hSw); go_simp; (try with_reducible rfl)
                              try simp only [Act.put, List.setIfInBounds_toArray, List.set_cons_zero, List.set_cons_succ]
                              refine Reg.G_on (o := { dst := some 110, op := Op.move (Operand.tmp 9), type := 3, pos := "law.go:89", after := #[], guard := Option.none }) (v := ?_) (by rfl) ?_ (fun wS hSw => ?_) ?_
                              rotate_left
                              · kernel_rfl
                              · (try dsimp only at hSw); go_simp; (try with_reducible rfl)
                              try simp only [Act.put, List.setIfInBounds_toArray, List.set_cons_zero, List.set_cons_succ]
                              refine Reg.G_on (o := { dst := some 111, op := Op.indexAddr 51 (Operand.tmp 109) (Operand.tmp 110), type := 0, pos := "law.go:89", after := #[{ on := 6, ground := Ground.data }, { on := 7, ground := Ground.data }], guard := Option.none }) (v := ?_) (by rfl) ?_ (fun wS hSw => ?_) ?_
                              rotate_left
                              · kernel_rfl
                              · (try dsimp only at hSw); go_simp; (try with_reducible rfl)
                              try simp only [Act.put, List.setIfInBounds_toArray, List.set_cons_zero, List.set_cons_succ]
                              refine Reg.G_on (o := { dst := some 112, op := Op.fieldAddr 62 (Operand.tmp 111) 1, type := 0, pos := "law.go:89", after := #[{ on := 8, ground := Ground.data }], guard := Option.none }) (v := ?_) (by rfl) ?_ (fun wS hSw => ?_) ?_
                              rotate_left
                              · kernel_rfl
                              · (try dsimp only at hSw); go_simp; (try with_reducible rfl)
                              try simp only [Act.put, List.setIfInBounds_toArray, List.set_cons_zero, List.set_cons_succ]
                              refine Reg.G_on (o := { dst := some 113, op := Op.fieldAddr 60 (Operand.tmp 112) 5, type := 0, pos := "law.go:89", after := #[{ on := 9, ground := Ground.data }], guard := Option.none }) (v := ?_) (by rfl) ?_ (fun wS hSw => ?_) ?_
                              rotate_left
                              · kernel_rfl
                              · (try dsimp only at hSw); go_simp; (try with_reducible rfl)
                              try simp only [Act.put, List.setIfInBounds_toArray, List.set_cons_zero, List.set_cons_succ]
                              refine Reg.G_on (o := { dst := some 114, op := Op.load 53 (Operand.tmp 113), type := 53, pos := "law.go:89", after := #[{ on := 10, ground := Ground.data }], guard := Option.none }) (v := .agg (nums .u8 x.s.key).toArray) (by rfl) ?_ (fun wS hSw => ?_) ?_
                              · kernel_rfl
                              · exact load_yields rfl rfl hSw.2 Try.underlying53 rfl (key17 _ (key_len x.s))
                              try simp only [Act.put, List.setIfInBounds_toArray, List.set_cons_zero, List.set_cons_succ]
                              refine Reg.G_on (o := { dst := some 115, op := Op.binOp BinOp.eql 53 (Operand.tmp 108) (Operand.tmp 114) 53, type := 4, pos := "law.go:89", after := #[{ on := 5, ground := Ground.data }, { on := 11, ground := Ground.data }], guard := Option.none }) (v := .bool true) (by rfl) ?_ (fun wS hSw => ?_) ?_
                              · kernel_rfl
                              · exact eql_yields rfl rfl rfl gd_key (hq _)
                              try simp only [Act.put, List.setIfInBounds_toArray, List.set_cons_zero, List.set_cons_succ]
                              refine Reg.G_done ?_
                              clear hHeld
                              go_wp2
                              try rw [hwL]
                              try rw [hwm2]
                              exact ⟨⟨j + 1, m + 1, (L + 1), true, rfl, rfl, rfl, Lib.hid ⟨by have := hm.out; omega, by have := hm.out; omega, by rw [hsg.out, later_snoc, ← hm.out.2.2.1, MT2.out]; rfl, by rw [hsg.out, gone_snoc, ← hm.out.2.2.2, Bool.true_or]; skip⟩, bw.drew⟩, measM i m hmi2.out⟩
                            | false =>
                              by_cases hyo : y.s.op = 1
                              · have HT3 : Hid (hits x.s y = false) := Lib.hid (by rw [HT2.out]; exact decide_eq_false (fun hh => hh hyo))
                                rw [hyo] at y1
                                clear hyo HT2
                                go_wp2_with fail
                                refine Reg.wp_plan (S := fun w' => w'.rangeAt (ad.add (m * 26)).block ((ad.add (m * 26)).off + 1 + 5) (nums .u8 y.s.key) ∧ w'.rangeAt (ad.add (q * 26)).block ((ad.add (q * 26)).off + 1 + 5) (nums .u8 x.s.key)) 13 (.fl 0 (.fl 1 (.fl 2 (.fl 3 (.fl 4 (.fl 5 (.fl 6 (.fl 7 (.fl 8 (.fl 9 (.fl 10 (.fl 11 (.fl 12 .done))))))))))))) (by kernel_rfl) (by kernel_rfl) (by kernel_rfl) (by kernel_rfl) (fun _ _ _ d _ h => by cases d <;> exact h) ?_ (fun hHeld => ?_)
                                · exact ⟨yk, xk⟩
                                refine Reg.G_on (o := { dst := some 103, op := Op.move (Operand.tmp 1), type := 51, pos := "law.go:89", after := #[], guard := Option.none }) (v := ?_) (by rfl) ?_ (fun wS hSw => ?_) ?_
                                rotate_left
                                · kernel_rfl
                                · (try dsimp only at hSw); go_simp; (try with_reducible rfl)
                                try simp only [Act.put, List.setIfInBounds_toArray, List.set_cons_zero, List.set_cons_succ]
                                refine Reg.G_on (o := { dst := some 104, op := Op.move (Operand.tmp 12), type := 3, pos := "law.go:89", after := #[], guard := Option.none }) (v := ?_) (by rfl) ?_ (fun wS hSw => ?_) ?_
                                rotate_left
                                · kernel_rfl
                                · (try dsimp only at hSw); go_simp; (try with_reducible rfl)
                                try simp only [Act.put, List.setIfInBounds_toArray, List.set_cons_zero, List.set_cons_succ]
                                refine Reg.G_on (o := { dst := some 105, op := Op.indexAddr 51 (Operand.tmp 103) (Operand.tmp 104), type := 0, pos := "law.go:89", after := #[{ on := 0, ground := Ground.data }, { on := 1, ground := Ground.data }], guard := Option.none }) (v := ?_) (by rfl) ?_ (fun wS hSw => ?_) ?_
                                rotate_left
                                · kernel_rfl
                                · (try dsimp only at hSw); go_simp; (try with_reducible rfl)
                                try simp only [Act.put, List.setIfInBounds_toArray, List.set_cons_zero, List.set_cons_succ]
                                refine Reg.G_on (o := { dst := some 106, op := Op.fieldAddr 62 (Operand.tmp 105) 1, type := 0, pos := "law.go:89", after := #[{ on := 2, ground := Ground.data }], guard := Option.none }) (v := ?_) (by rfl) ?_ (fun wS hSw => ?_) ?_
                                rotate_left
                                · kernel_rfl
                                · (try dsimp only at hSw); go_simp; (try with_reducible rfl)
                                try simp only [Act.put, List.setIfInBounds_toArray, List.set_cons_zero, List.set_cons_succ]
                                refine Reg.G_on (o := { dst := some 107, op := Op.fieldAddr 60 (Operand.tmp 106) 5, type := 0, pos := "law.go:89", after := #[{ on := 3, ground := Ground.data }], guard := Option.none }) (v := ?_) (by rfl) ?_ (fun wS hSw => ?_) ?_
                                rotate_left
                                · kernel_rfl
                                · (try dsimp only at hSw); go_simp; (try with_reducible rfl)
                                try simp only [Act.put, List.setIfInBounds_toArray, List.set_cons_zero, List.set_cons_succ]
                                refine Reg.G_on (o := { dst := some 108, op := Op.load 53 (Operand.tmp 107), type := 53, pos := "law.go:89", after := #[{ on := 4, ground := Ground.data }], guard := Option.none }) (v := .agg (nums .u8 y.s.key).toArray) (by rfl) ?_ (fun wS hSw => ?_) ?_
                                · kernel_rfl
                                · exact load_yields rfl rfl hSw.1 Try.underlying53 rfl (key17 _ (key_len y.s))
                                try simp only [Act.put, List.setIfInBounds_toArray, List.set_cons_zero, List.set_cons_succ]
                                refine Reg.G_on (o := { dst := some 109, op := Op.move (Operand.tmp 1), type := 51, pos := "law.go:89", after := #[], guard := Option.none }) (v := ?_) (by rfl) ?_ (fun wS hSw => ?_) ?_
                                rotate_left
                                · kernel_rfl
                                · (try dsimp only at hSw); go_simp; (try with_reducible rfl)
                                try simp only [Act.put, List.setIfInBounds_toArray, List.set_cons_zero, List.set_cons_succ]
                                refine Reg.G_on (o := { dst := some 110, op := Op.move (Operand.tmp 9), type := 3, pos := "law.go:89", after := #[], guard := Option.none }) (v := ?_) (by rfl) ?_ (fun wS hSw => ?_) ?_
                                rotate_left
                                · kernel_rfl
                                · (try dsimp only at hSw); go_simp; (try with_reducible rfl)
                                try simp only [Act.put, List.setIfInBounds_toArray, List.set_cons_zero, List.set_cons_succ]
                                refine Reg.G_on (o := { dst := some 111, op := Op.indexAddr 51 (Operand.tmp 109) (Operand.tmp 110), type := 0, pos := "law.go:89", after := #[{ on := 6, ground := Ground.data }, { on := 7, ground := Ground.data }], guard := Option.none }) (v := ?_) (by rfl) ?_ (fun wS hSw => ?_) ?_
                                rotate_left
                                · kernel_rfl
                                · (try dsimp only at hSw); go_simp; (try with_reducible rfl)
                                try simp only [Act.put, List.setIfInBounds_toArray, List.set_cons_zero, List.set_cons_succ]
                                refine Reg.G_on (o := { dst := some 112, op := Op.fieldAddr 62 (Operand.tmp 111) 1, type := 0, pos := "law.go:89", after := #[{ on := 8, ground := Ground.data }], guard := Option.none }) (v := ?_) (by rfl) ?_ (fun wS hSw => ?_) ?_
                                rotate_left
                                · kernel_rfl
                                · (try dsimp only at hSw); go_simp; (try with_reducible rfl)
                                try simp only [Act.put, List.setIfInBounds_toArray, List.set_cons_zero, List.set_cons_succ]
                                refine Reg.G_on (o := { dst := some 113, op := Op.fieldAddr 60 (Operand.tmp 112) 5, type := 0, pos := "law.go:89", after := #[{ on := 9, ground := Ground.data }], guard := Option.none }) (v := ?_) (by rfl) ?_ (fun wS hSw => ?_) ?_
                                rotate_left
                                · kernel_rfl
                                · (try dsimp only at hSw); go_simp; (try with_reducible rfl)
                                try simp only [Act.put, List.setIfInBounds_toArray, List.set_cons_zero, List.set_cons_succ]
                                refine Reg.G_on (o := { dst := some 114, op := Op.load 53 (Operand.tmp 113), type := 53, pos := "law.go:89", after := #[{ on := 10, ground := Ground.data }], guard := Option.none }) (v := .agg (nums .u8 x.s.key).toArray) (by rfl) ?_ (fun wS hSw => ?_) ?_
                                · kernel_rfl
                                · exact load_yields rfl rfl hSw.2 Try.underlying53 rfl (key17 _ (key_len x.s))
                                try simp only [Act.put, List.setIfInBounds_toArray, List.set_cons_zero, List.set_cons_succ]
                                refine Reg.G_on (o := { dst := some 115, op := Op.binOp BinOp.eql 53 (Operand.tmp 108) (Operand.tmp 114) 53, type := 4, pos := "law.go:89", after := #[{ on := 5, ground := Ground.data }, { on := 11, ground := Ground.data }], guard := Option.none }) (v := .bool true) (by rfl) ?_ (fun wS hSw => ?_) ?_
                                · kernel_rfl
                                · exact eql_yields rfl rfl rfl gd_key (hq _)
                                try simp only [Act.put, List.setIfInBounds_toArray, List.set_cons_zero, List.set_cons_succ]
                                refine Reg.G_done ?_
                                clear hHeld
                                go_wp2
                                try rw [hwL]
                                try rw [hwm2]
                                exact ⟨⟨j + 1, m + 1, (L + 1), false, rfl, rfl, rfl, Lib.hid ⟨by have := hm.out; omega, by have := hm.out; omega, by rw [hsg.out, later_snoc, ← hm.out.2.2.1, MT2.out]; rfl, by rw [hsg.out, gone_snoc, ← hm.out.2.2.2, HT3.out]; rfl⟩, bw.drew⟩, measM i m hmi2.out⟩
                              · have HT3 : Hid (hits x.s y = true) := Lib.hid (by rw [HT2.out]; exact decide_eq_true hyo)
                                have ho2 : (y.s.op != 1) = true := bne_iff_ne.2 hyo
                                generalize hqo : y.s.op = op at y1 ho2
                                clear hyo HT2 hqo
                                go_wp2_with fail
                                refine Reg.wp_plan (S := fun w' => w'.rangeAt (ad.add (m * 26)).block ((ad.add (m * 26)).off + 1 + 5) (nums .u8 y.s.key) ∧ w'.rangeAt (ad.add (q * 26)).block ((ad.add (q * 26)).off + 1 + 5) (nums .u8 x.s.key)) 13 (.fl 0 (.fl 1 (.fl 2 (.fl 3 (.fl 4 (.fl 5 (.fl 6 (.fl 7 (.fl 8 (.fl 9 (.fl 10 (.fl 11 (.fl 12 .done))))))))))))) (by kernel_rfl) (by kernel_rfl) (by kernel_rfl) (by kernel_rfl) (fun _ _ _ d _ h => by cases d <;> exact h) ?_ (fun hHeld => ?_)
                                · exact ⟨yk, xk⟩
                                refine Reg.G_on (o := { dst := some 103, op := Op.move (Operand.tmp 1), type := 51, pos := "law.go:89", after := #[], guard := Option.none }) (v := ?_) (by rfl) ?_ (fun wS hSw => ?_) ?_
                                rotate_left
                                · kernel_rfl
                                · (try dsimp only at hSw); go_simp; (try with_reducible rfl)
                                try simp only [Act.put, List.setIfInBounds_toArray, List.set_cons_zero, List.set_cons_succ]
                                refine Reg.G_on (o := { dst := some 104, op := Op.move (Operand.tmp 12), type := 3, pos := "law.go:89", after := #[], guard := Option.none }) (v := ?_) (by rfl) ?_ (fun wS hSw => ?_) ?_
                                rotate_left
                                · kernel_rfl
                                · (try dsimp only at hSw); go_simp; (try with_reducible rfl)
                                try simp only [Act.put, List.setIfInBounds_toArray, List.set_cons_zero, List.set_cons_succ]
                                refine Reg.G_on (o := { dst := some 105, op := Op.indexAddr 51 (Operand.tmp 103) (Operand.tmp 104), type := 0, pos := "law.go:89", after := #[{ on := 0, ground := Ground.data }, { on := 1, ground := Ground.data }], guard := Option.none }) (v := ?_) (by rfl) ?_ (fun wS hSw => ?_) ?_
                                rotate_left
                                · kernel_rfl
                                · (try dsimp only at hSw); go_simp; (try with_reducible rfl)
                                try simp only [Act.put, List.setIfInBounds_toArray, List.set_cons_zero, List.set_cons_succ]
                                refine Reg.G_on (o := { dst := some 106, op := Op.fieldAddr 62 (Operand.tmp 105) 1, type := 0, pos := "law.go:89", after := #[{ on := 2, ground := Ground.data }], guard := Option.none }) (v := ?_) (by rfl) ?_ (fun wS hSw => ?_) ?_
                                rotate_left
                                · kernel_rfl
                                · (try dsimp only at hSw); go_simp; (try with_reducible rfl)
                                try simp only [Act.put, List.setIfInBounds_toArray, List.set_cons_zero, List.set_cons_succ]
                                refine Reg.G_on (o := { dst := some 107, op := Op.fieldAddr 60 (Operand.tmp 106) 5, type := 0, pos := "law.go:89", after := #[{ on := 3, ground := Ground.data }], guard := Option.none }) (v := ?_) (by rfl) ?_ (fun wS hSw => ?_) ?_
                                rotate_left
                                · kernel_rfl
                                · (try dsimp only at hSw); go_simp; (try with_reducible rfl)
                                try simp only [Act.put, List.setIfInBounds_toArray, List.set_cons_zero, List.set_cons_succ]
                                refine Reg.G_on (o := { dst := some 108, op := Op.load 53 (Operand.tmp 107), type := 53, pos := "law.go:89", after := #[{ on := 4, ground := Ground.data }], guard := Option.none }) (v := .agg (nums .u8 y.s.key).toArray) (by rfl) ?_ (fun wS hSw => ?_) ?_
                                · kernel_rfl
                                · exact load_yields rfl rfl hSw.1 Try.underlying53 rfl (key17 _ (key_len y.s))
                                try simp only [Act.put, List.setIfInBounds_toArray, List.set_cons_zero, List.set_cons_succ]
                                refine Reg.G_on (o := { dst := some 109, op := Op.move (Operand.tmp 1), type := 51, pos := "law.go:89", after := #[], guard := Option.none }) (v := ?_) (by rfl) ?_ (fun wS hSw => ?_) ?_
                                rotate_left
                                · kernel_rfl
                                · (try dsimp only at hSw); go_simp; (try with_reducible rfl)
                                try simp only [Act.put, List.setIfInBounds_toArray, List.set_cons_zero, List.set_cons_succ]
                                refine Reg.G_on (o := { dst := some 110, op := Op.move (Operand.tmp 9), type := 3, pos := "law.go:89", after := #[], guard := Option.none }) (v := ?_) (by rfl) ?_ (fun wS hSw => ?_) ?_
                                rotate_left
                                · kernel_rfl
                                · (try dsimp only at hSw); go_simp; (try with_reducible rfl)
                                try simp only [Act.put, List.setIfInBounds_toArray, List.set_cons_zero, List.set_cons_succ]
                                refine Reg.G_on (o := { dst := some 111, op := Op.indexAddr 51 (Operand.tmp 109) (Operand.tmp 110), type := 0, pos := "law.go:89", after := #[{ on := 6, ground := Ground.data }, { on := 7, ground := Ground.data }], guard := Option.none }) (v := ?_) (by rfl) ?_ (fun wS hSw => ?_) ?_
                                rotate_left
                                · kernel_rfl
                                · (try dsimp only at hSw); go_simp; (try with_reducible rfl)
                                try simp only [Act.put, List.setIfInBounds_toArray, List.set_cons_zero, List.set_cons_succ]
                                refine Reg.G_on (o := { dst := some 112, op := Op.fieldAddr 62 (Operand.tmp 111) 1, type := 0, pos := "law.go:89", after := #[{ on := 8, ground := Ground.data }], guard := Option.none }) (v := ?_) (by rfl) ?_ (fun wS hSw => ?_) ?_
                                rotate_left
                                · kernel_rfl
                                · (try dsimp only at hSw); go_simp; (try with_reducible rfl)
                                try simp only [Act.put, List.setIfInBounds_toArray, List.set_cons_zero, List.set_cons_succ]
                                refine Reg.G_on (o := { dst := some 113, op := Op.fieldAddr 60 (Operand.tmp 112) 5, type := 0, pos := "law.go:89", after := #[{ on := 9, ground := Ground.data }], guard := Option.none }) (v := ?_) (by rfl) ?_ (fun wS hSw => ?_) ?_
                                rotate_left
                                · kernel_rfl
                                · (try dsimp only at hSw); go_simp; (try with_reducible rfl)
                                try simp only [Act.put, List.setIfInBounds_toArray, List.set_cons_zero, List.set_cons_succ]
                                refine Reg.G_on (o := { dst := some 114, op := Op.load 53 (Operand.tmp 113), type := 53, pos := "law.go:89", after := #[{ on := 10, ground := Ground.data }], guard := Option.none }) (v := .agg (nums .u8 x.s.key).toArray) (by rfl) ?_ (fun wS hSw => ?_) ?_
                                · kernel_rfl
                                · exact load_yields rfl rfl hSw.2 Try.underlying53 rfl (key17 _ (key_len x.s))
                                try simp only [Act.put, List.setIfInBounds_toArray, List.set_cons_zero, List.set_cons_succ]
                                refine Reg.G_on (o := { dst := some 115, op := Op.binOp BinOp.eql 53 (Operand.tmp 108) (Operand.tmp 114) 53, type := 4, pos := "law.go:89", after := #[{ on := 5, ground := Ground.data }, { on := 11, ground := Ground.data }], guard := Option.none }) (v := .bool true) (by rfl) ?_ (fun wS hSw => ?_) ?_
                                · kernel_rfl
                                · exact eql_yields rfl rfl rfl gd_key (hq _)
                                try simp only [Act.put, List.setIfInBounds_toArray, List.set_cons_zero, List.set_cons_succ]
                                refine Reg.G_done ?_
                                clear hHeld
                                go_wp2
                                try rw [hwL]
                                try rw [hwm2]
                                exact ⟨⟨j + 1, m + 1, (L + 1), true, rfl, rfl, rfl, Lib.hid ⟨by have := hm.out; omega, by have := hm.out; omega, by rw [hsg.out, later_snoc, ← hm.out.2.2.1, MT2.out]; rfl, by rw [hsg.out, gone_snoc, ← hm.out.2.2.2, HT3.out]; rfl⟩, bw.drew⟩, measM i m hmi2.out⟩
                          · rw [decide_eq_false hky] at hq
                            have HT2 : Hid (hits x.s y = false) := Lib.hid (by rw [HT.out, decide_eq_false hky, Bool.false_and])
                            have MT2 : Hid (mate x.s y = false) := Lib.hid (by rw [MT.out, decide_eq_false hky])
                            clear hky HT MT y1
                            go_wp2_with fail
                            refine Reg.wp_plan (S := fun w' => w'.rangeAt (ad.add (m * 26)).block ((ad.add (m * 26)).off + 1 + 5) (nums .u8 y.s.key) ∧ w'.rangeAt (ad.add (q * 26)).block ((ad.add (q * 26)).off + 1 + 5) (nums .u8 x.s.key)) 13 (.fl 0 (.fl 1 (.fl 2 (.fl 3 (.fl 4 (.fl 5 (.fl 6 (.fl 7 (.fl 8 (.fl 9 (.fl 10 (.fl 11 (.fl 12 .done))))))))))))) (by kernel_rfl) (by kernel_rfl) (by kernel_rfl) (by kernel_rfl) (fun _ _ _ d _ h => by cases d <;> exact h) ?_ (fun hHeld => ?_)
                            · exact ⟨yk, xk⟩
                            refine Reg.G_on (o := { dst := some 103, op := Op.move (Operand.tmp 1), type := 51, pos := "law.go:89", after := #[], guard := Option.none }) (v := ?_) (by rfl) ?_ (fun wS hSw => ?_) ?_
                            rotate_left
                            · kernel_rfl
                            · (try dsimp only at hSw); go_simp; (try with_reducible rfl)
                            try simp only [Act.put, List.setIfInBounds_toArray, List.set_cons_zero, List.set_cons_succ]
                            refine Reg.G_on (o := { dst := some 104, op := Op.move (Operand.tmp 12), type := 3, pos := "law.go:89", after := #[], guard := Option.none }) (v := ?_) (by rfl) ?_ (fun wS hSw => ?_) ?_
                            rotate_left
                            · kernel_rfl
                            · (try dsimp only at hSw); go_simp; (try with_reducible rfl)
                            try simp only [Act.put, List.setIfInBounds_toArray, List.set_cons_zero, List.set_cons_succ]
                            refine Reg.G_on (o := { dst := some 105, op := Op.indexAddr 51 (Operand.tmp 103) (Operand.tmp 104), type := 0, pos := "law.go:89", after := #[{ on := 0, ground := Ground.data }, { on := 1, ground := Ground.data }], guard := Option.none }) (v := ?_) (by rfl) ?_ (fun wS hSw => ?_) ?_
                            rotate_left
                            · kernel_rfl
                            · (try dsimp only at hSw); go_simp; (try with_reducible rfl)
                            try simp only [Act.put, List.setIfInBounds_toArray, List.set_cons_zero, List.set_cons_succ]
                            refine Reg.G_on (o := { dst := some 106, op := Op.fieldAddr 62 (Operand.tmp 105) 1, type := 0, pos := "law.go:89", after := #[{ on := 2, ground := Ground.data }], guard := Option.none }) (v := ?_) (by rfl) ?_ (fun wS hSw => ?_) ?_
                            rotate_left
                            · kernel_rfl
                            · (try dsimp only at hSw); go_simp; (try with_reducible rfl)
                            try simp only [Act.put, List.setIfInBounds_toArray, List.set_cons_zero, List.set_cons_succ]
                            refine Reg.G_on (o := { dst := some 107, op := Op.fieldAddr 60 (Operand.tmp 106) 5, type := 0, pos := "law.go:89", after := #[{ on := 3, ground := Ground.data }], guard := Option.none }) (v := ?_) (by rfl) ?_ (fun wS hSw => ?_) ?_
                            rotate_left
                            · kernel_rfl
                            · (try dsimp only at hSw); go_simp; (try with_reducible rfl)
                            try simp only [Act.put, List.setIfInBounds_toArray, List.set_cons_zero, List.set_cons_succ]
                            refine Reg.G_on (o := { dst := some 108, op := Op.load 53 (Operand.tmp 107), type := 53, pos := "law.go:89", after := #[{ on := 4, ground := Ground.data }], guard := Option.none }) (v := .agg (nums .u8 y.s.key).toArray) (by rfl) ?_ (fun wS hSw => ?_) ?_
                            · kernel_rfl
                            · exact load_yields rfl rfl hSw.1 Try.underlying53 rfl (key17 _ (key_len y.s))
                            try simp only [Act.put, List.setIfInBounds_toArray, List.set_cons_zero, List.set_cons_succ]
                            refine Reg.G_on (o := { dst := some 109, op := Op.move (Operand.tmp 1), type := 51, pos := "law.go:89", after := #[], guard := Option.none }) (v := ?_) (by rfl) ?_ (fun wS hSw => ?_) ?_
                            rotate_left
                            · kernel_rfl
                            · (try dsimp only at hSw); go_simp; (try with_reducible rfl)
                            try simp only [Act.put, List.setIfInBounds_toArray, List.set_cons_zero, List.set_cons_succ]
                            refine Reg.G_on (o := { dst := some 110, op := Op.move (Operand.tmp 9), type := 3, pos := "law.go:89", after := #[], guard := Option.none }) (v := ?_) (by rfl) ?_ (fun wS hSw => ?_) ?_
                            rotate_left
                            · kernel_rfl
                            · (try dsimp only at hSw); go_simp; (try with_reducible rfl)
                            try simp only [Act.put, List.setIfInBounds_toArray, List.set_cons_zero, List.set_cons_succ]
                            refine Reg.G_on (o := { dst := some 111, op := Op.indexAddr 51 (Operand.tmp 109) (Operand.tmp 110), type := 0, pos := "law.go:89", after := #[{ on := 6, ground := Ground.data }, { on := 7, ground := Ground.data }], guard := Option.none }) (v := ?_) (by rfl) ?_ (fun wS hSw => ?_) ?_
                            rotate_left
                            · kernel_rfl
                            · (try dsimp only at hSw); go_simp; (try with_reducible rfl)
                            try simp only [Act.put, List.setIfInBounds_toArray, List.set_cons_zero, List.set_cons_succ]
                            refine Reg.G_on (o := { dst := some 112, op := Op.fieldAddr 62 (Operand.tmp 111) 1, type := 0, pos := "law.go:89", after := #[{ on := 8, ground := Ground.data }], guard := Option.none }) (v := ?_) (by rfl) ?_ (fun wS hSw => ?_) ?_
                            rotate_left
                            · kernel_rfl
                            · (try dsimp only at hSw); go_simp; (try with_reducible rfl)
                            try simp only [Act.put, List.setIfInBounds_toArray, List.set_cons_zero, List.set_cons_succ]
                            refine Reg.G_on (o := { dst := some 113, op := Op.fieldAddr 60 (Operand.tmp 112) 5, type := 0, pos := "law.go:89", after := #[{ on := 9, ground := Ground.data }], guard := Option.none }) (v := ?_) (by rfl) ?_ (fun wS hSw => ?_) ?_
                            rotate_left
                            · kernel_rfl
                            · (try dsimp only at hSw); go_simp; (try with_reducible rfl)
                            try simp only [Act.put, List.setIfInBounds_toArray, List.set_cons_zero, List.set_cons_succ]
                            refine Reg.G_on (o := { dst := some 114, op := Op.load 53 (Operand.tmp 113), type := 53, pos := "law.go:89", after := #[{ on := 10, ground := Ground.data }], guard := Option.none }) (v := .agg (nums .u8 x.s.key).toArray) (by rfl) ?_ (fun wS hSw => ?_) ?_
                            · kernel_rfl
                            · exact load_yields rfl rfl hSw.2 Try.underlying53 rfl (key17 _ (key_len x.s))
                            try simp only [Act.put, List.setIfInBounds_toArray, List.set_cons_zero, List.set_cons_succ]
                            refine Reg.G_on (o := { dst := some 115, op := Op.binOp BinOp.eql 53 (Operand.tmp 108) (Operand.tmp 114) 53, type := 4, pos := "law.go:89", after := #[{ on := 5, ground := Ground.data }, { on := 11, ground := Ground.data }], guard := Option.none }) (v := .bool false) (by rfl) ?_ (fun wS hSw => ?_) ?_
                            · kernel_rfl
                            · exact eql_yields rfl rfl rfl gd_key (hq _)
                            try simp only [Act.put, List.setIfInBounds_toArray, List.set_cons_zero, List.set_cons_succ]
                            refine Reg.G_done ?_
                            clear hHeld
                            go_wp2
                            try rw [hwm2]
                            exact ⟨⟨j + 1, m + 1, L, G, rfl, rfl, rfl, Lib.hid ⟨by have := hm.out; omega, by have := hm.out; omega, by rw [hsg.out, later_snoc, ← hm.out.2.2.1, MT2.out]; rfl, by rw [hsg.out, gone_snoc, ← hm.out.2.2.2, HT2.out]; (rw [Bool.or_false])⟩, bw.drew⟩, measM i m hmi2.out⟩
                      · have hmi1 : ¬ (m : Int) ≤ (i : Int) := by omega
                        have hjq : j = i - q := by have := hm.out; omega
                        have hrest : Hid (seg l q j = (l.take (i + 1)).drop (q + 1)) := Lib.hid (by rw [hjq]; exact seg_all l q i HQ.out.1)
                        clear hmi hjq
                        cases G with
                        | true =>
                          go_wp2
                          try rw [hwm]
                          exact ⟨⟨q, (q : Int) - 1, P, rfl, rfl, Lib.hid ⟨by omega, by have := HQ.out; omega, by rw [HDA.out]; exact split_no HP.out (fun hh => by have h9 := (okk_iff.1 hh).2.2.1; rw [← hrest.out, ← hm.out.2.2.2] at h9; cases h9)⟩, bw⟩, measN q⟩
                        | false =>
                          by_cases hLd : d ≤ (L : Int)
                          · go_wp2
                            try rw [hwm]
                            exact ⟨⟨q, (q : Int) - 1, P, rfl, rfl, Lib.hid ⟨by omega, by have := HQ.out; omega, by rw [HDA.out]; exact split_no HP.out (fun hh => by have h9 := (okk_iff.1 hh).2.2.2; rw [← hrest.out, ← hm.out.2.2.1] at h9; omega)⟩, bw⟩, measN q⟩
                          · have hok : okk d x ((l.take (i + 1)).drop (q + 1)) = true := okk_iff.2 ⟨HXO.out.1, HXO.out.2, by rw [← hrest.out, ← hm.out.2.2.2], by rw [← hrest.out, ← hm.out.2.2.1]; omega⟩
                            obtain ⟨Q, hPQ⟩ := suffix_step HSUF.out (HKL.out ▸ HP.out) hok
                            have hPl : P.length = Q.length + 1 := by rw [hPQ, List.length_append, List.length_singleton]
                            have hKQ : Hid (K = Q ++ kl d ((l.take (i + 1)).drop q)) := Lib.hid (by rw [HDA.out, kl, if_pos hok, HP.out, hPQ, List.append_assoc]; rfl)
                            have hQK : Q.length < K.length := by rw [HP.out, hPQ, List.length_append, List.length_append]; simp; omega
                            have hKx : K[Q.length] = x.s := by
                              have h9 : K = Q ++ ([x.s] ++ kl d ((l.take (i + 1)).drop (q + 1))) := by rw [← List.append_assoc, ← hPQ]; exact HP.out
                              have h8 : K[Q.length]? = some x.s := by
                                rw [h9, List.getElem?_append_right (Nat.le_refl _), Nat.sub_self]
                                rfl
                              exact (List.getElem?_eq_some_iff.1 h8).2
                            have rowr := (R7.out.below bw)
                            obtain ⟨g7, rfl⟩ := Row.addr rowr hQK
                            have rng := rowr.range hQK
                            rw [hKx] at rng
                            have stx := STX.out.1.below bw STX.out.2
                            have sx := stx.smp
                            have hwP : wrap64 ((P.length : Int) - 1) = (Q.length : Int) := by have := HL.out; have h9 := HK9.out; have := hQK; unfold wrap64; omega
                            have z1 : ¬ (Q.length : Int) < 0 := by omega
                            have z2 : (0 : Int) ≤ (Q.length : Int) := by omega
                            have z3 : (Q.length : Int) < (K.length : Int) := by omega
                            have hq := fun W => smp_neq x.s x.s W
                            rw [decide_eq_true rfl] at hq
                            generalize P.length = pn at *
                            clear hok hPQ hPl hQK hKx rowr stx
                            go_wp2_with fail
                            try rw [hwP]
                            refine Reg.wp_plan (S := fun w' => w'.rangeAt g7 (Q.length * 23) (cells x.s) ∧ w'.rangeAt (ad.add (q * 26)).block ((ad.add (q * 26)).off + 1) (cells x.s)) 14 (.fl 0 (.fl 1 (.fl 2 (.fl 3 (.fl 4 (.fl 5 (.fl 6 (.fl 7 (.fl 8 (.fl 9 (.fl 10 (.fl 11 (.fl 12 (.fl 13 .done)))))))))))))) (by kernel_rfl) (by kernel_rfl) (by kernel_rfl) (by kernel_rfl) (fun _ _ _ d _ h => by cases d <;> exact h) ?_ (fun hHeld => ?_)
                            · exact ⟨rng, sx⟩
                            refine Reg.G_on (o := { dst := some 136, op := Op.move (Operand.tmp 8), type := 3, pos := "law.go:98", after := #[], guard := Option.none }) (v := ?_) (by rfl) ?_ (fun wS hSw => ?_) ?_
                            rotate_left
                            · kernel_rfl
                            · (try dsimp only at hSw); go_simp; (try with_reducible rfl)
                            try simp only [Act.put, List.setIfInBounds_toArray, List.set_cons_zero, List.set_cons_succ]
                            refine Reg.G_on (o := { dst := some 137, op := Op.binOp BinOp.lss 3 (Operand.tmp 136) (Operand.const (Value.int IntKind.i64 0)) 3, type := 4, pos := "law.go:98", after := #[{ on := 0, ground := Ground.data }], guard := Option.none }) (v := ?_) (by rfl) ?_ (fun wS hSw => ?_) ?_
                            rotate_left
                            · kernel_rfl
                            · (try dsimp only at hSw); go_simp; (try with_reducible rfl)
                            try simp only [Act.put, List.setIfInBounds_toArray, List.set_cons_zero, List.set_cons_succ]
                            refine Reg.G_on (o := { dst := some 138, op := Op.move (Operand.tmp 137), type := 4, pos := "law.go:98", after := #[{ on := 1, ground := Ground.data }], guard := Option.none }) (v := ?_) (by rfl) ?_ (fun wS hSw => ?_) ?_
                            rotate_left
                            · kernel_rfl
                            · (try dsimp only at hSw); go_simp; (try with_reducible rfl)
                            try simp only [Act.put, List.setIfInBounds_toArray, List.set_cons_zero, List.set_cons_succ]
                            refine Reg.G_on (o := { dst := some 139, op := Op.move (Operand.tmp 7), type := 56, pos := "law.go:98", after := #[{ on := 2, ground := Ground.guard }], guard := some (2, false) }) (v := ?_) (by rfl) ?_ (fun wS hSw => ?_) ?_
                            rotate_left
                            · kernel_rfl
                            · (try dsimp only at hSw); go_simp; (try with_reducible rfl)
                            try simp only [Act.put, List.setIfInBounds_toArray, List.set_cons_zero, List.set_cons_succ]
                            refine Reg.G_on (o := { dst := some 140, op := Op.move (Operand.tmp 8), type := 3, pos := "law.go:98", after := #[{ on := 2, ground := Ground.guard }], guard := some (2, false) }) (v := ?_) (by rfl) ?_ (fun wS hSw => ?_) ?_
                            rotate_left
                            · kernel_rfl
                            · (try dsimp only at hSw); go_simp; (try with_reducible rfl)
                            try simp only [Act.put, List.setIfInBounds_toArray, List.set_cons_zero, List.set_cons_succ]
                            refine Reg.G_on (o := { dst := some 141, op := Op.indexAddr 56 (Operand.tmp 139) (Operand.tmp 140), type := 0, pos := "law.go:98", after := #[{ on := 3, ground := Ground.data }, { on := 4, ground := Ground.data }, { on := 2, ground := Ground.guard }], guard := some (2, false) }) (v := ?_) (by rfl) ?_ (fun wS hSw => ?_) ?_
                            rotate_left
                            · kernel_rfl
                            · (try dsimp only at hSw); go_simp; (try with_reducible rfl)
                            try simp only [Act.put, List.setIfInBounds_toArray, List.set_cons_zero, List.set_cons_succ]
                            refine Reg.G_on (o := { dst := some 142, op := Op.load 60 (Operand.tmp 141), type := 60, pos := "law.go:98", after := #[{ on := 5, ground := Ground.data }, { on := 2, ground := Ground.guard }], guard := some (2, false) }) (v := .agg (cells x.s).toArray) (by rfl) ?_ (fun wS hSw => ?_) ?_
                            · kernel_rfl
                            · exact load_yields rfl rfl hSw.1 Try.underlying60 rfl (size23 x.s)
                            try simp only [Act.put, List.setIfInBounds_toArray, List.set_cons_zero, List.set_cons_succ]
                            refine Reg.G_on (o := { dst := some 143, op := Op.move (Operand.tmp 1), type := 51, pos := "law.go:98", after := #[{ on := 2, ground := Ground.guard }], guard := some (2, false) }) (v := ?_) (by rfl) ?_ (fun wS hSw => ?_) ?_
                            rotate_left
                            · kernel_rfl
                            · (try dsimp only at hSw); go_simp; (try with_reducible rfl)
                            try simp only [Act.put, List.setIfInBounds_toArray, List.set_cons_zero, List.set_cons_succ]
                            refine Reg.G_on (o := { dst := some 144, op := Op.move (Operand.tmp 9), type := 3, pos := "law.go:98", after := #[{ on := 2, ground := Ground.guard }], guard := some (2, false) }) (v := ?_) (by rfl) ?_ (fun wS hSw => ?_) ?_
                            rotate_left
                            · kernel_rfl
                            · (try dsimp only at hSw); go_simp; (try with_reducible rfl)
                            try simp only [Act.put, List.setIfInBounds_toArray, List.set_cons_zero, List.set_cons_succ]
                            refine Reg.G_on (o := { dst := some 145, op := Op.indexAddr 51 (Operand.tmp 143) (Operand.tmp 144), type := 0, pos := "law.go:98", after := #[{ on := 7, ground := Ground.data }, { on := 8, ground := Ground.data }, { on := 2, ground := Ground.guard }], guard := some (2, false) }) (v := ?_) (by rfl) ?_ (fun wS hSw => ?_) ?_
                            rotate_left
                            · kernel_rfl
                            · (try dsimp only at hSw); go_simp; (try with_reducible rfl)
                            try simp only [Act.put, List.setIfInBounds_toArray, List.set_cons_zero, List.set_cons_succ]
                            refine Reg.G_on (o := { dst := some 146, op := Op.fieldAddr 62 (Operand.tmp 145) 1, type := 0, pos := "law.go:98", after := #[{ on := 9, ground := Ground.data }, { on := 2, ground := Ground.guard }], guard := some (2, false) }) (v := ?_) (by rfl) ?_ (fun wS hSw => ?_) ?_
                            rotate_left
                            · kernel_rfl
                            · (try dsimp only at hSw); go_simp; (try with_reducible rfl)
                            try simp only [Act.put, List.setIfInBounds_toArray, List.set_cons_zero, List.set_cons_succ]
                            refine Reg.G_on (o := { dst := some 147, op := Op.load 60 (Operand.tmp 146), type := 60, pos := "law.go:98", after := #[{ on := 10, ground := Ground.data }, { on := 2, ground := Ground.guard }], guard := some (2, false) }) (v := .agg (cells x.s).toArray) (by rfl) ?_ (fun wS hSw => ?_) ?_
                            · kernel_rfl
                            · exact load_yields rfl rfl hSw.2 Try.underlying60 rfl (size23 x.s)
                            try simp only [Act.put, List.setIfInBounds_toArray, List.set_cons_zero, List.set_cons_succ]
                            refine Reg.G_on (o := { dst := some 148, op := Op.binOp BinOp.neq 60 (Operand.tmp 142) (Operand.tmp 147) 60, type := 4, pos := "law.go:98", after := #[{ on := 6, ground := Ground.data }, { on := 11, ground := Ground.data }, { on := 2, ground := Ground.guard }], guard := some (2, false) }) (v := .bool (!true)) (by rfl) ?_ (fun wS hSw => ?_) ?_
                            · kernel_rfl
                            · exact eql_yields rfl rfl rfl gd_smp (hq _)
                            try simp only [Act.put, List.setIfInBounds_toArray, List.set_cons_zero, List.set_cons_succ]
                            refine Reg.G_on (o := { dst := some 149, op := Op.pick (Operand.tmp 138) (Operand.const (Value.bool true)) (Operand.tmp 148), type := 4, pos := "law.go:98", after := #[{ on := 2, ground := Ground.data }, { on := 12, ground := Ground.data }], guard := Option.none }) (v := ?_) (by rfl) ?_ (fun wS hSw => ?_) ?_
                            rotate_left
                            · kernel_rfl
                            · (try dsimp only at hSw); go_simp; (try with_reducible rfl)
                            try simp only [Act.put, List.setIfInBounds_toArray, List.set_cons_zero, List.set_cons_succ]
                            refine Reg.G_done ?_
                            clear hHeld
                            go_wp2
                            try rw [hwm]
                            exact ⟨⟨q, (q : Int) - 1, Q, rfl, rfl, Lib.hid ⟨by omega, by have := HQ.out; omega, hKQ.out⟩, bw.drew⟩, measN q⟩
                  · have ho1 : (x.s.op == 1) = false := beq_eq_false_iff_ne.2 hxo
                    have ho2 : (x.s.op != 1) = true := bne_iff_ne.2 hxo
                    have HXO := Lib.hid hxo
                    generalize hqo : x.s.op = op at a1 ho1 ho2
                    clear hqo hxo a2
                    go_wp2
                    try rw [hwm]
                    exact ⟨⟨q, (q : Int) - 1, P, rfl, rfl, Lib.hid ⟨by omega, by have := HQ.out; omega, by rw [HDA.out]; exact split_no HP.out (fun hh => HXO.out (okk_iff.1 hh).2.1)⟩, bw⟩, measN q⟩
              · have hP0 : P.length = 0 := by
                  have h0 : N = 0 := by have := hN.out.1; omega
                  have h9 := hN.out.2.2
                  rw [h0, List.drop_zero, ← HKL.out] at h9
                  have := congrArg List.length h9
                  rw [List.length_append] at this
                  omega
                rw [hP0]
                have h6 := H5.out.below (w' := wr) (bstep B6.out bw)
                have bb9 : Hid (Below b w2 wr) := Lib.hid (bb5.out.trans ((bstep B6.out bw).mono (Nat.le_of_lt hb5.out)))
                have r9 := R7.out.below bw
                have hw5 := Nat.le_trans B6.out.size bw.size
                clear hN bw hP0
                by_cases hK : K.length = 0
                · have hK1 : ¬ (0 : Int) < (K.length : Int) := by omega
                  clear hK r9
                  go_wp2
                  try rw [hwi]
                  exact ⟨⟨i + 1, F5, rfl, hlt2.out, HST.out ▸ h6, hF5, bb9.out⟩, meas _ _ hlt2.out⟩
                · have hK1 : (0 : Int) < (K.length : Int) := by omega
                  have hK2 : 0 < K.length := by omega
                  obtain ⟨g7, rfl⟩ := Row.addr r9 hK2
                  obtain ⟨hth, _⟩ := r9.put hK2 zsmp
                  have hg7 : w5.heap.size ≤ g7 := (r9.own g7 (by simp [Value.ownBlock])).1
                  have hMZ := setCells_mod wr g7 0 (cells zsmp)
                  have h10 := h6.same hMZ (fun k hk => ⟨fun hf => by have := H5.out.old k hf; have h9 : k = g7 := hk; omega, fun hb => by have := hb5.out; have h9 : k = g7 := hk; omega⟩)
                  have bb10 : Hid (Below b w2 (wr.setCells g7 0 (cells zsmp))) := Lib.hid (hMZ.below bb9.out (Nat.le_trans (Nat.le_of_lt hb5.out) hw5) (fun k hk => by have := hb5.out; have h9 : k = g7 := hk; omega))
                  clear hK hK2 r9 hMZ h6 bb9
                  go_wp2_with (first | ((with_reducible refine gate_store (p := 157) (v := .tmp 156) rfl ?_); refine store_ev rfl 60 (.tmp 157) (.tmp 156) rfl g7 0 (cells zsmp) rfl rfl (by rw [cells_len]; exact hth) (size23 zsmp) (cells_one zsmp) ?_; intro w11 hw11) | fail)
                  try rw [hwi]
                  exact ⟨⟨i + 1, F5, rfl, hlt2.out, HST.out ▸ h10, hF5, bb10.out⟩, meas _ _ hlt2.out⟩
          · have q1 : ¬ (i : Int) < (l.length : Int) := by omega
            have bbw : Below w0.heap.size w0 wr := HB2.out.trans (bb.mono (by have := HBD.out; omega))
            clear h8 hF bb hlt hi
            go_wp2_with fail
            refine (awake _).mono ?_
            rintro e w9 ⟨rfl, b9⟩
            go_wp2
            go_ret
            exact ⟨rfl, bstep bbw b9⟩
end Go.Proofs.Ytimalojaiaofkaa.His
