import Derived.Test.YtimalojaiaofkaaSqRingRoom9
set_option linter.unusedVariables false
set_option linter.unusedSimpArgs false
namespace Go.Proofs.Ytimalojaiaofkaa.Rng
open Go.RowKit Base Sp Flat Go.Proofs.YtimalojaiaofkaaW.PrintWords Go.Shelf Smp His
theorem rm0 (n : Qn) (h : 0 ≤ n.room) (hd : 0 ≤ n.depth) : Rm n ⟨[], 0, 0⟩ 0 true := ⟨h, fun _ _ _ => hd, fun _ => ⟨rfl, Int.le_refl _⟩, Int.le_refl _⟩
/-- A frame with new values in slots 6, 7 and 36 to 73. -/
def updf (l : List Value) (v6 v7 : Value) (us : List Value) : List Value := l.take 6 ++ (v6 :: v7 :: ((l.drop 8).take 28 ++ (us ++ l.drop 74)))
theorem tailcut {P : Program} {ops : Array Oper} {Q : Exit → Act → World → Prop} {rest : List Oper} {a : Act} {w : World} (K : Act → World → Prop) (Pre : Value → Value → World → Prop)
    (h1 : ∀ (v6 v7 u36 u37 u38 u39 u40 u41 u42 u43 u44 u45 u46 u47 u48 u49 u50 u51 u52 u53 u54 u55 u56 u57 u58 u59 u60 u61 u62 u63 u64 u65 u66 u67 u68 u69 u70 u71 u72 u73 : Value) (W : World), Pre v6 v7 W → K { tmps := (updf a.tmps.toList v6 v7 [u36, u37, u38, u39, u40, u41, u42, u43, u44, u45, u46, u47, u48, u49, u50, u51, u52, u53, u54, u55, u56, u57, u58, u59, u60, u61, u62, u63, u64, u65, u66, u67, u68, u69, u70, u71, u72, u73]).toArray, defers := a.defers } W)
    (h2 : (∀ (v6 v7 u36 u37 u38 u39 u40 u41 u42 u43 u44 u45 u46 u47 u48 u49 u50 u51 u52 u53 u54 u55 u56 u57 u58 u59 u60 u61 u62 u63 u64 u65 u66 u67 u68 u69 u70 u71 u72 u73 : Value) (W : World), Pre v6 v7 W → K { tmps := (updf a.tmps.toList v6 v7 [u36, u37, u38, u39, u40, u41, u42, u43, u44, u45, u46, u47, u48, u49, u50, u51, u52, u53, u54, u55, u56, u57, u58, u59, u60, u61, u62, u63, u64, u65, u66, u67, u68, u69, u70, u71, u72, u73]).toArray, defers := a.defers } W) → wpList P ops Q rest a w) : wpList P ops Q rest a w := h2 h1
def cnm (s : Smp) (xs : List Smp) (m : Nat) : Nat := if s.op = 1 then cntr s (xs.take m) else 0
theorem cnm_0 (s : Smp) (xs : List Smp) : cnm s xs 0 = 0 := by unfold cnm cntr; split <;> simp
theorem cnm_step (s : Smp) (xs : List Smp) {m : Nat} (h : m < xs.length) : cnm s xs (m + 1) = cnm s xs m + (if s.op = 1 ∧ itr s xs[m] = true then 1 else 0) := by
  unfold cnm
  by_cases ho : s.op = 1
  · rw [if_pos ho, if_pos ho, List.take_succ_eq_append_getElem h, cntr_app]
    simp [ho]
  · rw [if_neg ho, if_neg ho, if_neg (fun h => ho h.1)]
theorem cnm_le (s : Smp) (xs : List Smp) (m : Nat) : cnm s xs m ≤ m := by
  unfold cnm cntr
  split
  · exact Nat.le_trans List.countP_le_length (by rw [List.length_take]; exact Nat.min_le_left _ _)
  · exact Nat.zero_le _
theorem cnm_end {n : Qn} {xs : List Smp} (s : Smp) {k1 : Int} (hn : n.depth = mx0 k1) (hk : 0 < k1) (h : 0 < n.depth → ∀ s : Smp, s.op = 1 → (cntr s xs : Int) ≤ n.depth) : (cnm s xs xs.length : Int) ≤ k1 := by
  have hd : n.depth = k1 := by rw [hn]; unfold mx0; rw [if_neg (by omega)]
  unfold cnm
  split
  · rename_i ho
    rw [List.take_length]
    have := h (by omega) s ho
    omega
  · omega
theorem row_keyr {w : World} {F : Nat → Prop} {g cap n : Nat} {xs : List Smp} (h : Row w F (.slice (some ⟨g, 0, none⟩) n cap) xs) {i : Nat} (hi : i < xs.length) : w.rangeAt g (i * 23 + 5) (nums .u8 (xs[i]).key) := fun k v hk => by
  have hl : (head xs[i]).length = 5 := rfl
  have := h.range hi (5 + k) v (by
    unfold cells
    rw [List.getElem?_append_right (by rw [hl]; omega), hl, show 5 + k - 5 = k by omega, List.getElem?_append_left (List.getElem?_eq_some_iff.1 hk).1]
    exact hk)
  rwa [← Nat.add_assoc] at this
def upB (l : List Value) (v6 : Value) (us : List Value) : List Value := l.take 6 ++ (v6 :: ((l.drop 7).take 67 ++ (us ++ l.drop 77)))
def upC (l : List Value) (us : List Value) : List Value := l.take 77 ++ (us ++ l.drop 91)
theorem cutw {P : Program} {code : Code} {Q : Exit → Act → World → Prop} {a : Act} {w : World} (h : ∀ a0 : Act, a0 = a → Code.wp P code Q a w) : Code.wp P code Q a w := h a rfl
set_option maxHeartbeats 4000000 in
set_option maxRecDepth 20000 in
theorem room (k0 k1 k2 : Int) (A : Option Addr) (cap : Nat) (l : List Rst) (w : World) (hC : Kd.C krst w A l.length l) (h0 : k0 < 9223372036854775808) (h1 : k1 < 9223372036854775808) :
    Calls Try.prog 12 #[.agg #[.int .i64 k0, .int .i64 k1, .int .i64 k2], .slice A l.length cap] w fun e w' => e = .returned (.bool true) ∧ Below w.heap.size w w' := by
  have bb1 : Below w.heap.size w (w.alloc (.cells #[.int .i64 k0, .int .i64 k1, .int .i64 k2] 79)) := (Below.refl _ _).alloc (Nat.le_refl _) _
  by_cases hl : (l.length : Int) > 200
  · have hl1 : (200 : Int) < (l.length : Int) := by omega
    clear hl h0 h1
    go_enter Try.func12, Try.ntmps12
    go_wp2_with fail
    refine (awake _).mono ?_
    rintro e w1 ⟨rfl, b1⟩
    go_wp2
    go_ret
    exact ⟨rfl, bstep bb1 b1⟩
  · have hl1 : ¬ (200 : Int) < (l.length : Int) := by omega
    have n0 := heap_alloc_new w (.cells #[.int .i64 k0, .int .i64 k1, .int .i64 k2] 79)
    have c0 : (w.alloc (.cells #[.int .i64 k0, .int .i64 k1, .int .i64 k2] 79)).cell? ⟨w.heap.size, 0, none⟩ = some (.int .i64 k0) := blk_cell n0 0
    have c1 : (w.alloc (.cells #[.int .i64 k0, .int .i64 k1, .int .i64 k2] 79)).cell? ⟨w.heap.size, 1, none⟩ = some (.int .i64 k1) := blk_cell n0 1
    have c2 : (w.alloc (.cells #[.int .i64 k0, .int .i64 k1, .int .i64 k2] 79)).cell? ⟨w.heap.size, 2, none⟩ = some (.int .i64 k2) := blk_cell n0 2
    have C0 := new k0 k1 k2 (w.alloc (.cells #[.int .i64 k0, .int .i64 k1, .int .i64 k2] 79)) h0 h1
    have HC := Lib.hid hC
    have HL : Hid (l.length ≤ 200) := Lib.hid (by omega)
    have HB1 := Lib.hid bb1
    have HB0 : Hid (w.heap.size < (w.alloc (.cells #[.int .i64 k0, .int .i64 k1, .int .i64 k2] 79)).heap.size) := Lib.hid (by simp)
    have HK := Lib.hid (And.intro c0 c1)
    clear hl hC n0 h0 h1 bb1
    generalize hn : (⟨mx0 k0, mx0 k1, k2 != 0⟩ : Qn) = n at C0
    have HN : Hid (n.room = mx0 k0 ∧ n.depth = mx0 k1) := Lib.hid (by rw [← hn]; exact ⟨rfl, rfl⟩)
    clear hn
    go_enter Try.func12, Try.ntmps12
    go_wp2_with fail
    generalize hW : w.alloc (.cells #[.int .i64 k0, .int .i64 k1, .int .i64 k2] 79) = w1 at *
    clear hW c0 c1 c2
    refine C0.mono ?_
    rintro e w2 ⟨rfl, q2, b2⟩
    have HQ2 := Lib.hid (And.intro q2 b2)
    generalize hc : w1.heap.size = c at *
    have HCC := Lib.hid hc
    clear C0 b2 q2 hc
    go_wp2
    go_loopw [6, 7, 8] (fun v6 v7 v8 wr => ∃ (i : Nat) (came : Int) (fine : Bool) (q : St) (F : Nat → Prop), v6 = .int .i64 came ∧ v7 = .bool fine ∧ v8 = .int .i64 (i : Int) ∧ i ≤ l.length ∧ came ≤ i ∧ Rm n q came fine ∧ Bd i q ∧ QS wr F c n q.lost q.ev q.xs ∧ Fr c F c ∧ Below c w1 wr) (fun _ _ v8 _ => l.length - (intOf v8).toNat)
    case atStart => exact ⟨0, 0, true, ⟨[], 0, 0⟩, fun _ => False, rfl, rfl, rfl, Nat.zero_le _, Int.le_refl _, rm0 n HQ2.out.1.r0 HQ2.out.1.d0, ⟨Nat.le_refl _, Int.le_refl _, Int.le_refl _, Int.le_refl _, Int.le_refl _⟩, HQ2.out.1, ⟨Nat.le_refl _, fun k h => h.elim⟩, HQ2.out.2⟩
    case round =>
      obtain ⟨i, came, fine, q, F, rfl, rfl, rfl, hi, hce, hR, hB, hq, hf, bb⟩ := hrel
      by_cases hlt : i < l.length
      · obtain ⟨ad, rfl, st⟩ := rst_at HC.out hlt
        have bw : Below w.heap.size w wr := bstep HB1.out (HCC.out ▸ bb)
        have stw := st.below bw st.lt
        have q0 : (0 : Int) ≤ (i : Int) := by omega
        have q1 : (i : Int) < (l.length : Int) := by omega
        have hwi : wrap64 ((i : Int) + 1) = ((i + 1 : Nat) : Int) := by have := HL.out; unfold wrap64; omega
        have hi1 : Hid (i + 1 ≤ l.length) := Lib.hid (by omega)
        have hms : Hid (l.length - (intOf (.int .i64 ((i + 1 : Nat) : Int))).toNat < l.length - (intOf (.int .i64 (i : Int))).toNat) := Lib.hid (meas _ _ hlt)
        have hi200 : Hid (i + 1 ≤ 200) := Lib.hid (by have := HL.out; omega)
        have HCE := Lib.hid hce
        have HR0 := Lib.hid hR
        have HB0' := Lib.hid hB
        have HQ0 := Lib.hid hq
        have HF0 := Lib.hid hf
        have BB0 := Lib.hid bb
        generalize l[i] = x at st stw
        clear hlt hi hR hB hq hf bb st hce bw
        go_wp2_with (first | ((with_reducible refine gate_dst (N := 34) rfl ?_); refine load_any (by kernel_rfl) 84 (.tmp 33) rfl _ rfl (rstc x) _ stw.all Try.underlying84 rfl (rst26 x) ?_; clear stw) | ((with_reducible refine gate_dst (N := 9) rfl ?_); refine box_event rfl (N := 9) rfl (cs := (rstc zrst).toArray) (t := 84) ?hr ?_; (case hr => go_simp; rfl); intro gb hgb w8 hbox hb; subst hgb) | ((with_reducible refine gate_store (p := 9) (v := .tmp 34) rfl ?_); refine store_ev rfl 84 (.tmp 9) (.tmp 34) rfl wr.heap.size 0 (rstc x) rfl rfl (there_of hbox (by rw [rstc_len, rstc_len]; omega)) (rst26 x) (rstc_one x) ?_; intro w9 hw9; obtain ⟨B9, n9⟩ := rbox_alive hb hb.size hbox hw9; clear hb hbox hw9) | ((with_reducible refine gate_dst (N := 36) rfl ?_); refine Hid.out (p := _) ?_) | fail)
        rename_i K1 hK1 K0 hK0
        have H9 := Lib.hid (And.intro B9 n9)
        clear B9 n9
        refine Lib.hid ?_
        refine tailcut K1 (fun v6 v7 W => ∃ (q' : St) (F' : Nat → Prop) (came' : Int) (fine' : Bool), v6 = .int .i64 came' ∧ v7 = .bool fine' ∧ came' ≤ ((i + 1 : Nat) : Int) ∧ Rm n q' came' fine' ∧ Bd (i + 1) q' ∧ QS W F' c n q'.lost q'.ev q'.xs ∧ Fr c F' c ∧ Below c w1 W) ?_ ?_
        · clear hK0 H9 HR0 HB0' HQ0 HF0 BB0 HCE
          rintro _ _ u36 u37 u38 u39 u40 u41 u42 u43 u44 u45 u46 u47 u48 u49 u50 u51 u52 u53 u54 u55 u56 u57 u58 u59 u60 u61 u62 u63 u64 u65 u66 u67 u68 u69 u70 u71 u72 u73 w11 ⟨q', F', came', fine', rfl, rfl, hce2, hR2, hB2, q2, hf2, bb2⟩
          simp only [updf, List.take_succ_cons, List.take_zero, List.drop_succ_cons, List.drop_zero, List.cons_append, List.nil_append]
          refine hK1 _ _ ?_
          clear hK1
          refine cutw (fun a0 ha0 => ?_)
          have HA0 := Lib.hid ha0
          clear ha0
          have HRa := Lib.hid hR2
          have HBa := Lib.hid hB2
          have HFa := Lib.hid hf2
          have BBa := Lib.hid bb2
          have HQa := Lib.hid q2
          have HCa := Lib.hid hce2
          have C5 := len q2
          have y0k := cbel bb2 HK.out.1 HB0.out
          have y1k := cbel bb2 HK.out.2 HB0.out
          clear hR2 hB2 hf2 bb2 q2 hce2
          go_wp2_with fail
          rename_i K22 hK22 K22b hK22b K22c hK22c
          have TB : ∀ (v6 v74 v75 v76 : Value) (W : World), (∃ came2 : Int, v6 = .int .i64 came2 ∧ came2 ≤ ((i + 1 : Nat) : Int) ∧ Rm n q' came2 fine' ∧ w11 = W) → K22 { tmps := (upB a0.tmps.toList v6 [v74, v75, v76]).toArray, defers := a0.defers } W := by
            rintro _ v74 v75 v76 _ ⟨came2, rfl, hc2, hR3, rfl⟩
            rw [HA0.out]
            simp only [upB, List.take_succ_cons, List.take_zero, List.drop_succ_cons, List.drop_zero, List.cons_append, List.nil_append]
            refine hK22 _ _ ?_
            clear hK22 hK22b hK22c C5 HCa
            have HCa := Lib.hid hc2
            have HR3 := Lib.hid hR3
            clear hc2 hR3
            refine cutw (fun a1 ha1 => ?_)
            have HA1 := Lib.hid ha1
            clear ha1
            go_wp2_with fail
            rename_i K24 hK24 K24b hK24b
            have QD : QS w11.drew F' c n q'.lost q'.ev q'.xs := HQa.out.below (below_drew (Below.refl _ _))
            have C6 := len QD
            have TC : ∀ z77 z78 z79 z80 z81 z82 z83 z84 z85 z86 z87 z88 z89 z90 : Value, K24 { tmps := (upC a1.tmps.toList [z77, z78, z79, z80, z81, z82, z83, z84, z85, z86, z87, z88, z89, z90]).toArray, defers := a1.defers } w11.drew := by
              intro z77 z78 z79 z80 z81 z82 z83 z84 z85 z86 z87 z88 z89 z90
              rw [HA1.out]
              simp only [upC, List.take_succ_cons, List.take_zero, List.drop_succ_cons, List.drop_zero, List.cons_append, List.nil_append]
              refine hK24 _ _ ?_
              clear hK24 hK24b QD
              go_wp2_with fail
              refine C6.mono ?_
              rintro e w13 ⟨rfl, rfl⟩
              have C8 := read (HQa.out.below (w' := w11.drew) (below_drew (Below.refl _ _))) (by have h := HBa.out.1; have h2 := hi200.out; omega) (q'.xs.length : Int)
              rw [Int.toNat_natCast, List.take_length] at C8
              clear C6
              go_wp2_with fail
              refine C8.mono ?_
              rintro e w14 ⟨v14, rfl, r14, b14⟩
              have HR14 := Lib.hid (And.intro r14 b14)
              obtain ⟨A14, c14, rfl, h141, h142⟩ := r14.slice
              have y1e := cbel b14 (show w11.drew.cell? ⟨w.heap.size, 1, none⟩ = some (.int .i64 k1) from y1k) (by have := HB0.out; have := HQa.out.lt; exact Nat.lt_trans HB0.out HQa.out.lt)
              have hw14 : Hid (w.heap.size < w14.heap.size) := Lib.hid (Nat.lt_of_lt_of_le (Nat.lt_trans HB0.out HQa.out.lt) b14.size)
              have HL5 : Hid (q'.xs.length ≤ 200) := Lib.hid (by have h := HBa.out.1; have h2 := hi200.out; omega)
              have HIT := Lib.hid HR3.out.its
              clear h141 h142 r14 b14 C8 y0k y1k
              go_wp2_with fail
              go_loopw [11] (fun v11 wz => ∃ j : Nat, v11 = .int .i64 (j : Int) ∧ j ≤ q'.xs.length ∧ Below w14.heap.size w14 wz) (fun v11 _ => q'.xs.length - (intOf v11).toNat)
              case atStart => exact ⟨0, rfl, Nat.zero_le _, Below.refl _ _⟩
              case round =>
                obtain ⟨j, rfl, hj, bz⟩ := hrel
                rename World => wz
                have yk := cbel bz y1e hw14.out
                have hq2 : QS wz F' c n q'.lost q'.ev q'.xs := ((HQa.out.below (w' := w11.drew) (below_drew (Below.refl _ _))).below HR14.out.2).below bz
                have hbz2 : Below c w1 wz := BBa.out.trans ((bstep (bstep (below_drew (Below.refl w11.heap.size w11)) HR14.out.2) bz).mono (Nat.le_of_lt HQa.out.lt))
                have HZ := Lib.hid (And.intro hq2 hbz2)
                clear hq2 hbz2
                by_cases hjl : j < q'.xs.length
                · have r1 : (j : Int) < (q'.xs.length : Int) := by omega
                  have r0 : (0 : Int) ≤ (j : Int) := by omega
                  have hj1 : wrap64 ((j : Int) + 1) = ((j + 1 : Nat) : Int) := by have := HL5.out; unfold wrap64; omega
                  have HJ1 := Lib.hid hj1
                  by_cases hk : 0 < k1
                  · have HKK := Lib.hid hk
                    have hjl2 := Lib.hid hjl
                    have HBZ := Lib.hid bz
                    obtain ⟨g, rfl⟩ := Row.addr HR14.out.1 hjl
                    have sw := HR14.out.1.below bz
                    have hsm : 0 < n.depth := by rw [HN.out.2]; unfold mx0; rw [if_neg (by omega)]; exact hk
                    have HSM := Lib.hid hsm
                    obtain ⟨s, hs⟩ : ∃ s, s = q'.xs[j] := ⟨_, rfl⟩
                    have HS := Lib.hid hs
                    clear hs hsm hjl hj bz sw hj1
                    go_wp2
                    go_loopw [12, 13] (fun v12 v13 wy => ∃ m : Nat, v12 = .int .i64 (cnm s q'.xs m : Int) ∧ v13 = .int .i64 (m : Int) ∧ m ≤ q'.xs.length ∧ Below w14.heap.size w14 wy) (fun _ v13 _ => q'.xs.length - (intOf v13).toNat)
                    case atStart => exact ⟨0, by rw [cnm_0]; rfl, rfl, Nat.zero_le _, HBZ.out⟩
                    case round =>
                      obtain ⟨m, rfl, rfl, hm, by_⟩ := hrel
                      rename World => wy
                      by_cases hml : m < q'.xs.length
                      · have p1 : (m : Int) < (q'.xs.length : Int) := by omega
                        have p0 : (0 : Int) ≤ (m : Int) := by omega
                        have hm1 : wrap64 ((m : Int) + 1) = ((m + 1 : Nat) : Int) := by have := HL5.out; unfold wrap64; omega
                        have HM1 := Lib.hid hm1
                        clear hm1
                        have hml2 := Lib.hid hml
                        have hcs := cnm_step s q'.xs hml
                        have hcl := cnm_le s q'.xs m
                        have sy := HR14.out.1.below by_
                        have t0 : wy.cell? ⟨g, m * 23, none⟩ = some (.int .i64 (q'.xs[m]).op) := sy.range hml 0 _ rfl
                        have t1 : wy.cell? ⟨g, m * 23 + 1, none⟩ = some (.int .i64 (q'.xs[m]).writer) := sy.range hml 1 _ rfl
                        have t5 : wy.rangeAt g (m * 23 + 5) (nums .u8 (q'.xs[m]).key) := row_keyr sy hml
                        have a0 : wy.cell? ⟨g, j * 23, none⟩ = some (.int .i64 (q'.xs[j]).op) := sy.range hjl2.out 0 _ rfl
                        have a1 : wy.cell? ⟨g, j * 23 + 1, none⟩ = some (.int .i64 (q'.xs[j]).writer) := sy.range hjl2.out 1 _ rfl
                        have a5 : wy.rangeAt g (j * 23 + 5) (nums .u8 (q'.xs[j]).key) := row_keyr sy hjl2.out
                        rw [← HS.out] at a0 a1 a5
                        generalize q'.xs[m] = x1 at t0 t1 t5 hcs
                        have HBY := Lib.hid by_
                        obtain ⟨cm1, hc1⟩ : ∃ cm1, cm1 = cnm s q'.xs (m + 1) := ⟨_, rfl⟩
                        rw [← hc1] at hcs
                        have HC1 := Lib.hid hc1
                        have hwc : wrap64 ((cnm s q'.xs m : Int) + 1) = ((cnm s q'.xs m + 1 : Nat) : Int) := by have := HL5.out; unfold wrap64; omega
                        have HWC := Lib.hid hwc
                        generalize cnm s q'.xs m = cm at *
                        clear hcl hc1 sy by_ hm hml hwc
                        by_cases hxo : x1.op = 1
                        · by_cases hso : s.op = 1
                          · by_cases hww : x1.writer = s.writer
                            · by_cases hkk : x1.key = s.key
                              · rw [if_pos ⟨hso, by unfold itr; simp [hxo, hso, hww, hkk]⟩] at hcs
                                have HCS := Lib.hid hcs
                                have hq := fun W => key_eql x1 s W
                                rw [decide_eq_true hkk] at hq
                                rw [hxo] at t0
                                rw [hso] at a0
                                rw [hww] at t1
                                clear hcs hxo hso hww hkk
                                go_wp2_with fail
                                refine Reg.wp_plan (S := fun w' => w'.cell? ⟨g, m * 23, none⟩ = some (.int .i64 1) ∧ w'.cell? ⟨g, j * 23, none⟩ = some (.int .i64 1) ∧ w'.cell? ⟨g, m * 23 + 1, none⟩ = some (.int .i64 s.writer) ∧ w'.cell? ⟨g, j * 23 + 1, none⟩ = some (.int .i64 s.writer) ∧ w'.rangeAt g (m * 23 + 5) (nums .u8 x1.key) ∧ w'.rangeAt g (j * 23 + 5) (nums .u8 s.key)) 40 (.fl 0 (.fl 1 (.fl 2 (.fl 3 (.fl 4 (.fl 5 (.fl 6 (.fl 7 (.fl 8 (.fl 9 (.fl 10 (.fl 11 (.fl 12 (.fl 13 (.fl 14 (.fl 15 (.fl 16 (.fl 17 (.fl 18 (.fl 19 (.fl 20 (.fl 21 (.fl 22 (.fl 23 (.fl 24 (.fl 25 (.fl 26 (.fl 27 (.fl 28 (.fl 29 (.fl 30 (.fl 31 (.fl 32 (.fl 33 (.fl 34 (.fl 35 (.fl 36 (.fl 37 (.fl 38 (.fl 39 .done)))))))))))))))))))))))))))))))))))))))) (by kernel_rfl) (by kernel_rfl) (by kernel_rfl) (by kernel_rfl) (fun _ _ _ d _ h => by cases d <;> exact h) ?_ (fun hHeld => ?_)
                                · exact ⟨t0, a0, t1, a1, t5, a5⟩
                                refine Reg.G_on (o := { dst := some 112, op := Op.move (Operand.tmp 10), type := 56, pos := "law.go:101", after := #[], guard := Option.none }) (v := ?_) (by rfl) ?_ (fun wS hSw => ?_) ?_
                                rotate_left
                                · kernel_rfl
                                · (try dsimp only at hSw); go_simp; (try with_reducible rfl)
                                try simp only [Act.put, List.setIfInBounds_toArray, List.set_cons_zero, List.set_cons_succ]
                                refine Reg.G_on (o := { dst := some 113, op := Op.move (Operand.tmp 13), type := 3, pos := "law.go:101", after := #[], guard := Option.none }) (v := ?_) (by rfl) ?_ (fun wS hSw => ?_) ?_
                                rotate_left
                                · kernel_rfl
                                · (try dsimp only at hSw); go_simp; (try with_reducible rfl)
                                try simp only [Act.put, List.setIfInBounds_toArray, List.set_cons_zero, List.set_cons_succ]
                                refine Reg.G_on (o := { dst := some 114, op := Op.indexAddr 56 (Operand.tmp 112) (Operand.tmp 113), type := 0, pos := "law.go:101", after := #[{ on := 0, ground := Ground.data }, { on := 1, ground := Ground.data }], guard := Option.none }) (v := ?_) (by rfl) ?_ (fun wS hSw => ?_) ?_
                                rotate_left
                                · kernel_rfl
                                · (try dsimp only at hSw); go_simp; (try with_reducible rfl)
                                try simp only [Act.put, List.setIfInBounds_toArray, List.set_cons_zero, List.set_cons_succ]
                                refine Reg.G_on (o := { dst := some 115, op := Op.fieldAddr 60 (Operand.tmp 114) 0, type := 0, pos := "law.go:101", after := #[{ on := 2, ground := Ground.data }], guard := Option.none }) (v := ?_) (by rfl) ?_ (fun wS hSw => ?_) ?_
                                rotate_left
                                · kernel_rfl
                                · (try dsimp only at hSw); go_simp; (try with_reducible rfl)
                                try simp only [Act.put, List.setIfInBounds_toArray, List.set_cons_zero, List.set_cons_succ]
                                refine Reg.G_on (o := { dst := some 116, op := Op.load 3 (Operand.tmp 115), type := 3, pos := "law.go:101", after := #[{ on := 3, ground := Ground.data }], guard := Option.none }) (v := ?_) (by rfl) ?_ (fun wS hSw => ?_) ?_
                                rotate_left
                                · kernel_rfl
                                · (try dsimp only at hSw); go_simp; (try with_reducible rfl)
                                try simp only [Act.put, List.setIfInBounds_toArray, List.set_cons_zero, List.set_cons_succ]
                                refine Reg.G_on (o := { dst := some 117, op := Op.binOp BinOp.eql 3 (Operand.tmp 116) (Operand.const (Value.int IntKind.i64 1)) 3, type := 4, pos := "law.go:101", after := #[{ on := 4, ground := Ground.data }], guard := Option.none }) (v := ?_) (by rfl) ?_ (fun wS hSw => ?_) ?_
                                rotate_left
                                · kernel_rfl
                                · (try dsimp only at hSw); go_simp; (try with_reducible rfl)
                                try simp only [Act.put, List.setIfInBounds_toArray, List.set_cons_zero, List.set_cons_succ]
                                refine Reg.G_on (o := { dst := some 118, op := Op.move (Operand.tmp 117), type := 4, pos := "law.go:101", after := #[{ on := 5, ground := Ground.data }], guard := Option.none }) (v := ?_) (by rfl) ?_ (fun wS hSw => ?_) ?_
                                rotate_left
                                · kernel_rfl
                                · (try dsimp only at hSw); go_simp; (try with_reducible rfl)
                                try simp only [Act.put, List.setIfInBounds_toArray, List.set_cons_zero, List.set_cons_succ]
                                refine Reg.G_on (o := { dst := some 119, op := Op.move (Operand.tmp 10), type := 56, pos := "law.go:101", after := #[{ on := 6, ground := Ground.guard }], guard := some (6, true) }) (v := ?_) (by rfl) ?_ (fun wS hSw => ?_) ?_
                                rotate_left
                                · kernel_rfl
                                · (try dsimp only at hSw); go_simp; (try with_reducible rfl)
                                try simp only [Act.put, List.setIfInBounds_toArray, List.set_cons_zero, List.set_cons_succ]
                                refine Reg.G_on (o := { dst := some 120, op := Op.move (Operand.tmp 11), type := 3, pos := "law.go:101", after := #[{ on := 6, ground := Ground.guard }], guard := some (6, true) }) (v := ?_) (by rfl) ?_ (fun wS hSw => ?_) ?_
                                rotate_left
                                · kernel_rfl
                                · (try dsimp only at hSw); go_simp; (try with_reducible rfl)
                                try simp only [Act.put, List.setIfInBounds_toArray, List.set_cons_zero, List.set_cons_succ]
                                refine Reg.G_on (o := { dst := some 121, op := Op.indexAddr 56 (Operand.tmp 119) (Operand.tmp 120), type := 0, pos := "law.go:101", after := #[{ on := 7, ground := Ground.data }, { on := 8, ground := Ground.data }, { on := 6, ground := Ground.guard }], guard := some (6, true) }) (v := ?_) (by rfl) ?_ (fun wS hSw => ?_) ?_
                                rotate_left
                                · kernel_rfl
                                · (try dsimp only at hSw); go_simp; (try with_reducible rfl)
                                try simp only [Act.put, List.setIfInBounds_toArray, List.set_cons_zero, List.set_cons_succ]
                                refine Reg.G_on (o := { dst := some 122, op := Op.fieldAddr 60 (Operand.tmp 121) 0, type := 0, pos := "law.go:101", after := #[{ on := 9, ground := Ground.data }, { on := 6, ground := Ground.guard }], guard := some (6, true) }) (v := ?_) (by rfl) ?_ (fun wS hSw => ?_) ?_
                                rotate_left
                                · kernel_rfl
                                · (try dsimp only at hSw); go_simp; (try with_reducible rfl)
                                try simp only [Act.put, List.setIfInBounds_toArray, List.set_cons_zero, List.set_cons_succ]
                                refine Reg.G_on (o := { dst := some 123, op := Op.load 3 (Operand.tmp 122), type := 3, pos := "law.go:101", after := #[{ on := 10, ground := Ground.data }, { on := 6, ground := Ground.guard }], guard := some (6, true) }) (v := ?_) (by rfl) ?_ (fun wS hSw => ?_) ?_
                                rotate_left
                                · kernel_rfl
                                · (try dsimp only at hSw); go_simp; (try with_reducible rfl)
                                try simp only [Act.put, List.setIfInBounds_toArray, List.set_cons_zero, List.set_cons_succ]
                                refine Reg.G_on (o := { dst := some 124, op := Op.binOp BinOp.eql 3 (Operand.tmp 123) (Operand.const (Value.int IntKind.i64 1)) 3, type := 4, pos := "law.go:101", after := #[{ on := 11, ground := Ground.data }, { on := 6, ground := Ground.guard }], guard := some (6, true) }) (v := ?_) (by rfl) ?_ (fun wS hSw => ?_) ?_
                                rotate_left
                                · kernel_rfl
                                · (try dsimp only at hSw); go_simp; (try with_reducible rfl)
                                try simp only [Act.put, List.setIfInBounds_toArray, List.set_cons_zero, List.set_cons_succ]
                                refine Reg.G_on (o := { dst := some 125, op := Op.pick (Operand.tmp 118) (Operand.tmp 124) (Operand.const (Value.bool false)), type := 4, pos := "law.go:101", after := #[{ on := 6, ground := Ground.data }, { on := 12, ground := Ground.data }], guard := Option.none }) (v := ?_) (by rfl) ?_ (fun wS hSw => ?_) ?_
                                rotate_left
                                · kernel_rfl
                                · (try dsimp only at hSw); go_simp; (try with_reducible rfl)
                                try simp only [Act.put, List.setIfInBounds_toArray, List.set_cons_zero, List.set_cons_succ]
                                refine Reg.G_on (o := { dst := some 126, op := Op.move (Operand.tmp 125), type := 4, pos := "law.go:101", after := #[{ on := 13, ground := Ground.data }, { on := 6, ground := Ground.chain }], guard := Option.none }) (v := ?_) (by rfl) ?_ (fun wS hSw => ?_) ?_
                                rotate_left
                                · kernel_rfl
                                · (try dsimp only at hSw); go_simp; (try with_reducible rfl)
                                try simp only [Act.put, List.setIfInBounds_toArray, List.set_cons_zero, List.set_cons_succ]
                                refine Reg.G_on (o := { dst := some 127, op := Op.move (Operand.tmp 10), type := 56, pos := "law.go:101", after := #[{ on := 14, ground := Ground.guard }], guard := some (14, true) }) (v := ?_) (by rfl) ?_ (fun wS hSw => ?_) ?_
                                rotate_left
                                · kernel_rfl
                                · (try dsimp only at hSw); go_simp; (try with_reducible rfl)
                                try simp only [Act.put, List.setIfInBounds_toArray, List.set_cons_zero, List.set_cons_succ]
                                refine Reg.G_on (o := { dst := some 128, op := Op.move (Operand.tmp 13), type := 3, pos := "law.go:101", after := #[{ on := 14, ground := Ground.guard }], guard := some (14, true) }) (v := ?_) (by rfl) ?_ (fun wS hSw => ?_) ?_
                                rotate_left
                                · kernel_rfl
                                · (try dsimp only at hSw); go_simp; (try with_reducible rfl)
                                try simp only [Act.put, List.setIfInBounds_toArray, List.set_cons_zero, List.set_cons_succ]
                                refine Reg.G_on (o := { dst := some 129, op := Op.indexAddr 56 (Operand.tmp 127) (Operand.tmp 128), type := 0, pos := "law.go:101", after := #[{ on := 15, ground := Ground.data }, { on := 16, ground := Ground.data }, { on := 14, ground := Ground.guard }], guard := some (14, true) }) (v := ?_) (by rfl) ?_ (fun wS hSw => ?_) ?_
                                rotate_left
                                · kernel_rfl
                                · (try dsimp only at hSw); go_simp; (try with_reducible rfl)
                                try simp only [Act.put, List.setIfInBounds_toArray, List.set_cons_zero, List.set_cons_succ]
                                refine Reg.G_on (o := { dst := some 130, op := Op.fieldAddr 60 (Operand.tmp 129) 1, type := 0, pos := "law.go:101", after := #[{ on := 17, ground := Ground.data }, { on := 14, ground := Ground.guard }], guard := some (14, true) }) (v := ?_) (by rfl) ?_ (fun wS hSw => ?_) ?_
                                rotate_left
                                · kernel_rfl
                                · (try dsimp only at hSw); go_simp; (try with_reducible rfl)
                                try simp only [Act.put, List.setIfInBounds_toArray, List.set_cons_zero, List.set_cons_succ]
                                refine Reg.G_on (o := { dst := some 131, op := Op.load 3 (Operand.tmp 130), type := 3, pos := "law.go:101", after := #[{ on := 18, ground := Ground.data }, { on := 14, ground := Ground.guard }], guard := some (14, true) }) (v := ?_) (by rfl) ?_ (fun wS hSw => ?_) ?_
                                rotate_left
                                · kernel_rfl
                                · (try dsimp only at hSw); go_simp; (try with_reducible rfl)
                                try simp only [Act.put, List.setIfInBounds_toArray, List.set_cons_zero, List.set_cons_succ]
                                refine Reg.G_on (o := { dst := some 132, op := Op.move (Operand.tmp 10), type := 56, pos := "law.go:101", after := #[{ on := 14, ground := Ground.guard }], guard := some (14, true) }) (v := ?_) (by rfl) ?_ (fun wS hSw => ?_) ?_
                                rotate_left
                                · kernel_rfl
                                · (try dsimp only at hSw); go_simp; (try with_reducible rfl)
                                try simp only [Act.put, List.setIfInBounds_toArray, List.set_cons_zero, List.set_cons_succ]
                                refine Reg.G_on (o := { dst := some 133, op := Op.move (Operand.tmp 11), type := 3, pos := "law.go:101", after := #[{ on := 14, ground := Ground.guard }], guard := some (14, true) }) (v := ?_) (by rfl) ?_ (fun wS hSw => ?_) ?_
                                rotate_left
                                · kernel_rfl
                                · (try dsimp only at hSw); go_simp; (try with_reducible rfl)
                                try simp only [Act.put, List.setIfInBounds_toArray, List.set_cons_zero, List.set_cons_succ]
                                refine Reg.G_on (o := { dst := some 134, op := Op.indexAddr 56 (Operand.tmp 132) (Operand.tmp 133), type := 0, pos := "law.go:101", after := #[{ on := 20, ground := Ground.data }, { on := 21, ground := Ground.data }, { on := 14, ground := Ground.guard }], guard := some (14, true) }) (v := ?_) (by rfl) ?_ (fun wS hSw => ?_) ?_
                                rotate_left
                                · kernel_rfl
                                · (try dsimp only at hSw); go_simp; (try with_reducible rfl)
                                try simp only [Act.put, List.setIfInBounds_toArray, List.set_cons_zero, List.set_cons_succ]
                                refine Reg.G_on (o := { dst := some 135, op := Op.fieldAddr 60 (Operand.tmp 134) 1, type := 0, pos := "law.go:101", after := #[{ on := 22, ground := Ground.data }, { on := 14, ground := Ground.guard }], guard := some (14, true) }) (v := ?_) (by rfl) ?_ (fun wS hSw => ?_) ?_
                                rotate_left
                                · kernel_rfl
                                · (try dsimp only at hSw); go_simp; (try with_reducible rfl)
                                try simp only [Act.put, List.setIfInBounds_toArray, List.set_cons_zero, List.set_cons_succ]
                                refine Reg.G_on (o := { dst := some 136, op := Op.load 3 (Operand.tmp 135), type := 3, pos := "law.go:101", after := #[{ on := 23, ground := Ground.data }, { on := 14, ground := Ground.guard }], guard := some (14, true) }) (v := ?_) (by rfl) ?_ (fun wS hSw => ?_) ?_
                                rotate_left
                                · kernel_rfl
                                · (try dsimp only at hSw); go_simp; (try with_reducible rfl)
                                try simp only [Act.put, List.setIfInBounds_toArray, List.set_cons_zero, List.set_cons_succ]
                                refine Reg.G_on (o := { dst := some 137, op := Op.binOp BinOp.eql 3 (Operand.tmp 131) (Operand.tmp 136) 3, type := 4, pos := "law.go:101", after := #[{ on := 19, ground := Ground.data }, { on := 24, ground := Ground.data }, { on := 14, ground := Ground.guard }], guard := some (14, true) }) (v := ?_) (by rfl) ?_ (fun wS hSw => ?_) ?_
                                rotate_left
                                · kernel_rfl
                                · (try dsimp only at hSw); go_simp; (try with_reducible rfl)
                                try simp only [Act.put, List.setIfInBounds_toArray, List.set_cons_zero, List.set_cons_succ]
                                refine Reg.G_on (o := { dst := some 138, op := Op.pick (Operand.tmp 126) (Operand.tmp 137) (Operand.const (Value.bool false)), type := 4, pos := "law.go:101", after := #[{ on := 14, ground := Ground.data }, { on := 25, ground := Ground.data }], guard := Option.none }) (v := ?_) (by rfl) ?_ (fun wS hSw => ?_) ?_
                                rotate_left
                                · kernel_rfl
                                · (try dsimp only at hSw); go_simp; (try with_reducible rfl)
                                try simp only [Act.put, List.setIfInBounds_toArray, List.set_cons_zero, List.set_cons_succ]
                                refine Reg.G_on (o := { dst := some 139, op := Op.move (Operand.tmp 138), type := 4, pos := "law.go:101", after := #[{ on := 26, ground := Ground.data }, { on := 14, ground := Ground.chain }], guard := Option.none }) (v := ?_) (by rfl) ?_ (fun wS hSw => ?_) ?_
                                rotate_left
                                · kernel_rfl
                                · (try dsimp only at hSw); go_simp; (try with_reducible rfl)
                                try simp only [Act.put, List.setIfInBounds_toArray, List.set_cons_zero, List.set_cons_succ]
                                refine Reg.G_on (o := { dst := some 140, op := Op.move (Operand.tmp 10), type := 56, pos := "law.go:101", after := #[{ on := 27, ground := Ground.guard }], guard := some (27, true) }) (v := ?_) (by rfl) ?_ (fun wS hSw => ?_) ?_
                                rotate_left
                                · kernel_rfl
                                · (try dsimp only at hSw); go_simp; (try with_reducible rfl)
                                try simp only [Act.put, List.setIfInBounds_toArray, List.set_cons_zero, List.set_cons_succ]
                                refine Reg.G_on (o := { dst := some 141, op := Op.move (Operand.tmp 13), type := 3, pos := "law.go:101", after := #[{ on := 27, ground := Ground.guard }], guard := some (27, true) }) (v := ?_) (by rfl) ?_ (fun wS hSw => ?_) ?_
                                rotate_left
                                · kernel_rfl
                                · (try dsimp only at hSw); go_simp; (try with_reducible rfl)
                                try simp only [Act.put, List.setIfInBounds_toArray, List.set_cons_zero, List.set_cons_succ]
                                refine Reg.G_on (o := { dst := some 142, op := Op.indexAddr 56 (Operand.tmp 140) (Operand.tmp 141), type := 0, pos := "law.go:101", after := #[{ on := 28, ground := Ground.data }, { on := 29, ground := Ground.data }, { on := 27, ground := Ground.guard }], guard := some (27, true) }) (v := ?_) (by rfl) ?_ (fun wS hSw => ?_) ?_
                                rotate_left
                                · kernel_rfl
                                · (try dsimp only at hSw); go_simp; (try with_reducible rfl)
                                try simp only [Act.put, List.setIfInBounds_toArray, List.set_cons_zero, List.set_cons_succ]
                                refine Reg.G_on (o := { dst := some 143, op := Op.fieldAddr 60 (Operand.tmp 142) 5, type := 0, pos := "law.go:101", after := #[{ on := 30, ground := Ground.data }, { on := 27, ground := Ground.guard }], guard := some (27, true) }) (v := ?_) (by rfl) ?_ (fun wS hSw => ?_) ?_
                                rotate_left
                                · kernel_rfl
                                · (try dsimp only at hSw); go_simp; (try with_reducible rfl)
                                try simp only [Act.put, List.setIfInBounds_toArray, List.set_cons_zero, List.set_cons_succ]
                                refine Reg.G_on (o := { dst := some 144, op := Op.load 53 (Operand.tmp 143), type := 53, pos := "law.go:101", after := #[{ on := 31, ground := Ground.data }, { on := 27, ground := Ground.guard }], guard := some (27, true) }) (v := .agg (nums .u8 x1.key).toArray) (by rfl) ?_ (fun wS hSw => ?_) ?_
                                · kernel_rfl
                                · exact load_yields rfl rfl hSw.2.2.2.2.1 Try.underlying53 rfl (key17 _ (key_len x1))
                                try simp only [Act.put, List.setIfInBounds_toArray, List.set_cons_zero, List.set_cons_succ]
                                refine Reg.G_on (o := { dst := some 145, op := Op.move (Operand.tmp 10), type := 56, pos := "law.go:101", after := #[{ on := 27, ground := Ground.guard }], guard := some (27, true) }) (v := ?_) (by rfl) ?_ (fun wS hSw => ?_) ?_
                                rotate_left
                                · kernel_rfl
                                · (try dsimp only at hSw); go_simp; (try with_reducible rfl)
                                try simp only [Act.put, List.setIfInBounds_toArray, List.set_cons_zero, List.set_cons_succ]
                                refine Reg.G_on (o := { dst := some 146, op := Op.move (Operand.tmp 11), type := 3, pos := "law.go:101", after := #[{ on := 27, ground := Ground.guard }], guard := some (27, true) }) (v := ?_) (by rfl) ?_ (fun wS hSw => ?_) ?_
                                rotate_left
                                · kernel_rfl
                                · (try dsimp only at hSw); go_simp; (try with_reducible rfl)
                                try simp only [Act.put, List.setIfInBounds_toArray, List.set_cons_zero, List.set_cons_succ]
                                refine Reg.G_on (o := { dst := some 147, op := Op.indexAddr 56 (Operand.tmp 145) (Operand.tmp 146), type := 0, pos := "law.go:101", after := #[{ on := 33, ground := Ground.data }, { on := 34, ground := Ground.data }, { on := 27, ground := Ground.guard }], guard := some (27, true) }) (v := ?_) (by rfl) ?_ (fun wS hSw => ?_) ?_
                                rotate_left
                                · kernel_rfl
                                · (try dsimp only at hSw); go_simp; (try with_reducible rfl)
                                try simp only [Act.put, List.setIfInBounds_toArray, List.set_cons_zero, List.set_cons_succ]
                                refine Reg.G_on (o := { dst := some 148, op := Op.fieldAddr 60 (Operand.tmp 147) 5, type := 0, pos := "law.go:101", after := #[{ on := 35, ground := Ground.data }, { on := 27, ground := Ground.guard }], guard := some (27, true) }) (v := ?_) (by rfl) ?_ (fun wS hSw => ?_) ?_
                                rotate_left
                                · kernel_rfl
                                · (try dsimp only at hSw); go_simp; (try with_reducible rfl)
                                try simp only [Act.put, List.setIfInBounds_toArray, List.set_cons_zero, List.set_cons_succ]
                                refine Reg.G_on (o := { dst := some 149, op := Op.load 53 (Operand.tmp 148), type := 53, pos := "law.go:101", after := #[{ on := 36, ground := Ground.data }, { on := 27, ground := Ground.guard }], guard := some (27, true) }) (v := .agg (nums .u8 s.key).toArray) (by rfl) ?_ (fun wS hSw => ?_) ?_
                                · kernel_rfl
                                · exact load_yields rfl rfl hSw.2.2.2.2.2 Try.underlying53 rfl (key17 _ (key_len s))
                                try simp only [Act.put, List.setIfInBounds_toArray, List.set_cons_zero, List.set_cons_succ]
                                refine Reg.G_on (o := { dst := some 150, op := Op.binOp BinOp.eql 53 (Operand.tmp 144) (Operand.tmp 149) 53, type := 4, pos := "law.go:101", after := #[{ on := 32, ground := Ground.data }, { on := 37, ground := Ground.data }, { on := 27, ground := Ground.guard }], guard := some (27, true) }) (v := .bool true) (by rfl) ?_ (fun wS hSw => ?_) ?_
                                · kernel_rfl
                                · exact eql_yields rfl rfl rfl gd_key (hq _)
                                try simp only [Act.put, List.setIfInBounds_toArray, List.set_cons_zero, List.set_cons_succ]
                                refine Reg.G_on (o := { dst := some 151, op := Op.pick (Operand.tmp 139) (Operand.tmp 150) (Operand.const (Value.bool false)), type := 4, pos := "law.go:101", after := #[{ on := 27, ground := Ground.data }, { on := 38, ground := Ground.data }], guard := Option.none }) (v := ?_) (by rfl) ?_ (fun wS hSw => ?_) ?_
                                rotate_left
                                · kernel_rfl
                                · (try dsimp only at hSw); go_simp; (try with_reducible rfl)
                                try simp only [Act.put, List.setIfInBounds_toArray, List.set_cons_zero, List.set_cons_succ]
                                refine Reg.G_done ?_
                                clear hHeld
                                go_wp2
                                rw [HM1.out, HWC.out]
                                exact ⟨⟨m + 1, by rw [← HC1.out, HCS.out], rfl, hml2.out, by first | exact HBY.out.drew | exact below_drew HBY.out⟩, meas _ _ hml2.out⟩
                              · rw [if_neg (fun hh => by have := hh.2; unfold itr at this; simp [hkk] at this)] at hcs
                                have HCS := Lib.hid hcs
                                have hq := fun W => key_eql x1 s W
                                rw [decide_eq_false hkk] at hq
                                rw [hxo] at t0
                                rw [hso] at a0
                                rw [hww] at t1
                                clear hcs hxo hso hww hkk
                                go_wp2_with fail
                                refine Reg.wp_plan (S := fun w' => w'.cell? ⟨g, m * 23, none⟩ = some (.int .i64 1) ∧ w'.cell? ⟨g, j * 23, none⟩ = some (.int .i64 1) ∧ w'.cell? ⟨g, m * 23 + 1, none⟩ = some (.int .i64 s.writer) ∧ w'.cell? ⟨g, j * 23 + 1, none⟩ = some (.int .i64 s.writer) ∧ w'.rangeAt g (m * 23 + 5) (nums .u8 x1.key) ∧ w'.rangeAt g (j * 23 + 5) (nums .u8 s.key)) 40 (.fl 0 (.fl 1 (.fl 2 (.fl 3 (.fl 4 (.fl 5 (.fl 6 (.fl 7 (.fl 8 (.fl 9 (.fl 10 (.fl 11 (.fl 12 (.fl 13 (.fl 14 (.fl 15 (.fl 16 (.fl 17 (.fl 18 (.fl 19 (.fl 20 (.fl 21 (.fl 22 (.fl 23 (.fl 24 (.fl 25 (.fl 26 (.fl 27 (.fl 28 (.fl 29 (.fl 30 (.fl 31 (.fl 32 (.fl 33 (.fl 34 (.fl 35 (.fl 36 (.fl 37 (.fl 38 (.fl 39 .done)))))))))))))))))))))))))))))))))))))))) (by kernel_rfl) (by kernel_rfl) (by kernel_rfl) (by kernel_rfl) (fun _ _ _ d _ h => by cases d <;> exact h) ?_ (fun hHeld => ?_)
                                · exact ⟨t0, a0, t1, a1, t5, a5⟩
                                refine Reg.G_on (o := { dst := some 112, op := Op.move (Operand.tmp 10), type := 56, pos := "law.go:101", after := #[], guard := Option.none }) (v := ?_) (by rfl) ?_ (fun wS hSw => ?_) ?_
                                rotate_left
                                · kernel_rfl
                                · (try dsimp only at hSw); go_simp; (try with_reducible rfl)
                                try simp only [Act.put, List.setIfInBounds_toArray, List.set_cons_zero, List.set_cons_succ]
                                refine Reg.G_on (o := { dst := some 113, op := Op.move (Operand.tmp 13), type := 3, pos := "law.go:101", after := #[], guard := Option.none }) (v := ?_) (by rfl) ?_ (fun wS hSw => ?_) ?_
                                rotate_left
                                · kernel_rfl
                                · (try dsimp only at hSw); go_simp; (try with_reducible rfl)
                                try simp only [Act.put, List.setIfInBounds_toArray, List.set_cons_zero, List.set_cons_succ]
                                refine Reg.G_on (o := { dst := some 114, op := Op.indexAddr 56 (Operand.tmp 112) (Operand.tmp 113), type := 0, pos := "law.go:101", after := #[{ on := 0, ground := Ground.data }, { on := 1, ground := Ground.data }], guard := Option.none }) (v := ?_) (by rfl) ?_ (fun wS hSw => ?_) ?_
                                rotate_left
                                · kernel_rfl
                                · (try dsimp only at hSw); go_simp; (try with_reducible rfl)
                                try simp only [Act.put, List.setIfInBounds_toArray, List.set_cons_zero, List.set_cons_succ]
                                refine Reg.G_on (o := { dst := some 115, op := Op.fieldAddr 60 (Operand.tmp 114) 0, type := 0, pos := "law.go:101", after := #[{ on := 2, ground := Ground.data }], guard := Option.none }) (v := ?_) (by rfl) ?_ (fun wS hSw => ?_) ?_
                                rotate_left
                                · kernel_rfl
                                · (try dsimp only at hSw); go_simp; (try with_reducible rfl)
                                try simp only [Act.put, List.setIfInBounds_toArray, List.set_cons_zero, List.set_cons_succ]
                                refine Reg.G_on (o := { dst := some 116, op := Op.load 3 (Operand.tmp 115), type := 3, pos := "law.go:101", after := #[{ on := 3, ground := Ground.data }], guard := Option.none }) (v := ?_) (by rfl) ?_ (fun wS hSw => ?_) ?_
                                rotate_left
                                · kernel_rfl
                                · (try dsimp only at hSw); go_simp; (try with_reducible rfl)
                                try simp only [Act.put, List.setIfInBounds_toArray, List.set_cons_zero, List.set_cons_succ]
                                refine Reg.G_on (o := { dst := some 117, op := Op.binOp BinOp.eql 3 (Operand.tmp 116) (Operand.const (Value.int IntKind.i64 1)) 3, type := 4, pos := "law.go:101", after := #[{ on := 4, ground := Ground.data }], guard := Option.none }) (v := ?_) (by rfl) ?_ (fun wS hSw => ?_) ?_
                                rotate_left
                                · kernel_rfl
                                · (try dsimp only at hSw); go_simp; (try with_reducible rfl)
                                try simp only [Act.put, List.setIfInBounds_toArray, List.set_cons_zero, List.set_cons_succ]
                                refine Reg.G_on (o := { dst := some 118, op := Op.move (Operand.tmp 117), type := 4, pos := "law.go:101", after := #[{ on := 5, ground := Ground.data }], guard := Option.none }) (v := ?_) (by rfl) ?_ (fun wS hSw => ?_) ?_
                                rotate_left
                                · kernel_rfl
                                · (try dsimp only at hSw); go_simp; (try with_reducible rfl)
                                try simp only [Act.put, List.setIfInBounds_toArray, List.set_cons_zero, List.set_cons_succ]
                                refine Reg.G_on (o := { dst := some 119, op := Op.move (Operand.tmp 10), type := 56, pos := "law.go:101", after := #[{ on := 6, ground := Ground.guard }], guard := some (6, true) }) (v := ?_) (by rfl) ?_ (fun wS hSw => ?_) ?_
                                rotate_left
                                · kernel_rfl
                                · (try dsimp only at hSw); go_simp; (try with_reducible rfl)
                                try simp only [Act.put, List.setIfInBounds_toArray, List.set_cons_zero, List.set_cons_succ]
                                refine Reg.G_on (o := { dst := some 120, op := Op.move (Operand.tmp 11), type := 3, pos := "law.go:101", after := #[{ on := 6, ground := Ground.guard }], guard := some (6, true) }) (v := ?_) (by rfl) ?_ (fun wS hSw => ?_) ?_
                                rotate_left
                                · kernel_rfl
                                · (try dsimp only at hSw); go_simp; (try with_reducible rfl)
                                try simp only [Act.put, List.setIfInBounds_toArray, List.set_cons_zero, List.set_cons_succ]
                                refine Reg.G_on (o := { dst := some 121, op := Op.indexAddr 56 (Operand.tmp 119) (Operand.tmp 120), type := 0, pos := "law.go:101", after := #[{ on := 7, ground := Ground.data }, { on := 8, ground := Ground.data }, { on := 6, ground := Ground.guard }], guard := some (6, true) }) (v := ?_) (by rfl) ?_ (fun wS hSw => ?_) ?_
                                rotate_left
                                · kernel_rfl
                                · (try dsimp only at hSw); go_simp; (try with_reducible rfl)
                                try simp only [Act.put, List.setIfInBounds_toArray, List.set_cons_zero, List.set_cons_succ]
                                refine Reg.G_on (o := { dst := some 122, op := Op.fieldAddr 60 (Operand.tmp 121) 0, type := 0, pos := "law.go:101", after := #[{ on := 9, ground := Ground.data }, { on := 6, ground := Ground.guard }], guard := some (6, true) }) (v := ?_) (by rfl) ?_ (fun wS hSw => ?_) ?_
                                rotate_left
                                · kernel_rfl
                                · (try dsimp only at hSw); go_simp; (try with_reducible rfl)
                                try simp only [Act.put, List.setIfInBounds_toArray, List.set_cons_zero, List.set_cons_succ]
                                refine Reg.G_on (o := { dst := some 123, op := Op.load 3 (Operand.tmp 122), type := 3, pos := "law.go:101", after := #[{ on := 10, ground := Ground.data }, { on := 6, ground := Ground.guard }], guard := some (6, true) }) (v := ?_) (by rfl) ?_ (fun wS hSw => ?_) ?_
                                rotate_left
                                · kernel_rfl
                                · (try dsimp only at hSw); go_simp; (try with_reducible rfl)
                                try simp only [Act.put, List.setIfInBounds_toArray, List.set_cons_zero, List.set_cons_succ]
                                refine Reg.G_on (o := { dst := some 124, op := Op.binOp BinOp.eql 3 (Operand.tmp 123) (Operand.const (Value.int IntKind.i64 1)) 3, type := 4, pos := "law.go:101", after := #[{ on := 11, ground := Ground.data }, { on := 6, ground := Ground.guard }], guard := some (6, true) }) (v := ?_) (by rfl) ?_ (fun wS hSw => ?_) ?_
                                rotate_left
                                · kernel_rfl
                                · (try dsimp only at hSw); go_simp; (try with_reducible rfl)
                                try simp only [Act.put, List.setIfInBounds_toArray, List.set_cons_zero, List.set_cons_succ]
                                refine Reg.G_on (o := { dst := some 125, op := Op.pick (Operand.tmp 118) (Operand.tmp 124) (Operand.const (Value.bool false)), type := 4, pos := "law.go:101", after := #[{ on := 6, ground := Ground.data }, { on := 12, ground := Ground.data }], guard := Option.none }) (v := ?_) (by rfl) ?_ (fun wS hSw => ?_) ?_
                                rotate_left
                                · kernel_rfl
                                · (try dsimp only at hSw); go_simp; (try with_reducible rfl)
                                try simp only [Act.put, List.setIfInBounds_toArray, List.set_cons_zero, List.set_cons_succ]
                                refine Reg.G_on (o := { dst := some 126, op := Op.move (Operand.tmp 125), type := 4, pos := "law.go:101", after := #[{ on := 13, ground := Ground.data }, { on := 6, ground := Ground.chain }], guard := Option.none }) (v := ?_) (by rfl) ?_ (fun wS hSw => ?_) ?_
                                rotate_left
                                · kernel_rfl
                                · (try dsimp only at hSw); go_simp; (try with_reducible rfl)
                                try simp only [Act.put, List.setIfInBounds_toArray, List.set_cons_zero, List.set_cons_succ]
                                refine Reg.G_on (o := { dst := some 127, op := Op.move (Operand.tmp 10), type := 56, pos := "law.go:101", after := #[{ on := 14, ground := Ground.guard }], guard := some (14, true) }) (v := ?_) (by rfl) ?_ (fun wS hSw => ?_) ?_
                                rotate_left
                                · kernel_rfl
                                · (try dsimp only at hSw); go_simp; (try with_reducible rfl)
                                try simp only [Act.put, List.setIfInBounds_toArray, List.set_cons_zero, List.set_cons_succ]
                                refine Reg.G_on (o := { dst := some 128, op := Op.move (Operand.tmp 13), type := 3, pos := "law.go:101", after := #[{ on := 14, ground := Ground.guard }], guard := some (14, true) }) (v := ?_) (by rfl) ?_ (fun wS hSw => ?_) ?_
                                rotate_left
                                · kernel_rfl
                                · (try dsimp only at hSw); go_simp; (try with_reducible rfl)
                                try simp only [Act.put, List.setIfInBounds_toArray, List.set_cons_zero, List.set_cons_succ]
                                refine Reg.G_on (o := { dst := some 129, op := Op.indexAddr 56 (Operand.tmp 127) (Operand.tmp 128), type := 0, pos := "law.go:101", after := #[{ on := 15, ground := Ground.data }, { on := 16, ground := Ground.data }, { on := 14, ground := Ground.guard }], guard := some (14, true) }) (v := ?_) (by rfl) ?_ (fun wS hSw => ?_) ?_
                                rotate_left
                                · kernel_rfl
                                · (try dsimp only at hSw); go_simp; (try with_reducible rfl)
                                try simp only [Act.put, List.setIfInBounds_toArray, List.set_cons_zero, List.set_cons_succ]
                                refine Reg.G_on (o := { dst := some 130, op := Op.fieldAddr 60 (Operand.tmp 129) 1, type := 0, pos := "law.go:101", after := #[{ on := 17, ground := Ground.data }, { on := 14, ground := Ground.guard }], guard := some (14, true) }) (v := ?_) (by rfl) ?_ (fun wS hSw => ?_) ?_
                                rotate_left
                                · kernel_rfl
                                · (try dsimp only at hSw); go_simp; (try with_reducible rfl)
                                try simp only [Act.put, List.setIfInBounds_toArray, List.set_cons_zero, List.set_cons_succ]
                                refine Reg.G_on (o := { dst := some 131, op := Op.load 3 (Operand.tmp 130), type := 3, pos := "law.go:101", after := #[{ on := 18, ground := Ground.data }, { on := 14, ground := Ground.guard }], guard := some (14, true) }) (v := ?_) (by rfl) ?_ (fun wS hSw => ?_) ?_
                                rotate_left
                                · kernel_rfl
                                · (try dsimp only at hSw); go_simp; (try with_reducible rfl)
                                try simp only [Act.put, List.setIfInBounds_toArray, List.set_cons_zero, List.set_cons_succ]
                                refine Reg.G_on (o := { dst := some 132, op := Op.move (Operand.tmp 10), type := 56, pos := "law.go:101", after := #[{ on := 14, ground := Ground.guard }], guard := some (14, true) }) (v := ?_) (by rfl) ?_ (fun wS hSw => ?_) ?_
                                rotate_left
                                · kernel_rfl
                                · (try dsimp only at hSw); go_simp; (try with_reducible rfl)
                                try simp only [Act.put, List.setIfInBounds_toArray, List.set_cons_zero, List.set_cons_succ]
                                refine Reg.G_on (o := { dst := some 133, op := Op.move (Operand.tmp 11), type := 3, pos := "law.go:101", after := #[{ on := 14, ground := Ground.guard }], guard := some (14, true) }) (v := ?_) (by rfl) ?_ (fun wS hSw => ?_) ?_
                                rotate_left
                                · kernel_rfl
                                · (try dsimp only at hSw); go_simp; (try with_reducible rfl)
                                try simp only [Act.put, List.setIfInBounds_toArray, List.set_cons_zero, List.set_cons_succ]
                                refine Reg.G_on (o := { dst := some 134, op := Op.indexAddr 56 (Operand.tmp 132) (Operand.tmp 133), type := 0, pos := "law.go:101", after := #[{ on := 20, ground := Ground.data }, { on := 21, ground := Ground.data }, { on := 14, ground := Ground.guard }], guard := some (14, true) }) (v := ?_) (by rfl) ?_ (fun wS hSw => ?_) ?_
                                rotate_left
                                · kernel_rfl
                                · (try dsimp only at hSw); go_simp; (try with_reducible rfl)
                                try simp only [Act.put, List.setIfInBounds_toArray, List.set_cons_zero, List.set_cons_succ]
                                refine Reg.G_on (o := { dst := some 135, op := Op.fieldAddr 60 (Operand.tmp 134) 1, type := 0, pos := "law.go:101", after := #[{ on := 22, ground := Ground.data }, { on := 14, ground := Ground.guard }], guard := some (14, true) }) (v := ?_) (by rfl) ?_ (fun wS hSw => ?_) ?_
                                rotate_left
                                · kernel_rfl
                                · (try dsimp only at hSw); go_simp; (try with_reducible rfl)
                                try simp only [Act.put, List.setIfInBounds_toArray, List.set_cons_zero, List.set_cons_succ]
                                refine Reg.G_on (o := { dst := some 136, op := Op.load 3 (Operand.tmp 135), type := 3, pos := "law.go:101", after := #[{ on := 23, ground := Ground.data }, { on := 14, ground := Ground.guard }], guard := some (14, true) }) (v := ?_) (by rfl) ?_ (fun wS hSw => ?_) ?_
                                rotate_left
                                · kernel_rfl
                                · (try dsimp only at hSw); go_simp; (try with_reducible rfl)
                                try simp only [Act.put, List.setIfInBounds_toArray, List.set_cons_zero, List.set_cons_succ]
                                refine Reg.G_on (o := { dst := some 137, op := Op.binOp BinOp.eql 3 (Operand.tmp 131) (Operand.tmp 136) 3, type := 4, pos := "law.go:101", after := #[{ on := 19, ground := Ground.data }, { on := 24, ground := Ground.data }, { on := 14, ground := Ground.guard }], guard := some (14, true) }) (v := ?_) (by rfl) ?_ (fun wS hSw => ?_) ?_
                                rotate_left
                                · kernel_rfl
                                · (try dsimp only at hSw); go_simp; (try with_reducible rfl)
                                try simp only [Act.put, List.setIfInBounds_toArray, List.set_cons_zero, List.set_cons_succ]
                                refine Reg.G_on (o := { dst := some 138, op := Op.pick (Operand.tmp 126) (Operand.tmp 137) (Operand.const (Value.bool false)), type := 4, pos := "law.go:101", after := #[{ on := 14, ground := Ground.data }, { on := 25, ground := Ground.data }], guard := Option.none }) (v := ?_) (by rfl) ?_ (fun wS hSw => ?_) ?_
                                rotate_left
                                · kernel_rfl
                                · (try dsimp only at hSw); go_simp; (try with_reducible rfl)
                                try simp only [Act.put, List.setIfInBounds_toArray, List.set_cons_zero, List.set_cons_succ]
                                refine Reg.G_on (o := { dst := some 139, op := Op.move (Operand.tmp 138), type := 4, pos := "law.go:101", after := #[{ on := 26, ground := Ground.data }, { on := 14, ground := Ground.chain }], guard := Option.none }) (v := ?_) (by rfl) ?_ (fun wS hSw => ?_) ?_
                                rotate_left
                                · kernel_rfl
                                · (try dsimp only at hSw); go_simp; (try with_reducible rfl)
                                try simp only [Act.put, List.setIfInBounds_toArray, List.set_cons_zero, List.set_cons_succ]
                                refine Reg.G_on (o := { dst := some 140, op := Op.move (Operand.tmp 10), type := 56, pos := "law.go:101", after := #[{ on := 27, ground := Ground.guard }], guard := some (27, true) }) (v := ?_) (by rfl) ?_ (fun wS hSw => ?_) ?_
                                rotate_left
                                · kernel_rfl
                                · (try dsimp only at hSw); go_simp; (try with_reducible rfl)
                                try simp only [Act.put, List.setIfInBounds_toArray, List.set_cons_zero, List.set_cons_succ]
                                refine Reg.G_on (o := { dst := some 141, op := Op.move (Operand.tmp 13), type := 3, pos := "law.go:101", after := #[{ on := 27, ground := Ground.guard }], guard := some (27, true) }) (v := ?_) (by rfl) ?_ (fun wS hSw => ?_) ?_
                                rotate_left
                                · kernel_rfl
                                · (try dsimp only at hSw); go_simp; (try with_reducible rfl)
                                try simp only [Act.put, List.setIfInBounds_toArray, List.set_cons_zero, List.set_cons_succ]
                                refine Reg.G_on (o := { dst := some 142, op := Op.indexAddr 56 (Operand.tmp 140) (Operand.tmp 141), type := 0, pos := "law.go:101", after := #[{ on := 28, ground := Ground.data }, { on := 29, ground := Ground.data }, { on := 27, ground := Ground.guard }], guard := some (27, true) }) (v := ?_) (by rfl) ?_ (fun wS hSw => ?_) ?_
                                rotate_left
                                · kernel_rfl
                                · (try dsimp only at hSw); go_simp; (try with_reducible rfl)
                                try simp only [Act.put, List.setIfInBounds_toArray, List.set_cons_zero, List.set_cons_succ]
                                refine Reg.G_on (o := { dst := some 143, op := Op.fieldAddr 60 (Operand.tmp 142) 5, type := 0, pos := "law.go:101", after := #[{ on := 30, ground := Ground.data }, { on := 27, ground := Ground.guard }], guard := some (27, true) }) (v := ?_) (by rfl) ?_ (fun wS hSw => ?_) ?_
                                rotate_left
                                · kernel_rfl
                                · (try dsimp only at hSw); go_simp; (try with_reducible rfl)
                                try simp only [Act.put, List.setIfInBounds_toArray, List.set_cons_zero, List.set_cons_succ]
                                refine Reg.G_on (o := { dst := some 144, op := Op.load 53 (Operand.tmp 143), type := 53, pos := "law.go:101", after := #[{ on := 31, ground := Ground.data }, { on := 27, ground := Ground.guard }], guard := some (27, true) }) (v := .agg (nums .u8 x1.key).toArray) (by rfl) ?_ (fun wS hSw => ?_) ?_
                                · kernel_rfl
                                · exact load_yields rfl rfl hSw.2.2.2.2.1 Try.underlying53 rfl (key17 _ (key_len x1))
                                try simp only [Act.put, List.setIfInBounds_toArray, List.set_cons_zero, List.set_cons_succ]
                                refine Reg.G_on (o := { dst := some 145, op := Op.move (Operand.tmp 10), type := 56, pos := "law.go:101", after := #[{ on := 27, ground := Ground.guard }], guard := some (27, true) }) (v := ?_) (by rfl) ?_ (fun wS hSw => ?_) ?_
                                rotate_left
                                · kernel_rfl
                                · (try dsimp only at hSw); go_simp; (try with_reducible rfl)
                                try simp only [Act.put, List.setIfInBounds_toArray, List.set_cons_zero, List.set_cons_succ]
                                refine Reg.G_on (o := { dst := some 146, op := Op.move (Operand.tmp 11), type := 3, pos := "law.go:101", after := #[{ on := 27, ground := Ground.guard }], guard := some (27, true) }) (v := ?_) (by rfl) ?_ (fun wS hSw => ?_) ?_
                                rotate_left
                                · kernel_rfl
                                · (try dsimp only at hSw); go_simp; (try with_reducible rfl)
                                try simp only [Act.put, List.setIfInBounds_toArray, List.set_cons_zero, List.set_cons_succ]
                                refine Reg.G_on (o := { dst := some 147, op := Op.indexAddr 56 (Operand.tmp 145) (Operand.tmp 146), type := 0, pos := "law.go:101", after := #[{ on := 33, ground := Ground.data }, { on := 34, ground := Ground.data }, { on := 27, ground := Ground.guard }], guard := some (27, true) }) (v := ?_) (by rfl) ?_ (fun wS hSw => ?_) ?_
                                rotate_left
                                · kernel_rfl
                                · (try dsimp only at hSw); go_simp; (try with_reducible rfl)
                                try simp only [Act.put, List.setIfInBounds_toArray, List.set_cons_zero, List.set_cons_succ]
                                refine Reg.G_on (o := { dst := some 148, op := Op.fieldAddr 60 (Operand.tmp 147) 5, type := 0, pos := "law.go:101", after := #[{ on := 35, ground := Ground.data }, { on := 27, ground := Ground.guard }], guard := some (27, true) }) (v := ?_) (by rfl) ?_ (fun wS hSw => ?_) ?_
                                rotate_left
                                · kernel_rfl
                                · (try dsimp only at hSw); go_simp; (try with_reducible rfl)
                                try simp only [Act.put, List.setIfInBounds_toArray, List.set_cons_zero, List.set_cons_succ]
                                refine Reg.G_on (o := { dst := some 149, op := Op.load 53 (Operand.tmp 148), type := 53, pos := "law.go:101", after := #[{ on := 36, ground := Ground.data }, { on := 27, ground := Ground.guard }], guard := some (27, true) }) (v := .agg (nums .u8 s.key).toArray) (by rfl) ?_ (fun wS hSw => ?_) ?_
                                · kernel_rfl
                                · exact load_yields rfl rfl hSw.2.2.2.2.2 Try.underlying53 rfl (key17 _ (key_len s))
                                try simp only [Act.put, List.setIfInBounds_toArray, List.set_cons_zero, List.set_cons_succ]
                                refine Reg.G_on (o := { dst := some 150, op := Op.binOp BinOp.eql 53 (Operand.tmp 144) (Operand.tmp 149) 53, type := 4, pos := "law.go:101", after := #[{ on := 32, ground := Ground.data }, { on := 37, ground := Ground.data }, { on := 27, ground := Ground.guard }], guard := some (27, true) }) (v := .bool false) (by rfl) ?_ (fun wS hSw => ?_) ?_
                                · kernel_rfl
                                · exact eql_yields rfl rfl rfl gd_key (hq _)
                                try simp only [Act.put, List.setIfInBounds_toArray, List.set_cons_zero, List.set_cons_succ]
                                refine Reg.G_on (o := { dst := some 151, op := Op.pick (Operand.tmp 139) (Operand.tmp 150) (Operand.const (Value.bool false)), type := 4, pos := "law.go:101", after := #[{ on := 27, ground := Ground.data }, { on := 38, ground := Ground.data }], guard := Option.none }) (v := ?_) (by rfl) ?_ (fun wS hSw => ?_) ?_
                                rotate_left
                                · kernel_rfl
                                · (try dsimp only at hSw); go_simp; (try with_reducible rfl)
                                try simp only [Act.put, List.setIfInBounds_toArray, List.set_cons_zero, List.set_cons_succ]
                                refine Reg.G_done ?_
                                clear hHeld
                                go_wp2
                                rw [HM1.out]
                                exact ⟨⟨m + 1, by rw [← HC1.out, HCS.out, Nat.add_zero], rfl, hml2.out, by first | exact HBY.out.drew | exact below_drew HBY.out⟩, meas _ _ hml2.out⟩
                            · rw [if_neg (fun hh => by have := hh.2; unfold itr at this; simp [hww] at this)] at hcs
                              have HCS := Lib.hid hcs
                              have hwb : (x1.writer == s.writer) = false := beq_eq_false_iff_ne.2 hww
                              rw [hxo] at t0
                              rw [hso] at a0
                              clear hcs hxo hso hww
                              go_wp2_with fail
                              refine Reg.wp_plan (S := fun w' => w'.cell? ⟨g, m * 23, none⟩ = some (.int .i64 1) ∧ w'.cell? ⟨g, j * 23, none⟩ = some (.int .i64 1) ∧ w'.cell? ⟨g, m * 23 + 1, none⟩ = some (.int .i64 x1.writer) ∧ w'.cell? ⟨g, j * 23 + 1, none⟩ = some (.int .i64 s.writer) ∧ w'.rangeAt g (m * 23 + 5) (nums .u8 x1.key) ∧ w'.rangeAt g (j * 23 + 5) (nums .u8 s.key)) 40 (.fl 0 (.fl 1 (.fl 2 (.fl 3 (.fl 4 (.fl 5 (.fl 6 (.fl 7 (.fl 8 (.fl 9 (.fl 10 (.fl 11 (.fl 12 (.fl 13 (.fl 14 (.fl 15 (.fl 16 (.fl 17 (.fl 18 (.fl 19 (.fl 20 (.fl 21 (.fl 22 (.fl 23 (.fl 24 (.fl 25 (.fl 26 (.fl 27 (.fl 28 (.fl 29 (.fl 30 (.fl 31 (.fl 32 (.fl 33 (.fl 34 (.fl 35 (.fl 36 (.fl 37 (.fl 38 (.fl 39 .done)))))))))))))))))))))))))))))))))))))))) (by kernel_rfl) (by kernel_rfl) (by kernel_rfl) (by kernel_rfl) (fun _ _ _ d _ h => by cases d <;> exact h) ?_ (fun hHeld => ?_)
                              · exact ⟨t0, a0, t1, a1, t5, a5⟩
                              refine Reg.G_on (o := { dst := some 112, op := Op.move (Operand.tmp 10), type := 56, pos := "law.go:101", after := #[], guard := Option.none }) (v := ?_) (by rfl) ?_ (fun wS hSw => ?_) ?_
                              rotate_left
                              · kernel_rfl
                              · (try dsimp only at hSw); go_simp; (try with_reducible rfl)
                              try simp only [Act.put, List.setIfInBounds_toArray, List.set_cons_zero, List.set_cons_succ]
                              refine Reg.G_on (o := { dst := some 113, op := Op.move (Operand.tmp 13), type := 3, pos := "law.go:101", after := #[], guard := Option.none }) (v := ?_) (by rfl) ?_ (fun wS hSw => ?_) ?_
                              rotate_left
                              · kernel_rfl
                              · (try dsimp only at hSw); go_simp; (try with_reducible rfl)
                              try simp only [Act.put, List.setIfInBounds_toArray, List.set_cons_zero, List.set_cons_succ]
                              refine Reg.G_on (o := { dst := some 114, op := Op.indexAddr 56 (Operand.tmp 112) (Operand.tmp 113), type := 0, pos := "law.go:101", after := #[{ on := 0, ground := Ground.data }, { on := 1, ground := Ground.data }], guard := Option.none }) (v := ?_) (by rfl) ?_ (fun wS hSw => ?_) ?_
                              rotate_left
                              · kernel_rfl
                              · (try dsimp only at hSw); go_simp; (try with_reducible rfl)
                              try simp only [Act.put, List.setIfInBounds_toArray, List.set_cons_zero, List.set_cons_succ]
                              refine Reg.G_on (o := { dst := some 115, op := Op.fieldAddr 60 (Operand.tmp 114) 0, type := 0, pos := "law.go:101", after := #[{ on := 2, ground := Ground.data }], guard := Option.none }) (v := ?_) (by rfl) ?_ (fun wS hSw => ?_) ?_
                              rotate_left
                              · kernel_rfl
                              · (try dsimp only at hSw); go_simp; (try with_reducible rfl)
                              try simp only [Act.put, List.setIfInBounds_toArray, List.set_cons_zero, List.set_cons_succ]
                              refine Reg.G_on (o := { dst := some 116, op := Op.load 3 (Operand.tmp 115), type := 3, pos := "law.go:101", after := #[{ on := 3, ground := Ground.data }], guard := Option.none }) (v := ?_) (by rfl) ?_ (fun wS hSw => ?_) ?_
                              rotate_left
                              · kernel_rfl
                              · (try dsimp only at hSw); go_simp; (try with_reducible rfl)
                              try simp only [Act.put, List.setIfInBounds_toArray, List.set_cons_zero, List.set_cons_succ]
                              refine Reg.G_on (o := { dst := some 117, op := Op.binOp BinOp.eql 3 (Operand.tmp 116) (Operand.const (Value.int IntKind.i64 1)) 3, type := 4, pos := "law.go:101", after := #[{ on := 4, ground := Ground.data }], guard := Option.none }) (v := ?_) (by rfl) ?_ (fun wS hSw => ?_) ?_
                              rotate_left
                              · kernel_rfl
                              · (try dsimp only at hSw); go_simp; (try with_reducible rfl)
                              try simp only [Act.put, List.setIfInBounds_toArray, List.set_cons_zero, List.set_cons_succ]
                              refine Reg.G_on (o := { dst := some 118, op := Op.move (Operand.tmp 117), type := 4, pos := "law.go:101", after := #[{ on := 5, ground := Ground.data }], guard := Option.none }) (v := ?_) (by rfl) ?_ (fun wS hSw => ?_) ?_
                              rotate_left
                              · kernel_rfl
                              · (try dsimp only at hSw); go_simp; (try with_reducible rfl)
                              try simp only [Act.put, List.setIfInBounds_toArray, List.set_cons_zero, List.set_cons_succ]
                              refine Reg.G_on (o := { dst := some 119, op := Op.move (Operand.tmp 10), type := 56, pos := "law.go:101", after := #[{ on := 6, ground := Ground.guard }], guard := some (6, true) }) (v := ?_) (by rfl) ?_ (fun wS hSw => ?_) ?_
                              rotate_left
                              · kernel_rfl
                              · (try dsimp only at hSw); go_simp; (try with_reducible rfl)
                              try simp only [Act.put, List.setIfInBounds_toArray, List.set_cons_zero, List.set_cons_succ]
                              refine Reg.G_on (o := { dst := some 120, op := Op.move (Operand.tmp 11), type := 3, pos := "law.go:101", after := #[{ on := 6, ground := Ground.guard }], guard := some (6, true) }) (v := ?_) (by rfl) ?_ (fun wS hSw => ?_) ?_
                              rotate_left
                              · kernel_rfl
                              · (try dsimp only at hSw); go_simp; (try with_reducible rfl)
                              try simp only [Act.put, List.setIfInBounds_toArray, List.set_cons_zero, List.set_cons_succ]
                              refine Reg.G_on (o := { dst := some 121, op := Op.indexAddr 56 (Operand.tmp 119) (Operand.tmp 120), type := 0, pos := "law.go:101", after := #[{ on := 7, ground := Ground.data }, { on := 8, ground := Ground.data }, { on := 6, ground := Ground.guard }], guard := some (6, true) }) (v := ?_) (by rfl) ?_ (fun wS hSw => ?_) ?_
                              rotate_left
                              · kernel_rfl
                              · (try dsimp only at hSw); go_simp; (try with_reducible rfl)
                              try simp only [Act.put, List.setIfInBounds_toArray, List.set_cons_zero, List.set_cons_succ]
                              refine Reg.G_on (o := { dst := some 122, op := Op.fieldAddr 60 (Operand.tmp 121) 0, type := 0, pos := "law.go:101", after := #[{ on := 9, ground := Ground.data }, { on := 6, ground := Ground.guard }], guard := some (6, true) }) (v := ?_) (by rfl) ?_ (fun wS hSw => ?_) ?_
                              rotate_left
                              · kernel_rfl
                              · (try dsimp only at hSw); go_simp; (try with_reducible rfl)
                              try simp only [Act.put, List.setIfInBounds_toArray, List.set_cons_zero, List.set_cons_succ]
                              refine Reg.G_on (o := { dst := some 123, op := Op.load 3 (Operand.tmp 122), type := 3, pos := "law.go:101", after := #[{ on := 10, ground := Ground.data }, { on := 6, ground := Ground.guard }], guard := some (6, true) }) (v := ?_) (by rfl) ?_ (fun wS hSw => ?_) ?_
                              rotate_left
                              · kernel_rfl
                              · (try dsimp only at hSw); go_simp; (try with_reducible rfl)
                              try simp only [Act.put, List.setIfInBounds_toArray, List.set_cons_zero, List.set_cons_succ]
                              refine Reg.G_on (o := { dst := some 124, op := Op.binOp BinOp.eql 3 (Operand.tmp 123) (Operand.const (Value.int IntKind.i64 1)) 3, type := 4, pos := "law.go:101", after := #[{ on := 11, ground := Ground.data }, { on := 6, ground := Ground.guard }], guard := some (6, true) }) (v := ?_) (by rfl) ?_ (fun wS hSw => ?_) ?_
                              rotate_left
                              · kernel_rfl
                              · (try dsimp only at hSw); go_simp; (try with_reducible rfl)
                              try simp only [Act.put, List.setIfInBounds_toArray, List.set_cons_zero, List.set_cons_succ]
                              refine Reg.G_on (o := { dst := some 125, op := Op.pick (Operand.tmp 118) (Operand.tmp 124) (Operand.const (Value.bool false)), type := 4, pos := "law.go:101", after := #[{ on := 6, ground := Ground.data }, { on := 12, ground := Ground.data }], guard := Option.none }) (v := ?_) (by rfl) ?_ (fun wS hSw => ?_) ?_
                              rotate_left
                              · kernel_rfl
                              · (try dsimp only at hSw); go_simp; (try with_reducible rfl)
                              try simp only [Act.put, List.setIfInBounds_toArray, List.set_cons_zero, List.set_cons_succ]
                              refine Reg.G_on (o := { dst := some 126, op := Op.move (Operand.tmp 125), type := 4, pos := "law.go:101", after := #[{ on := 13, ground := Ground.data }, { on := 6, ground := Ground.chain }], guard := Option.none }) (v := ?_) (by rfl) ?_ (fun wS hSw => ?_) ?_
                              rotate_left
                              · kernel_rfl
                              · (try dsimp only at hSw); go_simp; (try with_reducible rfl)
                              try simp only [Act.put, List.setIfInBounds_toArray, List.set_cons_zero, List.set_cons_succ]
                              refine Reg.G_on (o := { dst := some 127, op := Op.move (Operand.tmp 10), type := 56, pos := "law.go:101", after := #[{ on := 14, ground := Ground.guard }], guard := some (14, true) }) (v := ?_) (by rfl) ?_ (fun wS hSw => ?_) ?_
                              rotate_left
                              · kernel_rfl
                              · (try dsimp only at hSw); go_simp; (try with_reducible rfl)
                              try simp only [Act.put, List.setIfInBounds_toArray, List.set_cons_zero, List.set_cons_succ]
                              refine Reg.G_on (o := { dst := some 128, op := Op.move (Operand.tmp 13), type := 3, pos := "law.go:101", after := #[{ on := 14, ground := Ground.guard }], guard := some (14, true) }) (v := ?_) (by rfl) ?_ (fun wS hSw => ?_) ?_
                              rotate_left
                              · kernel_rfl
                              · (try dsimp only at hSw); go_simp; (try with_reducible rfl)
                              try simp only [Act.put, List.setIfInBounds_toArray, List.set_cons_zero, List.set_cons_succ]
                              refine Reg.G_on (o := { dst := some 129, op := Op.indexAddr 56 (Operand.tmp 127) (Operand.tmp 128), type := 0, pos := "law.go:101", after := #[{ on := 15, ground := Ground.data }, { on := 16, ground := Ground.data }, { on := 14, ground := Ground.guard }], guard := some (14, true) }) (v := ?_) (by rfl) ?_ (fun wS hSw => ?_) ?_
                              rotate_left
                              · kernel_rfl
                              · (try dsimp only at hSw); go_simp; (try with_reducible rfl)
                              try simp only [Act.put, List.setIfInBounds_toArray, List.set_cons_zero, List.set_cons_succ]
                              refine Reg.G_on (o := { dst := some 130, op := Op.fieldAddr 60 (Operand.tmp 129) 1, type := 0, pos := "law.go:101", after := #[{ on := 17, ground := Ground.data }, { on := 14, ground := Ground.guard }], guard := some (14, true) }) (v := ?_) (by rfl) ?_ (fun wS hSw => ?_) ?_
                              rotate_left
                              · kernel_rfl
                              · (try dsimp only at hSw); go_simp; (try with_reducible rfl)
                              try simp only [Act.put, List.setIfInBounds_toArray, List.set_cons_zero, List.set_cons_succ]
                              refine Reg.G_on (o := { dst := some 131, op := Op.load 3 (Operand.tmp 130), type := 3, pos := "law.go:101", after := #[{ on := 18, ground := Ground.data }, { on := 14, ground := Ground.guard }], guard := some (14, true) }) (v := ?_) (by rfl) ?_ (fun wS hSw => ?_) ?_
                              rotate_left
                              · kernel_rfl
                              · (try dsimp only at hSw); go_simp; (try with_reducible rfl)
                              try simp only [Act.put, List.setIfInBounds_toArray, List.set_cons_zero, List.set_cons_succ]
                              refine Reg.G_on (o := { dst := some 132, op := Op.move (Operand.tmp 10), type := 56, pos := "law.go:101", after := #[{ on := 14, ground := Ground.guard }], guard := some (14, true) }) (v := ?_) (by rfl) ?_ (fun wS hSw => ?_) ?_
                              rotate_left
                              · kernel_rfl
                              · (try dsimp only at hSw); go_simp; (try with_reducible rfl)
                              try simp only [Act.put, List.setIfInBounds_toArray, List.set_cons_zero, List.set_cons_succ]
                              refine Reg.G_on (o := { dst := some 133, op := Op.move (Operand.tmp 11), type := 3, pos := "law.go:101", after := #[{ on := 14, ground := Ground.guard }], guard := some (14, true) }) (v := ?_) (by rfl) ?_ (fun wS hSw => ?_) ?_
                              rotate_left
                              · kernel_rfl
                              · (try dsimp only at hSw); go_simp; (try with_reducible rfl)
                              try simp only [Act.put, List.setIfInBounds_toArray, List.set_cons_zero, List.set_cons_succ]
                              refine Reg.G_on (o := { dst := some 134, op := Op.indexAddr 56 (Operand.tmp 132) (Operand.tmp 133), type := 0, pos := "law.go:101", after := #[{ on := 20, ground := Ground.data }, { on := 21, ground := Ground.data }, { on := 14, ground := Ground.guard }], guard := some (14, true) }) (v := ?_) (by rfl) ?_ (fun wS hSw => ?_) ?_
                              rotate_left
                              · kernel_rfl
                              · (try dsimp only at hSw); go_simp; (try with_reducible rfl)
                              try simp only [Act.put, List.setIfInBounds_toArray, List.set_cons_zero, List.set_cons_succ]
                              refine Reg.G_on (o := { dst := some 135, op := Op.fieldAddr 60 (Operand.tmp 134) 1, type := 0, pos := "law.go:101", after := #[{ on := 22, ground := Ground.data }, { on := 14, ground := Ground.guard }], guard := some (14, true) }) (v := ?_) (by rfl) ?_ (fun wS hSw => ?_) ?_
                              rotate_left
                              · kernel_rfl
                              · (try dsimp only at hSw); go_simp; (try with_reducible rfl)
                              try simp only [Act.put, List.setIfInBounds_toArray, List.set_cons_zero, List.set_cons_succ]
                              refine Reg.G_on (o := { dst := some 136, op := Op.load 3 (Operand.tmp 135), type := 3, pos := "law.go:101", after := #[{ on := 23, ground := Ground.data }, { on := 14, ground := Ground.guard }], guard := some (14, true) }) (v := ?_) (by rfl) ?_ (fun wS hSw => ?_) ?_
                              rotate_left
                              · kernel_rfl
                              · (try dsimp only at hSw); go_simp; (try with_reducible rfl)
                              try simp only [Act.put, List.setIfInBounds_toArray, List.set_cons_zero, List.set_cons_succ]
                              refine Reg.G_on (o := { dst := some 137, op := Op.binOp BinOp.eql 3 (Operand.tmp 131) (Operand.tmp 136) 3, type := 4, pos := "law.go:101", after := #[{ on := 19, ground := Ground.data }, { on := 24, ground := Ground.data }, { on := 14, ground := Ground.guard }], guard := some (14, true) }) (v := ?_) (by rfl) ?_ (fun wS hSw => ?_) ?_
                              rotate_left
                              · kernel_rfl
                              · (try dsimp only at hSw); go_simp; (try with_reducible rfl)
                              try simp only [Act.put, List.setIfInBounds_toArray, List.set_cons_zero, List.set_cons_succ]
                              refine Reg.G_on (o := { dst := some 138, op := Op.pick (Operand.tmp 126) (Operand.tmp 137) (Operand.const (Value.bool false)), type := 4, pos := "law.go:101", after := #[{ on := 14, ground := Ground.data }, { on := 25, ground := Ground.data }], guard := Option.none }) (v := ?_) (by rfl) ?_ (fun wS hSw => ?_) ?_
                              rotate_left
                              · kernel_rfl
                              · (try dsimp only at hSw); go_simp; (try with_reducible rfl)
                              try simp only [Act.put, List.setIfInBounds_toArray, List.set_cons_zero, List.set_cons_succ]
                              refine Reg.G_on (o := { dst := some 139, op := Op.move (Operand.tmp 138), type := 4, pos := "law.go:101", after := #[{ on := 26, ground := Ground.data }, { on := 14, ground := Ground.chain }], guard := Option.none }) (v := ?_) (by rfl) ?_ (fun wS hSw => ?_) ?_
                              rotate_left
                              · kernel_rfl
                              · (try dsimp only at hSw); go_simp; (try with_reducible rfl)
                              try simp only [Act.put, List.setIfInBounds_toArray, List.set_cons_zero, List.set_cons_succ]
                              refine Reg.G_off (o := { dst := some 140, op := Op.move (Operand.tmp 10), type := 56, pos := "law.go:101", after := #[{ on := 27, ground := Ground.guard }], guard := some (27, true) }) (by rfl) ?_ ?_
                              · kernel_rfl
                              try simp only [Act.put, List.setIfInBounds_toArray, List.set_cons_zero, List.set_cons_succ]
                              refine Reg.G_off (o := { dst := some 141, op := Op.move (Operand.tmp 13), type := 3, pos := "law.go:101", after := #[{ on := 27, ground := Ground.guard }], guard := some (27, true) }) (by rfl) ?_ ?_
                              · kernel_rfl
                              try simp only [Act.put, List.setIfInBounds_toArray, List.set_cons_zero, List.set_cons_succ]
                              refine Reg.G_off (o := { dst := some 142, op := Op.indexAddr 56 (Operand.tmp 140) (Operand.tmp 141), type := 0, pos := "law.go:101", after := #[{ on := 28, ground := Ground.data }, { on := 29, ground := Ground.data }, { on := 27, ground := Ground.guard }], guard := some (27, true) }) (by rfl) ?_ ?_
                              · kernel_rfl
                              try simp only [Act.put, List.setIfInBounds_toArray, List.set_cons_zero, List.set_cons_succ]
                              refine Reg.G_off (o := { dst := some 143, op := Op.fieldAddr 60 (Operand.tmp 142) 5, type := 0, pos := "law.go:101", after := #[{ on := 30, ground := Ground.data }, { on := 27, ground := Ground.guard }], guard := some (27, true) }) (by rfl) ?_ ?_
                              · kernel_rfl
                              try simp only [Act.put, List.setIfInBounds_toArray, List.set_cons_zero, List.set_cons_succ]
                              refine Reg.G_off (o := { dst := some 144, op := Op.load 53 (Operand.tmp 143), type := 53, pos := "law.go:101", after := #[{ on := 31, ground := Ground.data }, { on := 27, ground := Ground.guard }], guard := some (27, true) }) (by rfl) ?_ ?_
                              · kernel_rfl
                              try simp only [Act.put, List.setIfInBounds_toArray, List.set_cons_zero, List.set_cons_succ]
                              refine Reg.G_off (o := { dst := some 145, op := Op.move (Operand.tmp 10), type := 56, pos := "law.go:101", after := #[{ on := 27, ground := Ground.guard }], guard := some (27, true) }) (by rfl) ?_ ?_
                              · kernel_rfl
                              try simp only [Act.put, List.setIfInBounds_toArray, List.set_cons_zero, List.set_cons_succ]
                              refine Reg.G_off (o := { dst := some 146, op := Op.move (Operand.tmp 11), type := 3, pos := "law.go:101", after := #[{ on := 27, ground := Ground.guard }], guard := some (27, true) }) (by rfl) ?_ ?_
                              · kernel_rfl
                              try simp only [Act.put, List.setIfInBounds_toArray, List.set_cons_zero, List.set_cons_succ]
                              refine Reg.G_off (o := { dst := some 147, op := Op.indexAddr 56 (Operand.tmp 145) (Operand.tmp 146), type := 0, pos := "law.go:101", after := #[{ on := 33, ground := Ground.data }, { on := 34, ground := Ground.data }, { on := 27, ground := Ground.guard }], guard := some (27, true) }) (by rfl) ?_ ?_
                              · kernel_rfl
                              try simp only [Act.put, List.setIfInBounds_toArray, List.set_cons_zero, List.set_cons_succ]
                              refine Reg.G_off (o := { dst := some 148, op := Op.fieldAddr 60 (Operand.tmp 147) 5, type := 0, pos := "law.go:101", after := #[{ on := 35, ground := Ground.data }, { on := 27, ground := Ground.guard }], guard := some (27, true) }) (by rfl) ?_ ?_
                              · kernel_rfl
                              try simp only [Act.put, List.setIfInBounds_toArray, List.set_cons_zero, List.set_cons_succ]
                              refine Reg.G_off (o := { dst := some 149, op := Op.load 53 (Operand.tmp 148), type := 53, pos := "law.go:101", after := #[{ on := 36, ground := Ground.data }, { on := 27, ground := Ground.guard }], guard := some (27, true) }) (by rfl) ?_ ?_
                              · kernel_rfl
                              try simp only [Act.put, List.setIfInBounds_toArray, List.set_cons_zero, List.set_cons_succ]
                              refine Reg.G_off (o := { dst := some 150, op := Op.binOp BinOp.eql 53 (Operand.tmp 144) (Operand.tmp 149) 53, type := 4, pos := "law.go:101", after := #[{ on := 32, ground := Ground.data }, { on := 37, ground := Ground.data }, { on := 27, ground := Ground.guard }], guard := some (27, true) }) (by rfl) ?_ ?_
                              · kernel_rfl
                              try simp only [Act.put, List.setIfInBounds_toArray, List.set_cons_zero, List.set_cons_succ]
                              refine Reg.G_on (o := { dst := some 151, op := Op.pick (Operand.tmp 139) (Operand.tmp 150) (Operand.const (Value.bool false)), type := 4, pos := "law.go:101", after := #[{ on := 27, ground := Ground.data }, { on := 38, ground := Ground.data }], guard := Option.none }) (v := ?_) (by rfl) ?_ (fun wS hSw => ?_) ?_
                              rotate_left
                              · kernel_rfl
                              · (try dsimp only at hSw); go_simp; (try with_reducible rfl)
                              try simp only [Act.put, List.setIfInBounds_toArray, List.set_cons_zero, List.set_cons_succ]
                              refine Reg.G_done ?_
                              clear hHeld
                              go_wp2
                              rw [HM1.out]
                              exact ⟨⟨m + 1, by rw [← HC1.out, HCS.out, Nat.add_zero], rfl, hml2.out, by first | exact HBY.out.drew | exact below_drew HBY.out⟩, meas _ _ hml2.out⟩
                          · rw [if_neg (fun hh => hso hh.1)] at hcs
                            have HCS := Lib.hid hcs
                            have hsb : (s.op == 1) = false := beq_eq_false_iff_ne.2 hso
                            rw [hxo] at t0
                            clear hcs hxo hso
                            go_wp2_with fail
                            refine Reg.wp_plan (S := fun w' => w'.cell? ⟨g, m * 23, none⟩ = some (.int .i64 1) ∧ w'.cell? ⟨g, j * 23, none⟩ = some (.int .i64 s.op) ∧ w'.cell? ⟨g, m * 23 + 1, none⟩ = some (.int .i64 x1.writer) ∧ w'.cell? ⟨g, j * 23 + 1, none⟩ = some (.int .i64 s.writer) ∧ w'.rangeAt g (m * 23 + 5) (nums .u8 x1.key) ∧ w'.rangeAt g (j * 23 + 5) (nums .u8 s.key)) 40 (.fl 0 (.fl 1 (.fl 2 (.fl 3 (.fl 4 (.fl 5 (.fl 6 (.fl 7 (.fl 8 (.fl 9 (.fl 10 (.fl 11 (.fl 12 (.fl 13 (.fl 14 (.fl 15 (.fl 16 (.fl 17 (.fl 18 (.fl 19 (.fl 20 (.fl 21 (.fl 22 (.fl 23 (.fl 24 (.fl 25 (.fl 26 (.fl 27 (.fl 28 (.fl 29 (.fl 30 (.fl 31 (.fl 32 (.fl 33 (.fl 34 (.fl 35 (.fl 36 (.fl 37 (.fl 38 (.fl 39 .done)))))))))))))))))))))))))))))))))))))))) (by kernel_rfl) (by kernel_rfl) (by kernel_rfl) (by kernel_rfl) (fun _ _ _ d _ h => by cases d <;> exact h) ?_ (fun hHeld => ?_)
                            · exact ⟨t0, a0, t1, a1, t5, a5⟩
                            refine Reg.G_on (o := { dst := some 112, op := Op.move (Operand.tmp 10), type := 56, pos := "law.go:101", after := #[], guard := Option.none }) (v := ?_) (by rfl) ?_ (fun wS hSw => ?_) ?_
                            rotate_left
                            · kernel_rfl
                            · (try dsimp only at hSw); go_simp; (try with_reducible rfl)
                            try simp only [Act.put, List.setIfInBounds_toArray, List.set_cons_zero, List.set_cons_succ]
                            refine Reg.G_on (o := { dst := some 113, op := Op.move (Operand.tmp 13), type := 3, pos := "law.go:101", after := #[], guard := Option.none }) (v := ?_) (by rfl) ?_ (fun wS hSw => ?_) ?_
                            rotate_left
                            · kernel_rfl
                            · (try dsimp only at hSw); go_simp; (try with_reducible rfl)
                            try simp only [Act.put, List.setIfInBounds_toArray, List.set_cons_zero, List.set_cons_succ]
                            refine Reg.G_on (o := { dst := some 114, op := Op.indexAddr 56 (Operand.tmp 112) (Operand.tmp 113), type := 0, pos := "law.go:101", after := #[{ on := 0, ground := Ground.data }, { on := 1, ground := Ground.data }], guard := Option.none }) (v := ?_) (by rfl) ?_ (fun wS hSw => ?_) ?_
                            rotate_left
                            · kernel_rfl
                            · (try dsimp only at hSw); go_simp; (try with_reducible rfl)
                            try simp only [Act.put, List.setIfInBounds_toArray, List.set_cons_zero, List.set_cons_succ]
                            refine Reg.G_on (o := { dst := some 115, op := Op.fieldAddr 60 (Operand.tmp 114) 0, type := 0, pos := "law.go:101", after := #[{ on := 2, ground := Ground.data }], guard := Option.none }) (v := ?_) (by rfl) ?_ (fun wS hSw => ?_) ?_
                            rotate_left
                            · kernel_rfl
                            · (try dsimp only at hSw); go_simp; (try with_reducible rfl)
                            try simp only [Act.put, List.setIfInBounds_toArray, List.set_cons_zero, List.set_cons_succ]
                            refine Reg.G_on (o := { dst := some 116, op := Op.load 3 (Operand.tmp 115), type := 3, pos := "law.go:101", after := #[{ on := 3, ground := Ground.data }], guard := Option.none }) (v := ?_) (by rfl) ?_ (fun wS hSw => ?_) ?_
                            rotate_left
                            · kernel_rfl
                            · (try dsimp only at hSw); go_simp; (try with_reducible rfl)
                            try simp only [Act.put, List.setIfInBounds_toArray, List.set_cons_zero, List.set_cons_succ]
                            refine Reg.G_on (o := { dst := some 117, op := Op.binOp BinOp.eql 3 (Operand.tmp 116) (Operand.const (Value.int IntKind.i64 1)) 3, type := 4, pos := "law.go:101", after := #[{ on := 4, ground := Ground.data }], guard := Option.none }) (v := ?_) (by rfl) ?_ (fun wS hSw => ?_) ?_
                            rotate_left
                            · kernel_rfl
                            · (try dsimp only at hSw); go_simp; (try with_reducible rfl)
                            try simp only [Act.put, List.setIfInBounds_toArray, List.set_cons_zero, List.set_cons_succ]
                            refine Reg.G_on (o := { dst := some 118, op := Op.move (Operand.tmp 117), type := 4, pos := "law.go:101", after := #[{ on := 5, ground := Ground.data }], guard := Option.none }) (v := ?_) (by rfl) ?_ (fun wS hSw => ?_) ?_
                            rotate_left
                            · kernel_rfl
                            · (try dsimp only at hSw); go_simp; (try with_reducible rfl)
                            try simp only [Act.put, List.setIfInBounds_toArray, List.set_cons_zero, List.set_cons_succ]
                            refine Reg.G_on (o := { dst := some 119, op := Op.move (Operand.tmp 10), type := 56, pos := "law.go:101", after := #[{ on := 6, ground := Ground.guard }], guard := some (6, true) }) (v := ?_) (by rfl) ?_ (fun wS hSw => ?_) ?_
                            rotate_left
                            · kernel_rfl
                            · (try dsimp only at hSw); go_simp; (try with_reducible rfl)
                            try simp only [Act.put, List.setIfInBounds_toArray, List.set_cons_zero, List.set_cons_succ]
                            refine Reg.G_on (o := { dst := some 120, op := Op.move (Operand.tmp 11), type := 3, pos := "law.go:101", after := #[{ on := 6, ground := Ground.guard }], guard := some (6, true) }) (v := ?_) (by rfl) ?_ (fun wS hSw => ?_) ?_
                            rotate_left
                            · kernel_rfl
                            · (try dsimp only at hSw); go_simp; (try with_reducible rfl)
                            try simp only [Act.put, List.setIfInBounds_toArray, List.set_cons_zero, List.set_cons_succ]
                            refine Reg.G_on (o := { dst := some 121, op := Op.indexAddr 56 (Operand.tmp 119) (Operand.tmp 120), type := 0, pos := "law.go:101", after := #[{ on := 7, ground := Ground.data }, { on := 8, ground := Ground.data }, { on := 6, ground := Ground.guard }], guard := some (6, true) }) (v := ?_) (by rfl) ?_ (fun wS hSw => ?_) ?_
                            rotate_left
                            · kernel_rfl
                            · (try dsimp only at hSw); go_simp; (try with_reducible rfl)
                            try simp only [Act.put, List.setIfInBounds_toArray, List.set_cons_zero, List.set_cons_succ]
                            refine Reg.G_on (o := { dst := some 122, op := Op.fieldAddr 60 (Operand.tmp 121) 0, type := 0, pos := "law.go:101", after := #[{ on := 9, ground := Ground.data }, { on := 6, ground := Ground.guard }], guard := some (6, true) }) (v := ?_) (by rfl) ?_ (fun wS hSw => ?_) ?_
                            rotate_left
                            · kernel_rfl
                            · (try dsimp only at hSw); go_simp; (try with_reducible rfl)
                            try simp only [Act.put, List.setIfInBounds_toArray, List.set_cons_zero, List.set_cons_succ]
                            refine Reg.G_on (o := { dst := some 123, op := Op.load 3 (Operand.tmp 122), type := 3, pos := "law.go:101", after := #[{ on := 10, ground := Ground.data }, { on := 6, ground := Ground.guard }], guard := some (6, true) }) (v := ?_) (by rfl) ?_ (fun wS hSw => ?_) ?_
                            rotate_left
                            · kernel_rfl
                            · (try dsimp only at hSw); go_simp; (try with_reducible rfl)
                            try simp only [Act.put, List.setIfInBounds_toArray, List.set_cons_zero, List.set_cons_succ]
                            refine Reg.G_on (o := { dst := some 124, op := Op.binOp BinOp.eql 3 (Operand.tmp 123) (Operand.const (Value.int IntKind.i64 1)) 3, type := 4, pos := "law.go:101", after := #[{ on := 11, ground := Ground.data }, { on := 6, ground := Ground.guard }], guard := some (6, true) }) (v := ?_) (by rfl) ?_ (fun wS hSw => ?_) ?_
                            rotate_left
                            · kernel_rfl
                            · (try dsimp only at hSw); go_simp; (try with_reducible rfl)
                            try simp only [Act.put, List.setIfInBounds_toArray, List.set_cons_zero, List.set_cons_succ]
                            refine Reg.G_on (o := { dst := some 125, op := Op.pick (Operand.tmp 118) (Operand.tmp 124) (Operand.const (Value.bool false)), type := 4, pos := "law.go:101", after := #[{ on := 6, ground := Ground.data }, { on := 12, ground := Ground.data }], guard := Option.none }) (v := ?_) (by rfl) ?_ (fun wS hSw => ?_) ?_
                            rotate_left
                            · kernel_rfl
                            · (try dsimp only at hSw); go_simp; (try with_reducible rfl)
                            try simp only [Act.put, List.setIfInBounds_toArray, List.set_cons_zero, List.set_cons_succ]
                            refine Reg.G_on (o := { dst := some 126, op := Op.move (Operand.tmp 125), type := 4, pos := "law.go:101", after := #[{ on := 13, ground := Ground.data }, { on := 6, ground := Ground.chain }], guard := Option.none }) (v := ?_) (by rfl) ?_ (fun wS hSw => ?_) ?_
                            rotate_left
                            · kernel_rfl
                            · (try dsimp only at hSw); go_simp; (try with_reducible rfl)
                            try simp only [Act.put, List.setIfInBounds_toArray, List.set_cons_zero, List.set_cons_succ]
                            refine Reg.G_off (o := { dst := some 127, op := Op.move (Operand.tmp 10), type := 56, pos := "law.go:101", after := #[{ on := 14, ground := Ground.guard }], guard := some (14, true) }) (by rfl) ?_ ?_
                            · kernel_rfl
                            try simp only [Act.put, List.setIfInBounds_toArray, List.set_cons_zero, List.set_cons_succ]
                            refine Reg.G_off (o := { dst := some 128, op := Op.move (Operand.tmp 13), type := 3, pos := "law.go:101", after := #[{ on := 14, ground := Ground.guard }], guard := some (14, true) }) (by rfl) ?_ ?_
                            · kernel_rfl
                            try simp only [Act.put, List.setIfInBounds_toArray, List.set_cons_zero, List.set_cons_succ]
                            refine Reg.G_off (o := { dst := some 129, op := Op.indexAddr 56 (Operand.tmp 127) (Operand.tmp 128), type := 0, pos := "law.go:101", after := #[{ on := 15, ground := Ground.data }, { on := 16, ground := Ground.data }, { on := 14, ground := Ground.guard }], guard := some (14, true) }) (by rfl) ?_ ?_
                            · kernel_rfl
                            try simp only [Act.put, List.setIfInBounds_toArray, List.set_cons_zero, List.set_cons_succ]
                            refine Reg.G_off (o := { dst := some 130, op := Op.fieldAddr 60 (Operand.tmp 129) 1, type := 0, pos := "law.go:101", after := #[{ on := 17, ground := Ground.data }, { on := 14, ground := Ground.guard }], guard := some (14, true) }) (by rfl) ?_ ?_
                            · kernel_rfl
                            try simp only [Act.put, List.setIfInBounds_toArray, List.set_cons_zero, List.set_cons_succ]
                            refine Reg.G_off (o := { dst := some 131, op := Op.load 3 (Operand.tmp 130), type := 3, pos := "law.go:101", after := #[{ on := 18, ground := Ground.data }, { on := 14, ground := Ground.guard }], guard := some (14, true) }) (by rfl) ?_ ?_
                            · kernel_rfl
                            try simp only [Act.put, List.setIfInBounds_toArray, List.set_cons_zero, List.set_cons_succ]
                            refine Reg.G_off (o := { dst := some 132, op := Op.move (Operand.tmp 10), type := 56, pos := "law.go:101", after := #[{ on := 14, ground := Ground.guard }], guard := some (14, true) }) (by rfl) ?_ ?_
                            · kernel_rfl
                            try simp only [Act.put, List.setIfInBounds_toArray, List.set_cons_zero, List.set_cons_succ]
                            refine Reg.G_off (o := { dst := some 133, op := Op.move (Operand.tmp 11), type := 3, pos := "law.go:101", after := #[{ on := 14, ground := Ground.guard }], guard := some (14, true) }) (by rfl) ?_ ?_
                            · kernel_rfl
                            try simp only [Act.put, List.setIfInBounds_toArray, List.set_cons_zero, List.set_cons_succ]
                            refine Reg.G_off (o := { dst := some 134, op := Op.indexAddr 56 (Operand.tmp 132) (Operand.tmp 133), type := 0, pos := "law.go:101", after := #[{ on := 20, ground := Ground.data }, { on := 21, ground := Ground.data }, { on := 14, ground := Ground.guard }], guard := some (14, true) }) (by rfl) ?_ ?_
                            · kernel_rfl
                            try simp only [Act.put, List.setIfInBounds_toArray, List.set_cons_zero, List.set_cons_succ]
                            refine Reg.G_off (o := { dst := some 135, op := Op.fieldAddr 60 (Operand.tmp 134) 1, type := 0, pos := "law.go:101", after := #[{ on := 22, ground := Ground.data }, { on := 14, ground := Ground.guard }], guard := some (14, true) }) (by rfl) ?_ ?_
                            · kernel_rfl
                            try simp only [Act.put, List.setIfInBounds_toArray, List.set_cons_zero, List.set_cons_succ]
                            refine Reg.G_off (o := { dst := some 136, op := Op.load 3 (Operand.tmp 135), type := 3, pos := "law.go:101", after := #[{ on := 23, ground := Ground.data }, { on := 14, ground := Ground.guard }], guard := some (14, true) }) (by rfl) ?_ ?_
                            · kernel_rfl
                            try simp only [Act.put, List.setIfInBounds_toArray, List.set_cons_zero, List.set_cons_succ]
                            refine Reg.G_off (o := { dst := some 137, op := Op.binOp BinOp.eql 3 (Operand.tmp 131) (Operand.tmp 136) 3, type := 4, pos := "law.go:101", after := #[{ on := 19, ground := Ground.data }, { on := 24, ground := Ground.data }, { on := 14, ground := Ground.guard }], guard := some (14, true) }) (by rfl) ?_ ?_
                            · kernel_rfl
                            try simp only [Act.put, List.setIfInBounds_toArray, List.set_cons_zero, List.set_cons_succ]
                            refine Reg.G_on (o := { dst := some 138, op := Op.pick (Operand.tmp 126) (Operand.tmp 137) (Operand.const (Value.bool false)), type := 4, pos := "law.go:101", after := #[{ on := 14, ground := Ground.data }, { on := 25, ground := Ground.data }], guard := Option.none }) (v := ?_) (by rfl) ?_ (fun wS hSw => ?_) ?_
                            rotate_left
                            · kernel_rfl
                            · (try dsimp only at hSw); go_simp; (try with_reducible rfl)
                            try simp only [Act.put, List.setIfInBounds_toArray, List.set_cons_zero, List.set_cons_succ]
                            refine Reg.G_on (o := { dst := some 139, op := Op.move (Operand.tmp 138), type := 4, pos := "law.go:101", after := #[{ on := 26, ground := Ground.data }, { on := 14, ground := Ground.chain }], guard := Option.none }) (v := ?_) (by rfl) ?_ (fun wS hSw => ?_) ?_
                            rotate_left
                            · kernel_rfl
                            · (try dsimp only at hSw); go_simp; (try with_reducible rfl)
                            try simp only [Act.put, List.setIfInBounds_toArray, List.set_cons_zero, List.set_cons_succ]
                            refine Reg.G_off (o := { dst := some 140, op := Op.move (Operand.tmp 10), type := 56, pos := "law.go:101", after := #[{ on := 27, ground := Ground.guard }], guard := some (27, true) }) (by rfl) ?_ ?_
                            · kernel_rfl
                            try simp only [Act.put, List.setIfInBounds_toArray, List.set_cons_zero, List.set_cons_succ]
                            refine Reg.G_off (o := { dst := some 141, op := Op.move (Operand.tmp 13), type := 3, pos := "law.go:101", after := #[{ on := 27, ground := Ground.guard }], guard := some (27, true) }) (by rfl) ?_ ?_
                            · kernel_rfl
                            try simp only [Act.put, List.setIfInBounds_toArray, List.set_cons_zero, List.set_cons_succ]
                            refine Reg.G_off (o := { dst := some 142, op := Op.indexAddr 56 (Operand.tmp 140) (Operand.tmp 141), type := 0, pos := "law.go:101", after := #[{ on := 28, ground := Ground.data }, { on := 29, ground := Ground.data }, { on := 27, ground := Ground.guard }], guard := some (27, true) }) (by rfl) ?_ ?_
                            · kernel_rfl
                            try simp only [Act.put, List.setIfInBounds_toArray, List.set_cons_zero, List.set_cons_succ]
                            refine Reg.G_off (o := { dst := some 143, op := Op.fieldAddr 60 (Operand.tmp 142) 5, type := 0, pos := "law.go:101", after := #[{ on := 30, ground := Ground.data }, { on := 27, ground := Ground.guard }], guard := some (27, true) }) (by rfl) ?_ ?_
                            · kernel_rfl
                            try simp only [Act.put, List.setIfInBounds_toArray, List.set_cons_zero, List.set_cons_succ]
                            refine Reg.G_off (o := { dst := some 144, op := Op.load 53 (Operand.tmp 143), type := 53, pos := "law.go:101", after := #[{ on := 31, ground := Ground.data }, { on := 27, ground := Ground.guard }], guard := some (27, true) }) (by rfl) ?_ ?_
                            · kernel_rfl
                            try simp only [Act.put, List.setIfInBounds_toArray, List.set_cons_zero, List.set_cons_succ]
                            refine Reg.G_off (o := { dst := some 145, op := Op.move (Operand.tmp 10), type := 56, pos := "law.go:101", after := #[{ on := 27, ground := Ground.guard }], guard := some (27, true) }) (by rfl) ?_ ?_
                            · kernel_rfl
                            try simp only [Act.put, List.setIfInBounds_toArray, List.set_cons_zero, List.set_cons_succ]
                            refine Reg.G_off (o := { dst := some 146, op := Op.move (Operand.tmp 11), type := 3, pos := "law.go:101", after := #[{ on := 27, ground := Ground.guard }], guard := some (27, true) }) (by rfl) ?_ ?_
                            · kernel_rfl
                            try simp only [Act.put, List.setIfInBounds_toArray, List.set_cons_zero, List.set_cons_succ]
                            refine Reg.G_off (o := { dst := some 147, op := Op.indexAddr 56 (Operand.tmp 145) (Operand.tmp 146), type := 0, pos := "law.go:101", after := #[{ on := 33, ground := Ground.data }, { on := 34, ground := Ground.data }, { on := 27, ground := Ground.guard }], guard := some (27, true) }) (by rfl) ?_ ?_
                            · kernel_rfl
                            try simp only [Act.put, List.setIfInBounds_toArray, List.set_cons_zero, List.set_cons_succ]
                            refine Reg.G_off (o := { dst := some 148, op := Op.fieldAddr 60 (Operand.tmp 147) 5, type := 0, pos := "law.go:101", after := #[{ on := 35, ground := Ground.data }, { on := 27, ground := Ground.guard }], guard := some (27, true) }) (by rfl) ?_ ?_
                            · kernel_rfl
                            try simp only [Act.put, List.setIfInBounds_toArray, List.set_cons_zero, List.set_cons_succ]
                            refine Reg.G_off (o := { dst := some 149, op := Op.load 53 (Operand.tmp 148), type := 53, pos := "law.go:101", after := #[{ on := 36, ground := Ground.data }, { on := 27, ground := Ground.guard }], guard := some (27, true) }) (by rfl) ?_ ?_
                            · kernel_rfl
                            try simp only [Act.put, List.setIfInBounds_toArray, List.set_cons_zero, List.set_cons_succ]
                            refine Reg.G_off (o := { dst := some 150, op := Op.binOp BinOp.eql 53 (Operand.tmp 144) (Operand.tmp 149) 53, type := 4, pos := "law.go:101", after := #[{ on := 32, ground := Ground.data }, { on := 37, ground := Ground.data }, { on := 27, ground := Ground.guard }], guard := some (27, true) }) (by rfl) ?_ ?_
                            · kernel_rfl
                            try simp only [Act.put, List.setIfInBounds_toArray, List.set_cons_zero, List.set_cons_succ]
                            refine Reg.G_on (o := { dst := some 151, op := Op.pick (Operand.tmp 139) (Operand.tmp 150) (Operand.const (Value.bool false)), type := 4, pos := "law.go:101", after := #[{ on := 27, ground := Ground.data }, { on := 38, ground := Ground.data }], guard := Option.none }) (v := ?_) (by rfl) ?_ (fun wS hSw => ?_) ?_
                            rotate_left
                            · kernel_rfl
                            · (try dsimp only at hSw); go_simp; (try with_reducible rfl)
                            try simp only [Act.put, List.setIfInBounds_toArray, List.set_cons_zero, List.set_cons_succ]
                            refine Reg.G_done ?_
                            clear hHeld
                            go_wp2
                            rw [HM1.out]
                            exact ⟨⟨m + 1, by rw [← HC1.out, HCS.out, Nat.add_zero], rfl, hml2.out, by first | exact HBY.out.drew | exact below_drew HBY.out⟩, meas _ _ hml2.out⟩
                        · rw [if_neg (fun hh => by have := hh.2; unfold itr at this; simp [hh.1, hxo] at this)] at hcs
                          have HCS := Lib.hid hcs
                          have hxb : (x1.op == 1) = false := beq_eq_false_iff_ne.2 hxo
                          clear hcs hxo
                          go_wp2_with fail
                          refine Reg.wp_plan (S := fun w' => w'.cell? ⟨g, m * 23, none⟩ = some (.int .i64 x1.op) ∧ w'.cell? ⟨g, j * 23, none⟩ = some (.int .i64 s.op) ∧ w'.cell? ⟨g, m * 23 + 1, none⟩ = some (.int .i64 x1.writer) ∧ w'.cell? ⟨g, j * 23 + 1, none⟩ = some (.int .i64 s.writer) ∧ w'.rangeAt g (m * 23 + 5) (nums .u8 x1.key) ∧ w'.rangeAt g (j * 23 + 5) (nums .u8 s.key)) 40 (.fl 0 (.fl 1 (.fl 2 (.fl 3 (.fl 4 (.fl 5 (.fl 6 (.fl 7 (.fl 8 (.fl 9 (.fl 10 (.fl 11 (.fl 12 (.fl 13 (.fl 14 (.fl 15 (.fl 16 (.fl 17 (.fl 18 (.fl 19 (.fl 20 (.fl 21 (.fl 22 (.fl 23 (.fl 24 (.fl 25 (.fl 26 (.fl 27 (.fl 28 (.fl 29 (.fl 30 (.fl 31 (.fl 32 (.fl 33 (.fl 34 (.fl 35 (.fl 36 (.fl 37 (.fl 38 (.fl 39 .done)))))))))))))))))))))))))))))))))))))))) (by kernel_rfl) (by kernel_rfl) (by kernel_rfl) (by kernel_rfl) (fun _ _ _ d _ h => by cases d <;> exact h) ?_ (fun hHeld => ?_)
                          · exact ⟨t0, a0, t1, a1, t5, a5⟩
                          refine Reg.G_on (o := { dst := some 112, op := Op.move (Operand.tmp 10), type := 56, pos := "law.go:101", after := #[], guard := Option.none }) (v := ?_) (by rfl) ?_ (fun wS hSw => ?_) ?_
                          rotate_left
                          · kernel_rfl
                          · (try dsimp only at hSw); go_simp; (try with_reducible rfl)
                          try simp only [Act.put, List.setIfInBounds_toArray, List.set_cons_zero, List.set_cons_succ]
                          refine Reg.G_on (o := { dst := some 113, op := Op.move (Operand.tmp 13), type := 3, pos := "law.go:101", after := #[], guard := Option.none }) (v := ?_) (by rfl) ?_ (fun wS hSw => ?_) ?_
                          rotate_left
                          · kernel_rfl
                          · (try dsimp only at hSw); go_simp; (try with_reducible rfl)
                          try simp only [Act.put, List.setIfInBounds_toArray, List.set_cons_zero, List.set_cons_succ]
                          refine Reg.G_on (o := { dst := some 114, op := Op.indexAddr 56 (Operand.tmp 112) (Operand.tmp 113), type := 0, pos := "law.go:101", after := #[{ on := 0, ground := Ground.data }, { on := 1, ground := Ground.data }], guard := Option.none }) (v := ?_) (by rfl) ?_ (fun wS hSw => ?_) ?_
                          rotate_left
                          · kernel_rfl
                          · (try dsimp only at hSw); go_simp; (try with_reducible rfl)
                          try simp only [Act.put, List.setIfInBounds_toArray, List.set_cons_zero, List.set_cons_succ]
                          refine Reg.G_on (o := { dst := some 115, op := Op.fieldAddr 60 (Operand.tmp 114) 0, type := 0, pos := "law.go:101", after := #[{ on := 2, ground := Ground.data }], guard := Option.none }) (v := ?_) (by rfl) ?_ (fun wS hSw => ?_) ?_
                          rotate_left
                          · kernel_rfl
                          · (try dsimp only at hSw); go_simp; (try with_reducible rfl)
                          try simp only [Act.put, List.setIfInBounds_toArray, List.set_cons_zero, List.set_cons_succ]
                          refine Reg.G_on (o := { dst := some 116, op := Op.load 3 (Operand.tmp 115), type := 3, pos := "law.go:101", after := #[{ on := 3, ground := Ground.data }], guard := Option.none }) (v := ?_) (by rfl) ?_ (fun wS hSw => ?_) ?_
                          rotate_left
                          · kernel_rfl
                          · (try dsimp only at hSw); go_simp; (try with_reducible rfl)
                          try simp only [Act.put, List.setIfInBounds_toArray, List.set_cons_zero, List.set_cons_succ]
                          refine Reg.G_on (o := { dst := some 117, op := Op.binOp BinOp.eql 3 (Operand.tmp 116) (Operand.const (Value.int IntKind.i64 1)) 3, type := 4, pos := "law.go:101", after := #[{ on := 4, ground := Ground.data }], guard := Option.none }) (v := ?_) (by rfl) ?_ (fun wS hSw => ?_) ?_
                          rotate_left
                          · kernel_rfl
                          · (try dsimp only at hSw); go_simp; (try with_reducible rfl)
                          try simp only [Act.put, List.setIfInBounds_toArray, List.set_cons_zero, List.set_cons_succ]
                          refine Reg.G_on (o := { dst := some 118, op := Op.move (Operand.tmp 117), type := 4, pos := "law.go:101", after := #[{ on := 5, ground := Ground.data }], guard := Option.none }) (v := ?_) (by rfl) ?_ (fun wS hSw => ?_) ?_
                          rotate_left
                          · kernel_rfl
                          · (try dsimp only at hSw); go_simp; (try with_reducible rfl)
                          try simp only [Act.put, List.setIfInBounds_toArray, List.set_cons_zero, List.set_cons_succ]
                          refine Reg.G_off (o := { dst := some 119, op := Op.move (Operand.tmp 10), type := 56, pos := "law.go:101", after := #[{ on := 6, ground := Ground.guard }], guard := some (6, true) }) (by rfl) ?_ ?_
                          · kernel_rfl
                          try simp only [Act.put, List.setIfInBounds_toArray, List.set_cons_zero, List.set_cons_succ]
                          refine Reg.G_off (o := { dst := some 120, op := Op.move (Operand.tmp 11), type := 3, pos := "law.go:101", after := #[{ on := 6, ground := Ground.guard }], guard := some (6, true) }) (by rfl) ?_ ?_
                          · kernel_rfl
                          try simp only [Act.put, List.setIfInBounds_toArray, List.set_cons_zero, List.set_cons_succ]
                          refine Reg.G_off (o := { dst := some 121, op := Op.indexAddr 56 (Operand.tmp 119) (Operand.tmp 120), type := 0, pos := "law.go:101", after := #[{ on := 7, ground := Ground.data }, { on := 8, ground := Ground.data }, { on := 6, ground := Ground.guard }], guard := some (6, true) }) (by rfl) ?_ ?_
                          · kernel_rfl
                          try simp only [Act.put, List.setIfInBounds_toArray, List.set_cons_zero, List.set_cons_succ]
                          refine Reg.G_off (o := { dst := some 122, op := Op.fieldAddr 60 (Operand.tmp 121) 0, type := 0, pos := "law.go:101", after := #[{ on := 9, ground := Ground.data }, { on := 6, ground := Ground.guard }], guard := some (6, true) }) (by rfl) ?_ ?_
                          · kernel_rfl
                          try simp only [Act.put, List.setIfInBounds_toArray, List.set_cons_zero, List.set_cons_succ]
                          refine Reg.G_off (o := { dst := some 123, op := Op.load 3 (Operand.tmp 122), type := 3, pos := "law.go:101", after := #[{ on := 10, ground := Ground.data }, { on := 6, ground := Ground.guard }], guard := some (6, true) }) (by rfl) ?_ ?_
                          · kernel_rfl
                          try simp only [Act.put, List.setIfInBounds_toArray, List.set_cons_zero, List.set_cons_succ]
                          refine Reg.G_off (o := { dst := some 124, op := Op.binOp BinOp.eql 3 (Operand.tmp 123) (Operand.const (Value.int IntKind.i64 1)) 3, type := 4, pos := "law.go:101", after := #[{ on := 11, ground := Ground.data }, { on := 6, ground := Ground.guard }], guard := some (6, true) }) (by rfl) ?_ ?_
                          · kernel_rfl
                          try simp only [Act.put, List.setIfInBounds_toArray, List.set_cons_zero, List.set_cons_succ]
                          refine Reg.G_on (o := { dst := some 125, op := Op.pick (Operand.tmp 118) (Operand.tmp 124) (Operand.const (Value.bool false)), type := 4, pos := "law.go:101", after := #[{ on := 6, ground := Ground.data }, { on := 12, ground := Ground.data }], guard := Option.none }) (v := ?_) (by rfl) ?_ (fun wS hSw => ?_) ?_
                          rotate_left
                          · kernel_rfl
                          · (try dsimp only at hSw); go_simp; (try with_reducible rfl)
                          try simp only [Act.put, List.setIfInBounds_toArray, List.set_cons_zero, List.set_cons_succ]
                          refine Reg.G_on (o := { dst := some 126, op := Op.move (Operand.tmp 125), type := 4, pos := "law.go:101", after := #[{ on := 13, ground := Ground.data }, { on := 6, ground := Ground.chain }], guard := Option.none }) (v := ?_) (by rfl) ?_ (fun wS hSw => ?_) ?_
                          rotate_left
                          · kernel_rfl
                          · (try dsimp only at hSw); go_simp; (try with_reducible rfl)
                          try simp only [Act.put, List.setIfInBounds_toArray, List.set_cons_zero, List.set_cons_succ]
                          refine Reg.G_off (o := { dst := some 127, op := Op.move (Operand.tmp 10), type := 56, pos := "law.go:101", after := #[{ on := 14, ground := Ground.guard }], guard := some (14, true) }) (by rfl) ?_ ?_
                          · kernel_rfl
                          try simp only [Act.put, List.setIfInBounds_toArray, List.set_cons_zero, List.set_cons_succ]
                          refine Reg.G_off (o := { dst := some 128, op := Op.move (Operand.tmp 13), type := 3, pos := "law.go:101", after := #[{ on := 14, ground := Ground.guard }], guard := some (14, true) }) (by rfl) ?_ ?_
                          · kernel_rfl
                          try simp only [Act.put, List.setIfInBounds_toArray, List.set_cons_zero, List.set_cons_succ]
                          refine Reg.G_off (o := { dst := some 129, op := Op.indexAddr 56 (Operand.tmp 127) (Operand.tmp 128), type := 0, pos := "law.go:101", after := #[{ on := 15, ground := Ground.data }, { on := 16, ground := Ground.data }, { on := 14, ground := Ground.guard }], guard := some (14, true) }) (by rfl) ?_ ?_
                          · kernel_rfl
                          try simp only [Act.put, List.setIfInBounds_toArray, List.set_cons_zero, List.set_cons_succ]
                          refine Reg.G_off (o := { dst := some 130, op := Op.fieldAddr 60 (Operand.tmp 129) 1, type := 0, pos := "law.go:101", after := #[{ on := 17, ground := Ground.data }, { on := 14, ground := Ground.guard }], guard := some (14, true) }) (by rfl) ?_ ?_
                          · kernel_rfl
                          try simp only [Act.put, List.setIfInBounds_toArray, List.set_cons_zero, List.set_cons_succ]
                          refine Reg.G_off (o := { dst := some 131, op := Op.load 3 (Operand.tmp 130), type := 3, pos := "law.go:101", after := #[{ on := 18, ground := Ground.data }, { on := 14, ground := Ground.guard }], guard := some (14, true) }) (by rfl) ?_ ?_
                          · kernel_rfl
                          try simp only [Act.put, List.setIfInBounds_toArray, List.set_cons_zero, List.set_cons_succ]
                          refine Reg.G_off (o := { dst := some 132, op := Op.move (Operand.tmp 10), type := 56, pos := "law.go:101", after := #[{ on := 14, ground := Ground.guard }], guard := some (14, true) }) (by rfl) ?_ ?_
                          · kernel_rfl
                          try simp only [Act.put, List.setIfInBounds_toArray, List.set_cons_zero, List.set_cons_succ]
                          refine Reg.G_off (o := { dst := some 133, op := Op.move (Operand.tmp 11), type := 3, pos := "law.go:101", after := #[{ on := 14, ground := Ground.guard }], guard := some (14, true) }) (by rfl) ?_ ?_
                          · kernel_rfl
                          try simp only [Act.put, List.setIfInBounds_toArray, List.set_cons_zero, List.set_cons_succ]
                          refine Reg.G_off (o := { dst := some 134, op := Op.indexAddr 56 (Operand.tmp 132) (Operand.tmp 133), type := 0, pos := "law.go:101", after := #[{ on := 20, ground := Ground.data }, { on := 21, ground := Ground.data }, { on := 14, ground := Ground.guard }], guard := some (14, true) }) (by rfl) ?_ ?_
                          · kernel_rfl
                          try simp only [Act.put, List.setIfInBounds_toArray, List.set_cons_zero, List.set_cons_succ]
                          refine Reg.G_off (o := { dst := some 135, op := Op.fieldAddr 60 (Operand.tmp 134) 1, type := 0, pos := "law.go:101", after := #[{ on := 22, ground := Ground.data }, { on := 14, ground := Ground.guard }], guard := some (14, true) }) (by rfl) ?_ ?_
                          · kernel_rfl
                          try simp only [Act.put, List.setIfInBounds_toArray, List.set_cons_zero, List.set_cons_succ]
                          refine Reg.G_off (o := { dst := some 136, op := Op.load 3 (Operand.tmp 135), type := 3, pos := "law.go:101", after := #[{ on := 23, ground := Ground.data }, { on := 14, ground := Ground.guard }], guard := some (14, true) }) (by rfl) ?_ ?_
                          · kernel_rfl
                          try simp only [Act.put, List.setIfInBounds_toArray, List.set_cons_zero, List.set_cons_succ]
                          refine Reg.G_off (o := { dst := some 137, op := Op.binOp BinOp.eql 3 (Operand.tmp 131) (Operand.tmp 136) 3, type := 4, pos := "law.go:101", after := #[{ on := 19, ground := Ground.data }, { on := 24, ground := Ground.data }, { on := 14, ground := Ground.guard }], guard := some (14, true) }) (by rfl) ?_ ?_
                          · kernel_rfl
                          try simp only [Act.put, List.setIfInBounds_toArray, List.set_cons_zero, List.set_cons_succ]
                          refine Reg.G_on (o := { dst := some 138, op := Op.pick (Operand.tmp 126) (Operand.tmp 137) (Operand.const (Value.bool false)), type := 4, pos := "law.go:101", after := #[{ on := 14, ground := Ground.data }, { on := 25, ground := Ground.data }], guard := Option.none }) (v := ?_) (by rfl) ?_ (fun wS hSw => ?_) ?_
                          rotate_left
                          · kernel_rfl
                          · (try dsimp only at hSw); go_simp; (try with_reducible rfl)
                          try simp only [Act.put, List.setIfInBounds_toArray, List.set_cons_zero, List.set_cons_succ]
                          refine Reg.G_on (o := { dst := some 139, op := Op.move (Operand.tmp 138), type := 4, pos := "law.go:101", after := #[{ on := 26, ground := Ground.data }, { on := 14, ground := Ground.chain }], guard := Option.none }) (v := ?_) (by rfl) ?_ (fun wS hSw => ?_) ?_
                          rotate_left
                          · kernel_rfl
                          · (try dsimp only at hSw); go_simp; (try with_reducible rfl)
                          try simp only [Act.put, List.setIfInBounds_toArray, List.set_cons_zero, List.set_cons_succ]
                          refine Reg.G_off (o := { dst := some 140, op := Op.move (Operand.tmp 10), type := 56, pos := "law.go:101", after := #[{ on := 27, ground := Ground.guard }], guard := some (27, true) }) (by rfl) ?_ ?_
                          · kernel_rfl
                          try simp only [Act.put, List.setIfInBounds_toArray, List.set_cons_zero, List.set_cons_succ]
                          refine Reg.G_off (o := { dst := some 141, op := Op.move (Operand.tmp 13), type := 3, pos := "law.go:101", after := #[{ on := 27, ground := Ground.guard }], guard := some (27, true) }) (by rfl) ?_ ?_
                          · kernel_rfl
                          try simp only [Act.put, List.setIfInBounds_toArray, List.set_cons_zero, List.set_cons_succ]
                          refine Reg.G_off (o := { dst := some 142, op := Op.indexAddr 56 (Operand.tmp 140) (Operand.tmp 141), type := 0, pos := "law.go:101", after := #[{ on := 28, ground := Ground.data }, { on := 29, ground := Ground.data }, { on := 27, ground := Ground.guard }], guard := some (27, true) }) (by rfl) ?_ ?_
                          · kernel_rfl
                          try simp only [Act.put, List.setIfInBounds_toArray, List.set_cons_zero, List.set_cons_succ]
                          refine Reg.G_off (o := { dst := some 143, op := Op.fieldAddr 60 (Operand.tmp 142) 5, type := 0, pos := "law.go:101", after := #[{ on := 30, ground := Ground.data }, { on := 27, ground := Ground.guard }], guard := some (27, true) }) (by rfl) ?_ ?_
                          · kernel_rfl
                          try simp only [Act.put, List.setIfInBounds_toArray, List.set_cons_zero, List.set_cons_succ]
                          refine Reg.G_off (o := { dst := some 144, op := Op.load 53 (Operand.tmp 143), type := 53, pos := "law.go:101", after := #[{ on := 31, ground := Ground.data }, { on := 27, ground := Ground.guard }], guard := some (27, true) }) (by rfl) ?_ ?_
                          · kernel_rfl
                          try simp only [Act.put, List.setIfInBounds_toArray, List.set_cons_zero, List.set_cons_succ]
                          refine Reg.G_off (o := { dst := some 145, op := Op.move (Operand.tmp 10), type := 56, pos := "law.go:101", after := #[{ on := 27, ground := Ground.guard }], guard := some (27, true) }) (by rfl) ?_ ?_
                          · kernel_rfl
                          try simp only [Act.put, List.setIfInBounds_toArray, List.set_cons_zero, List.set_cons_succ]
                          refine Reg.G_off (o := { dst := some 146, op := Op.move (Operand.tmp 11), type := 3, pos := "law.go:101", after := #[{ on := 27, ground := Ground.guard }], guard := some (27, true) }) (by rfl) ?_ ?_
                          · kernel_rfl
                          try simp only [Act.put, List.setIfInBounds_toArray, List.set_cons_zero, List.set_cons_succ]
                          refine Reg.G_off (o := { dst := some 147, op := Op.indexAddr 56 (Operand.tmp 145) (Operand.tmp 146), type := 0, pos := "law.go:101", after := #[{ on := 33, ground := Ground.data }, { on := 34, ground := Ground.data }, { on := 27, ground := Ground.guard }], guard := some (27, true) }) (by rfl) ?_ ?_
                          · kernel_rfl
                          try simp only [Act.put, List.setIfInBounds_toArray, List.set_cons_zero, List.set_cons_succ]
                          refine Reg.G_off (o := { dst := some 148, op := Op.fieldAddr 60 (Operand.tmp 147) 5, type := 0, pos := "law.go:101", after := #[{ on := 35, ground := Ground.data }, { on := 27, ground := Ground.guard }], guard := some (27, true) }) (by rfl) ?_ ?_
                          · kernel_rfl
                          try simp only [Act.put, List.setIfInBounds_toArray, List.set_cons_zero, List.set_cons_succ]
                          refine Reg.G_off (o := { dst := some 149, op := Op.load 53 (Operand.tmp 148), type := 53, pos := "law.go:101", after := #[{ on := 36, ground := Ground.data }, { on := 27, ground := Ground.guard }], guard := some (27, true) }) (by rfl) ?_ ?_
                          · kernel_rfl
                          try simp only [Act.put, List.setIfInBounds_toArray, List.set_cons_zero, List.set_cons_succ]
                          refine Reg.G_off (o := { dst := some 150, op := Op.binOp BinOp.eql 53 (Operand.tmp 144) (Operand.tmp 149) 53, type := 4, pos := "law.go:101", after := #[{ on := 32, ground := Ground.data }, { on := 37, ground := Ground.data }, { on := 27, ground := Ground.guard }], guard := some (27, true) }) (by rfl) ?_ ?_
                          · kernel_rfl
                          try simp only [Act.put, List.setIfInBounds_toArray, List.set_cons_zero, List.set_cons_succ]
                          refine Reg.G_on (o := { dst := some 151, op := Op.pick (Operand.tmp 139) (Operand.tmp 150) (Operand.const (Value.bool false)), type := 4, pos := "law.go:101", after := #[{ on := 27, ground := Ground.data }, { on := 38, ground := Ground.data }], guard := Option.none }) (v := ?_) (by rfl) ?_ (fun wS hSw => ?_) ?_
                          rotate_left
                          · kernel_rfl
                          · (try dsimp only at hSw); go_simp; (try with_reducible rfl)
                          try simp only [Act.put, List.setIfInBounds_toArray, List.set_cons_zero, List.set_cons_succ]
                          refine Reg.G_done ?_
                          clear hHeld
                          go_wp2
                          rw [HM1.out]
                          exact ⟨⟨m + 1, by rw [← HC1.out, HCS.out, Nat.add_zero], rfl, hml2.out, by first | exact HBY.out.drew | exact below_drew HBY.out⟩, meas _ _ hml2.out⟩
                      · have p1 : ¬ (m : Int) < (q'.xs.length : Int) := by omega
                        obtain rfl : m = q'.xs.length := by omega
                        have hle := cnm_end s HN.out.2 HKK.out HIT.out
                        have hgt2 : ¬ k1 < (cnm s q'.xs q'.xs.length : Int) := by omega
                        have yk2 := cbel by_ y1e hw14.out
                        have HBY := Lib.hid by_
                        generalize cnm s q'.xs q'.xs.length = cm at *
                        clear hle hm hml by_
                        go_wp2
                        rw [HJ1.out]
                        exact ⟨⟨j + 1, rfl, hjl2.out, HBY.out⟩, meas _ _ hjl2.out⟩
                  · have hk0 : ¬ (0 : Int) < k1 := hk
                    clear hj hjl bz hj1
                    go_wp2
                    rw [show (i : Int) + 1 = ((i + 1 : Nat) : Int) from rfl]
                    refine ⟨⟨i + 1, came2, fine', q', F', rfl, rfl, rfl, hi1.out, by have := HCa.out; have := HRa.out.c0; omega, HR3.out, HBa.out, HZ.out.1, HFa.out, HZ.out.2⟩, hms.out⟩
                · have r1 : ¬ (j : Int) < (q'.xs.length : Int) := by omega
                  clear hj hjl bz
                  go_wp2
                  rw [show (i : Int) + 1 = ((i + 1 : Nat) : Int) from rfl]
                  refine ⟨⟨i + 1, came2, fine', q', F', rfl, rfl, rfl, hi1.out, by have := HCa.out; have := HRa.out.c0; omega, HR3.out, HBa.out, HZ.out.1, HFa.out, HZ.out.2⟩, hms.out⟩
            rw [HA1.out] at TC
            simp only [upC, List.take_succ_cons, List.take_zero, List.drop_succ_cons, List.drop_zero, List.cons_append, List.nil_append] at TC
            have hTC := Lib.hid TC
            clear TC hK24
            have C7 := lost QD
            have hgt : ¬ (mx0 k0 : Int) < (q'.xs.length : Int) := (by have h := HRa.out.len; rw [HN.out.1] at h; omega)
            have y0d : w11.drew.cell? ⟨w.heap.size, 0, none⟩ = some (.int .i64 k0) := y0k
            clear QD
            cases fine' with
            | true =>
              have hl0 : q'.lost = 0 := (HR3.out.fine rfl).1
              rw [hl0] at C7
              refine Reg.wp_plan (S := fun w' => w'.cell? ⟨w.heap.size, 0, none⟩ = some (.int .i64 k0)) 14 (.fl 0 (.fl 2 (.fl 3 (.fl 4 (.one 1 (.fl 5 (.fl 6 (.fl 7 (.fl 8 (.fl 9 (.one 10 (.fl 11 (.fl 12 (.fl 13 .done)))))))))))))) (by kernel_rfl) (by kernel_rfl) (by kernel_rfl) (by kernel_rfl) (fun _ _ _ d _ h => by cases d <;> exact h) ?_ (fun hHeld => ?_)
              · exact y0d
              refine Reg.G_on (o := { dst := some 77, op := Op.move (Operand.tmp 5), type := 81, pos := "law.go:94", after := #[], guard := Option.none }) (v := ?_) (by rfl) ?_ (fun wS hSw => ?_) ?_
              rotate_left
              · kernel_rfl
              · (try dsimp only at hSw); go_simp; (try with_reducible rfl)
              try simp only [Act.put, List.setIfInBounds_toArray, List.set_cons_zero, List.set_cons_succ]
              refine Reg.G_on (o := { dst := some 79, op := Op.indexAddr 79 (Operand.tmp 2) (Operand.const (Value.int IntKind.i64 0)), type := 0, pos := "law.go:94", after := #[], guard := Option.none }) (v := ?_) (by rfl) ?_ (fun wS hSw => ?_) ?_
              rotate_left
              · kernel_rfl
              · (try dsimp only at hSw); go_simp; (try with_reducible rfl)
              try simp only [Act.put, List.setIfInBounds_toArray, List.set_cons_zero, List.set_cons_succ]
              refine Reg.G_on (o := { dst := some 80, op := Op.load 3 (Operand.tmp 79), type := 3, pos := "law.go:94", after := #[{ on := 2, ground := Ground.data }], guard := Option.none }) (v := ?_) (by rfl) ?_ (fun wS hSw => ?_) ?_
              rotate_left
              · kernel_rfl
              · (try dsimp only at hSw); go_simp; (try with_reducible rfl)
              try simp only [Act.put, List.setIfInBounds_toArray, List.set_cons_zero, List.set_cons_succ]
              refine Reg.G_on (o := { dst := some 81, op := Op.call { callee := Callee.builtin Builtin.max, args := #[Operand.tmp 80, Operand.const (Value.int IntKind.i64 0)], argTypes := #[3, 3] }, type := 3, pos := "law.go:94", after := #[{ on := 3, ground := Ground.data }], guard := Option.none }) (v := .int .i64 (mx0 k0)) (by rfl) ?_ (fun wS hSw => ?_) ?_
              · kernel_rfl
              · (go_simp; unfold mx0; rfl)
              try simp only [Act.put, List.setIfInBounds_toArray, List.set_cons_zero, List.set_cons_succ]
              refine Reg.G_step (o := { dst := some 78, op := Op.call { callee := Callee.value (Operand.func 48), args := #[Operand.tmp 77], argTypes := #[81] }, type := 3, pos := "law.go:94", after := #[{ on := 0, ground := Ground.data }], guard := Option.none }) (by rfl) ?_ (fun K hK => ?_)
              · kernel_rfl
              go_simp
              refine (C6).mono ?_
              rintro e w' ⟨rfl, rfl⟩
              refine hK.out _ _ ?_ (fun hHeld => ?_)
              · exact y0d
              clear hK K
              try simp only [Act.put, List.setIfInBounds_toArray, List.set_cons_zero, List.set_cons_succ]
              refine Reg.G_on (o := { dst := some 82, op := Op.binOp BinOp.gtr 3 (Operand.tmp 78) (Operand.tmp 81) 3, type := 4, pos := "law.go:94", after := #[{ on := 1, ground := Ground.data }, { on := 4, ground := Ground.data }], guard := Option.none }) (v := ?_) (by rfl) ?_ (fun wS hSw => ?_) ?_
              rotate_left
              · kernel_rfl
              · (try dsimp only at hSw); go_simp; (try with_reducible rfl)
              try simp only [Act.put, List.setIfInBounds_toArray, List.set_cons_zero, List.set_cons_succ]
              refine Reg.G_on (o := { dst := some 83, op := Op.move (Operand.tmp 82), type := 4, pos := "law.go:94", after := #[{ on := 5, ground := Ground.data }, { on := 1, ground := Ground.chain }], guard := Option.none }) (v := ?_) (by rfl) ?_ (fun wS hSw => ?_) ?_
              rotate_left
              · kernel_rfl
              · (try dsimp only at hSw); go_simp; (try with_reducible rfl)
              try simp only [Act.put, List.setIfInBounds_toArray, List.set_cons_zero, List.set_cons_succ]
              refine Reg.G_on (o := { dst := some 84, op := Op.move (Operand.tmp 7), type := 4, pos := "law.go:94", after := #[{ on := 6, ground := Ground.guard }], guard := some (6, false) }) (v := ?_) (by rfl) ?_ (fun wS hSw => ?_) ?_
              rotate_left
              · kernel_rfl
              · (try dsimp only at hSw); go_simp; (try with_reducible rfl)
              try simp only [Act.put, List.setIfInBounds_toArray, List.set_cons_zero, List.set_cons_succ]
              refine Reg.G_on (o := { dst := some 85, op := Op.move (Operand.tmp 84), type := 4, pos := "law.go:94", after := #[{ on := 7, ground := Ground.data }, { on := 6, ground := Ground.chain }, { on := 6, ground := Ground.guard }], guard := some (6, false) }) (v := ?_) (by rfl) ?_ (fun wS hSw => ?_) ?_
              rotate_left
              · kernel_rfl
              · (try dsimp only at hSw); go_simp; (try with_reducible rfl)
              try simp only [Act.put, List.setIfInBounds_toArray, List.set_cons_zero, List.set_cons_succ]
              refine Reg.G_on (o := { dst := some 86, op := Op.move (Operand.tmp 5), type := 81, pos := "law.go:94", after := #[{ on := 8, ground := Ground.guard }], guard := some (8, true) }) (v := ?_) (by rfl) ?_ (fun wS hSw => ?_) ?_
              rotate_left
              · kernel_rfl
              · (try dsimp only at hSw); go_simp; (try with_reducible rfl)
              try simp only [Act.put, List.setIfInBounds_toArray, List.set_cons_zero, List.set_cons_succ]
              refine Reg.G_step (o := { dst := some 87, op := Op.call { callee := Callee.value (Operand.func 49), args := #[Operand.tmp 86], argTypes := #[81] }, type := 58, pos := "law.go:94", after := #[{ on := 9, ground := Ground.data }, { on := 8, ground := Ground.chain }, { on := 8, ground := Ground.guard }], guard := some (8, true) }) (by rfl) ?_ (fun K hK => ?_)
              · kernel_rfl
              go_simp
              refine (C7).mono ?_
              rintro e w' ⟨rfl, rfl⟩
              refine hK.out _ _ ?_ (fun hHeld => ?_)
              · exact y0d
              clear hK K
              try simp only [Act.put, List.setIfInBounds_toArray, List.set_cons_zero, List.set_cons_succ]
              refine Reg.G_on (o := { dst := some 88, op := Op.binOp BinOp.neq 58 (Operand.tmp 87) (Operand.const (Value.int IntKind.u64 0)) 58, type := 4, pos := "law.go:94", after := #[{ on := 10, ground := Ground.data }, { on := 8, ground := Ground.guard }], guard := some (8, true) }) (v := ?_) (by rfl) ?_ (fun wS hSw => ?_) ?_
              rotate_left
              · kernel_rfl
              · (try dsimp only at hSw); go_simp; (try with_reducible rfl)
              try simp only [Act.put, List.setIfInBounds_toArray, List.set_cons_zero, List.set_cons_succ]
              refine Reg.G_on (o := { dst := some 89, op := Op.pick (Operand.tmp 85) (Operand.tmp 88) (Operand.const (Value.bool false)), type := 4, pos := "law.go:94", after := #[{ on := 8, ground := Ground.data }, { on := 11, ground := Ground.data }, { on := 6, ground := Ground.guard }], guard := some (6, false) }) (v := ?_) (by rfl) ?_ (fun wS hSw => ?_) ?_
              rotate_left
              · kernel_rfl
              · (try dsimp only at hSw); go_simp; (try with_reducible rfl)
              try simp only [Act.put, List.setIfInBounds_toArray, List.set_cons_zero, List.set_cons_succ]
              refine Reg.G_on (o := { dst := some 90, op := Op.pick (Operand.tmp 83) (Operand.const (Value.bool true)) (Operand.tmp 89), type := 4, pos := "law.go:94", after := #[{ on := 6, ground := Ground.data }, { on := 12, ground := Ground.data }], guard := Option.none }) (v := ?_) (by rfl) ?_ (fun wS hSw => ?_) ?_
              rotate_left
              · kernel_rfl
              · (try dsimp only at hSw); go_simp; (try with_reducible rfl)
              try simp only [Act.put, List.setIfInBounds_toArray, List.set_cons_zero, List.set_cons_succ]
              refine Reg.G_done ?_
              clear hHeld
              go_wp2
              exact hTC.out _ _ _ _ _ _ _ _ _ _ _ _ _ _
            | false =>
              refine Reg.wp_plan (S := fun w' => w'.cell? ⟨w.heap.size, 0, none⟩ = some (.int .i64 k0)) 14 (.fl 0 (.fl 2 (.fl 3 (.fl 4 (.one 1 (.fl 5 (.fl 6 (.fl 7 (.fl 8 (.fl 9 (.one 10 (.fl 11 (.fl 12 (.fl 13 .done)))))))))))))) (by kernel_rfl) (by kernel_rfl) (by kernel_rfl) (by kernel_rfl) (fun _ _ _ d _ h => by cases d <;> exact h) ?_ (fun hHeld => ?_)
              · exact y0d
              refine Reg.G_on (o := { dst := some 77, op := Op.move (Operand.tmp 5), type := 81, pos := "law.go:94", after := #[], guard := Option.none }) (v := ?_) (by rfl) ?_ (fun wS hSw => ?_) ?_
              rotate_left
              · kernel_rfl
              · (try dsimp only at hSw); go_simp; (try with_reducible rfl)
              try simp only [Act.put, List.setIfInBounds_toArray, List.set_cons_zero, List.set_cons_succ]
              refine Reg.G_on (o := { dst := some 79, op := Op.indexAddr 79 (Operand.tmp 2) (Operand.const (Value.int IntKind.i64 0)), type := 0, pos := "law.go:94", after := #[], guard := Option.none }) (v := ?_) (by rfl) ?_ (fun wS hSw => ?_) ?_
              rotate_left
              · kernel_rfl
              · (try dsimp only at hSw); go_simp; (try with_reducible rfl)
              try simp only [Act.put, List.setIfInBounds_toArray, List.set_cons_zero, List.set_cons_succ]
              refine Reg.G_on (o := { dst := some 80, op := Op.load 3 (Operand.tmp 79), type := 3, pos := "law.go:94", after := #[{ on := 2, ground := Ground.data }], guard := Option.none }) (v := ?_) (by rfl) ?_ (fun wS hSw => ?_) ?_
              rotate_left
              · kernel_rfl
              · (try dsimp only at hSw); go_simp; (try with_reducible rfl)
              try simp only [Act.put, List.setIfInBounds_toArray, List.set_cons_zero, List.set_cons_succ]
              refine Reg.G_on (o := { dst := some 81, op := Op.call { callee := Callee.builtin Builtin.max, args := #[Operand.tmp 80, Operand.const (Value.int IntKind.i64 0)], argTypes := #[3, 3] }, type := 3, pos := "law.go:94", after := #[{ on := 3, ground := Ground.data }], guard := Option.none }) (v := .int .i64 (mx0 k0)) (by rfl) ?_ (fun wS hSw => ?_) ?_
              · kernel_rfl
              · (go_simp; unfold mx0; rfl)
              try simp only [Act.put, List.setIfInBounds_toArray, List.set_cons_zero, List.set_cons_succ]
              refine Reg.G_step (o := { dst := some 78, op := Op.call { callee := Callee.value (Operand.func 48), args := #[Operand.tmp 77], argTypes := #[81] }, type := 3, pos := "law.go:94", after := #[{ on := 0, ground := Ground.data }], guard := Option.none }) (by rfl) ?_ (fun K hK => ?_)
              · kernel_rfl
              go_simp
              refine (C6).mono ?_
              rintro e w' ⟨rfl, rfl⟩
              refine hK.out _ _ ?_ (fun hHeld => ?_)
              · exact y0d
              clear hK K
              try simp only [Act.put, List.setIfInBounds_toArray, List.set_cons_zero, List.set_cons_succ]
              refine Reg.G_on (o := { dst := some 82, op := Op.binOp BinOp.gtr 3 (Operand.tmp 78) (Operand.tmp 81) 3, type := 4, pos := "law.go:94", after := #[{ on := 1, ground := Ground.data }, { on := 4, ground := Ground.data }], guard := Option.none }) (v := ?_) (by rfl) ?_ (fun wS hSw => ?_) ?_
              rotate_left
              · kernel_rfl
              · (try dsimp only at hSw); go_simp; (try with_reducible rfl)
              try simp only [Act.put, List.setIfInBounds_toArray, List.set_cons_zero, List.set_cons_succ]
              refine Reg.G_on (o := { dst := some 83, op := Op.move (Operand.tmp 82), type := 4, pos := "law.go:94", after := #[{ on := 5, ground := Ground.data }, { on := 1, ground := Ground.chain }], guard := Option.none }) (v := ?_) (by rfl) ?_ (fun wS hSw => ?_) ?_
              rotate_left
              · kernel_rfl
              · (try dsimp only at hSw); go_simp; (try with_reducible rfl)
              try simp only [Act.put, List.setIfInBounds_toArray, List.set_cons_zero, List.set_cons_succ]
              refine Reg.G_on (o := { dst := some 84, op := Op.move (Operand.tmp 7), type := 4, pos := "law.go:94", after := #[{ on := 6, ground := Ground.guard }], guard := some (6, false) }) (v := ?_) (by rfl) ?_ (fun wS hSw => ?_) ?_
              rotate_left
              · kernel_rfl
              · (try dsimp only at hSw); go_simp; (try with_reducible rfl)
              try simp only [Act.put, List.setIfInBounds_toArray, List.set_cons_zero, List.set_cons_succ]
              refine Reg.G_on (o := { dst := some 85, op := Op.move (Operand.tmp 84), type := 4, pos := "law.go:94", after := #[{ on := 7, ground := Ground.data }, { on := 6, ground := Ground.chain }, { on := 6, ground := Ground.guard }], guard := some (6, false) }) (v := ?_) (by rfl) ?_ (fun wS hSw => ?_) ?_
              rotate_left
              · kernel_rfl
              · (try dsimp only at hSw); go_simp; (try with_reducible rfl)
              try simp only [Act.put, List.setIfInBounds_toArray, List.set_cons_zero, List.set_cons_succ]
              refine Reg.G_off (o := { dst := some 86, op := Op.move (Operand.tmp 5), type := 81, pos := "law.go:94", after := #[{ on := 8, ground := Ground.guard }], guard := some (8, true) }) (by rfl) ?_ ?_
              · kernel_rfl
              try simp only [Act.put, List.setIfInBounds_toArray, List.set_cons_zero, List.set_cons_succ]
              refine Reg.G_skip (o := { dst := some 87, op := Op.call { callee := Callee.value (Operand.func 49), args := #[Operand.tmp 86], argTypes := #[81] }, type := 58, pos := "law.go:94", after := #[{ on := 9, ground := Ground.data }, { on := 8, ground := Ground.chain }, { on := 8, ground := Ground.guard }], guard := some (8, true) }) (by rfl) ?_ (by assumption) ?_
              · kernel_rfl
              try simp only [Act.put, List.setIfInBounds_toArray, List.set_cons_zero, List.set_cons_succ]
              refine Reg.G_off (o := { dst := some 88, op := Op.binOp BinOp.neq 58 (Operand.tmp 87) (Operand.const (Value.int IntKind.u64 0)) 58, type := 4, pos := "law.go:94", after := #[{ on := 10, ground := Ground.data }, { on := 8, ground := Ground.guard }], guard := some (8, true) }) (by rfl) ?_ ?_
              · kernel_rfl
              try simp only [Act.put, List.setIfInBounds_toArray, List.set_cons_zero, List.set_cons_succ]
              refine Reg.G_on (o := { dst := some 89, op := Op.pick (Operand.tmp 85) (Operand.tmp 88) (Operand.const (Value.bool false)), type := 4, pos := "law.go:94", after := #[{ on := 8, ground := Ground.data }, { on := 11, ground := Ground.data }, { on := 6, ground := Ground.guard }], guard := some (6, false) }) (v := ?_) (by rfl) ?_ (fun wS hSw => ?_) ?_
              rotate_left
              · kernel_rfl
              · (try dsimp only at hSw); go_simp; (try with_reducible rfl)
              try simp only [Act.put, List.setIfInBounds_toArray, List.set_cons_zero, List.set_cons_succ]
              refine Reg.G_on (o := { dst := some 90, op := Op.pick (Operand.tmp 83) (Operand.const (Value.bool true)) (Operand.tmp 89), type := 4, pos := "law.go:94", after := #[{ on := 6, ground := Ground.data }, { on := 12, ground := Ground.data }], guard := Option.none }) (v := ?_) (by rfl) ?_ (fun wS hSw => ?_) ?_
              rotate_left
              · kernel_rfl
              · (try dsimp only at hSw); go_simp; (try with_reducible rfl)
              try simp only [Act.put, List.setIfInBounds_toArray, List.set_cons_zero, List.set_cons_succ]
              refine Reg.G_done ?_
              clear hHeld
              go_wp2
              exact hTC.out _ _ _ _ _ _ _ _ _ _ _ _ _ _
          have hTB := Lib.hid TB
          clear TB hK22
          refine C5.mono ?_
          rintro e w12 ⟨rfl, rfl⟩
          by_cases hz : ((q'.xs.length : Nat) : Int) = 0
          · have hzb : (((q'.xs.length : Nat) : Int) == 0) = true := beq_iff_eq.2 hz
            have HR3 := Lib.hid (HRa.out.empty (by omega))
            clear hz y0k y1k
            go_wp2
            have TB := hTB.out
            rw [HA0.out] at TB
            simp only [upB, List.take_succ_cons, List.take_zero, List.drop_succ_cons, List.drop_zero, List.cons_append, List.nil_append] at TB
            exact TB _ _ _ _ _ ⟨0, rfl, Int.natCast_nonneg _, HR3.out, rfl⟩
          · have hzb : (((q'.xs.length : Nat) : Int) == 0) = false := beq_eq_false_iff_ne.2 hz
            clear hz y0k y1k
            go_wp2
            have TB := hTB.out
            rw [HA0.out] at TB
            simp only [upB, List.take_succ_cons, List.take_zero, List.drop_succ_cons, List.drop_zero, List.cons_append, List.nil_append] at TB
            exact TB _ _ _ _ _ ⟨came', rfl, HCa.out, HRa.out, rfl⟩
        · intro TAIL
          simp only [updf, List.take_succ_cons, List.take_zero, List.drop_succ_cons, List.drop_zero, List.cons_append, List.nil_append] at TAIL
          have hT := Lib.hid TAIL
          clear TAIL hK1
          obtain ⟨B9, n9⟩ := H9.out
          have bb9 := Lib.hid (BB0.out.trans (B9.mono (Nat.le_of_lt HQ0.out.lt)))
          have hs9 := Lib.hid B9.size
          have q9 := HQ0.out.below B9
          have y0 := (RstAt.box n9).kind
          have y24 := (RstAt.box n9).n
          have y25 := (RstAt.box n9).now
          have r43 := (RstAt.box n9).smp
          have hl80 : (q.xs.length + 1) * 80 ≤ 140737488355328 := by have h := HB0'.out.1; have h2 := hi200.out; omega
          have hl8 : q.xs.length * 80 ≤ 140737488355328 := Nat.le_trans (Nat.mul_le_mul_right _ (Nat.le_succ _)) hl80
          have hg9 := blk_lt n9
          by_cases hk1 : x.kind = 1
          · rw [hk1] at y0
            have C1 : Calls Try.prog 45 _ _ (fun e w' => e = .returned (.tuple #[]) ∧ ∃ F', QS w' F' c n (q.push n x.s).lost (q.push n x.s).ev (q.push n x.s).xs ∧ Grow F F' _ ∧ Mod (HM F c) _ w') := push q9 x.s hl80 (by have h := HB0'.out; have h2 := hi200.out; unfold Bd at h; omega) (by have h := HB0'.out; have h2 := hi200.out; unfold Bd at h; omega)
            have hB2 : Hid (Bd (i + 1) (q.push n x.s)) := Lib.hid (by
              have h := HB0'.out
              have h1 := pushm_le n q.xs q.lost q.ev x.s
              unfold Bd at h ⊢
              unfold St.push
              dsimp only at h1 ⊢
              omega)
            have hR2 := Lib.hid (HR0.out.push x.s k0 HN.out.1)
            have hc0 := HR0.out.c0
            have hwc : wrap64 (came + 1) = came + 1 := by have := HCE.out; have := hi200.out; unfold wrap64; omega
            have HWC := Lib.hid hwc
            have HCE2 : Hid (came + 1 ≤ ((i + 1 : Nat) : Int)) := Lib.hid (by have := HCE.out; omega)
            generalize q.push n x.s = q' at C1 hB2 hR2
            have yk0 : ∀ w11, Below c w1 w11 → w11.cell? ⟨w.heap.size, 0, none⟩ = some (.int .i64 k0) := fun w11 h => cbel h HK.out.1 HB0.out
            have HY := Lib.hid yk0
            clear B9 n9 y24 y25 q9 hl80 hl8 yk0 hc0
            go_wp2_with (first | ((with_reducible refine gate_dst (N := 43) rfl ?_); refine wpList_load_mid rfl 60 (.tmp 42) rfl wr.heap.size 1 rfl (cells x.s) _ r43 Try.underlying60 rfl (size23 _) ?_; clear r43) | fail)
            refine C1.mono ?_
            rintro e w11 ⟨rfl, F', q2, g2, m2⟩
            obtain ⟨hf2, bb2, _⟩ := HF0.out.step bb9.out (Nat.le_trans (Nat.le_of_lt HQ0.out.lt) hs9.out) m2 g2
            have yk := HY.out w11 bb2
            have HX := Lib.hid (And.intro q2 (And.intro hf2 bb2))
            clear C1 g2 m2 q2 hf2 bb2 y0
            by_cases hck : came + 1 ≤ k0
            · cases fine with
              | true =>
                rw [decide_eq_true hck, Bool.and_true] at hR2
                go_wp2
                try rw [HWC.out]
                exact hT.out _ _ _ _ _ _ _ _ _ _ _ _ _ _ _ _ _ _ _ _ _ _ _ _ _ _ _ _ _ _ _ _ _ _ _ _ _ _ _ _ _ ⟨q', F', (came + 1), true, rfl, rfl, HCE2.out, hR2.out, hB2.out, HX.out.1, HX.out.2.1, HX.out.2.2⟩
              | false =>
                rw [decide_eq_true hck, Bool.and_true] at hR2
                go_wp2
                try rw [HWC.out]
                exact hT.out _ _ _ _ _ _ _ _ _ _ _ _ _ _ _ _ _ _ _ _ _ _ _ _ _ _ _ _ _ _ _ _ _ _ _ _ _ _ _ _ _ ⟨q', F', (came + 1), false, rfl, rfl, HCE2.out, hR2.out, hB2.out, HX.out.1, HX.out.2.1, HX.out.2.2⟩
            · cases fine with
              | true =>
                rw [decide_eq_false hck, Bool.and_false] at hR2
                go_wp2
                rw [show decide (came + 1 ≤ k0) = false from decide_eq_false (by omega)]
                try rw [HWC.out]
                exact hT.out _ _ _ _ _ _ _ _ _ _ _ _ _ _ _ _ _ _ _ _ _ _ _ _ _ _ _ _ _ _ _ _ _ _ _ _ _ _ _ _ _ ⟨q', F', (came + 1), false, rfl, rfl, HCE2.out, hR2.out, hB2.out, HX.out.1, HX.out.2.1, HX.out.2.2⟩
              | false =>
                rw [decide_eq_false hck, Bool.and_false] at hR2
                go_wp2
                try rw [HWC.out]
                exact hT.out _ _ _ _ _ _ _ _ _ _ _ _ _ _ _ _ _ _ _ _ _ _ _ _ _ _ _ _ _ _ _ _ _ _ _ _ _ _ _ _ _ ⟨q', F', (came + 1), false, rfl, rfl, HCE2.out, hR2.out, hB2.out, HX.out.1, HX.out.2.1, HX.out.2.2⟩
          · have hk1' : (x.kind == 1) = false := beq_eq_false_iff_ne.2 hk1
            have HCE2 : Hid (came ≤ ((i + 1 : Nat) : Int)) := Lib.hid (by have := HCE.out; omega)
            clear r43 hl80
            by_cases hk2 : x.kind = 2
            · rw [hk2] at y0
              have C1 := read q9 hl8 x.n
              have hR2 := HR0
              have hB2 : Hid (Bd (i + 1) q) := Lib.hid (by
                have h := HB0'.out
                unfold Bd at h ⊢
                omega)
              have hsz := Lib.hid (Nat.le_trans (Nat.le_of_lt HQ0.out.lt) hs9.out)
              have HQ9 := Lib.hid q9
              clear B9 n9 y25 q9 hl8 hk1 hk1'
              go_wp2_with fail
              refine C1.mono ?_
              rintro e w11 ⟨v11, rfl, _, b11⟩
              have HX := Lib.hid (And.intro (HQ9.out.below b11) (And.intro HF0.out (bb9.out.trans (b11.mono hsz.out))))
              clear C1 b11 y0 y24
              go_wp2
              try rw [HWC.out]
              exact hT.out _ _ _ _ _ _ _ _ _ _ _ _ _ _ _ _ _ _ _ _ _ _ _ _ _ _ _ _ _ _ _ _ _ _ _ _ _ _ _ _ _ ⟨q, F, came, fine, rfl, rfl, HCE2.out, hR2.out, hB2.out, HX.out.1, HX.out.2.1, HX.out.2.2⟩
            · by_cases hk3 : x.kind = 3
              · rw [hk3] at y0
                have C1 := take q9 hl8 x.n
                have hR2 := Lib.hid (HR0.out.less (List.drop_sublist x.n.toNat q.xs))
                have hB2 : Hid (Bd (i + 1) { q with xs := q.xs.drop x.n.toNat }) := Lib.hid (by
                  have h := HB0'.out
                  unfold Bd at h ⊢
                  dsimp only
                  rw [List.length_drop]
                  omega)
                have hsz := Lib.hid (Nat.le_trans (Nat.le_of_lt HQ0.out.lt) hs9.out)
                clear B9 n9 y25 q9 hl8 hk1 hk1' hk2
                go_wp2_with fail
                refine C1.mono ?_
                rintro e w11 ⟨v11, rfl, _, q2, m2⟩
                obtain ⟨hf2, bb2, _⟩ := HF0.out.step bb9.out hsz.out m2 (fun k hk => .inl hk)
                have HX := Lib.hid (And.intro q2 (And.intro hf2 bb2))
                clear C1 y0 y24 q2 m2 hf2 bb2
                go_wp2
                try rw [HWC.out]
                exact hT.out _ _ _ _ _ _ _ _ _ _ _ _ _ _ _ _ _ _ _ _ _ _ _ _ _ _ _ _ _ _ _ _ _ _ _ _ _ _ _ _ _ ⟨{ q with xs := q.xs.drop x.n.toNat }, F, came, fine, rfl, rfl, HCE2.out, hR2.out, hB2.out, HX.out.1, HX.out.2.1, HX.out.2.2⟩
              · have hk2' : (x.kind == 2) = false := beq_eq_false_iff_ne.2 hk2
                have hk3' : (x.kind == 3) = false := beq_eq_false_iff_ne.2 hk3
                by_cases hk4 : x.kind = 4
                · rw [hk4] at y0
                  have gn := wf_i64 x.good.2.1
                  have C1 := expire q9 hl8 x.now x.n (wf_u64 x.good.2.2).2 gn.1 gn.2
                  have hsub : (expm x.now x.n q.xs).Sublist q.xs := by
                    unfold expm
                    split
                    · exact List.Sublist.refl _
                    · exact List.filter_sublist
                  have hR2 := Lib.hid (HR0.out.less hsub)
                  have hB2 : Hid (Bd (i + 1) { q with xs := expm x.now x.n q.xs }) := Lib.hid (by
                    have h := HB0'.out
                    have h2 := hsub.length_le
                    unfold Bd at h ⊢
                    dsimp only
                    omega)
                  have hsz := Lib.hid (Nat.le_trans (Nat.le_of_lt HQ0.out.lt) hs9.out)
                  clear B9 n9 q9 hl8 hk1 hk1' hk2 hk2' hk3 hk3' hsub gn
                  go_wp2_with fail
                  refine C1.mono ?_
                  rintro e w11 ⟨rfl, F', q2, g2, m2⟩
                  obtain ⟨hf2, bb2, _⟩ := HF0.out.step bb9.out hsz.out m2 g2
                  have HX := Lib.hid (And.intro q2 (And.intro hf2 bb2))
                  clear C1 y0 y24 y25 q2 m2 g2 hf2 bb2
                  go_wp2
                  try rw [HWC.out]
                  exact hT.out _ _ _ _ _ _ _ _ _ _ _ _ _ _ _ _ _ _ _ _ _ _ _ _ _ _ _ _ _ _ _ _ _ _ _ _ _ _ _ _ _ ⟨{ q with xs := expm x.now x.n q.xs }, F', came, fine, rfl, rfl, HCE2.out, hR2.out, hB2.out, HX.out.1, HX.out.2.1, HX.out.2.2⟩
                · have hk4' : (x.kind == 4) = false := beq_eq_false_iff_ne.2 hk4
                  have C1 := clear q9
                  have hR2 := Lib.hid (HR0.out.less (List.nil_sublist _))
                  have hB2 : Hid (Bd (i + 1) { q with xs := [] }) := Lib.hid (by
                    have h := HB0'.out
                    unfold Bd at h ⊢
                    dsimp only
                    exact ⟨Nat.zero_le _, h.2.1, by omega, h.2.2.2.1, by omega⟩)
                  have hsz := Lib.hid (Nat.le_trans (Nat.le_of_lt HQ0.out.lt) hs9.out)
                  clear B9 n9 q9 hl8 hk1 hk2 hk3 hk4 y24 y25
                  go_wp2_with fail
                  refine C1.mono ?_
                  rintro e w11 ⟨rfl, q2, m2⟩
                  obtain ⟨hf2, bb2, _⟩ := HF0.out.step bb9.out hsz.out m2 (fun k hk => .inl hk)
                  have HX := Lib.hid (And.intro q2 (And.intro hf2 bb2))
                  clear C1 y0 q2 m2 hf2 bb2
                  go_wp2
                  try rw [HWC.out]
                  exact hT.out _ _ _ _ _ _ _ _ _ _ _ _ _ _ _ _ _ _ _ _ _ _ _ _ _ _ _ _ _ _ _ _ _ _ _ _ _ _ _ _ _ ⟨{ q with xs := [] }, F, came, fine, rfl, rfl, HCE2.out, hR2.out, hB2.out, HX.out.1, HX.out.2.1, HX.out.2.2⟩
      · have q1 : ¬ (i : Int) < (l.length : Int) := by omega
        have bw : Below w.heap.size w wr := bstep HB1.out (HCC.out ▸ bb)
        clear hq hf hlt hi hR hB bb hce
        go_wp2_with fail
        refine (awake _).mono ?_
        rintro e w9 ⟨rfl, b9⟩
        go_wp2
        go_ret
        exact ⟨rfl, bstep bw b9⟩
end Go.Proofs.Ytimalojaiaofkaa.Rng
