import Derived.Test.YtkijeknopnjamaaMemory5
set_option linter.unusedVariables false
set_option linter.unusedSimpArgs false
namespace Go.Proofs.Ytkijeknopnjamaa.Memory
open Go.RowKit Base Sp Flat Go.Proofs.YtkijeknopnjamaaW.PrintWords Go.Lib
theorem ext_lists {l m : List UInt8} {a b c d : Nat} (h : (l.take b).drop a = (m.take d).drop c) : (⟨l.toArray⟩ : ByteArray).extract a b = (⟨m.toArray⟩ : ByteArray).extract c d := by
  apply ByteArray.ext
  rw [ByteArray.data_extract, ByteArray.data_extract]
  apply Array.ext'
  simpa [List.extract_eq_take_drop, List.drop_take] using h
theorem put_pre (l : List UInt8) (i : Nat) (s : List UInt8) (h : i + s.length ≤ l.length) : (⟨(put l i s).toArray⟩ : ByteArray).extract 0 i = (⟨l.toArray⟩ : ByteArray).extract 0 i := by
  apply ext_lists
  unfold put
  rw [List.append_assoc, List.take_append_of_le_length (by simp; omega), List.take_take, Nat.min_self]
theorem put_post (l : List UInt8) (i : Nat) (s : List UInt8) (h : i + s.length ≤ l.length) : (⟨(put l i s).toArray⟩ : ByteArray).extract (i + s.length) l.length = (⟨l.toArray⟩ : ByteArray).extract (i + s.length) l.length := by
  apply ext_lists
  rw [List.take_of_length_le (by rw [put_len _ _ _ h]; omega), List.take_of_length_le (by omega)]
  unfold put
  rw [List.drop_left' (by simp; omega)]
theorem ld_put (l : List UInt8) (i : Nat) (s : List UInt8) (h : i + s.length ≤ l.length) : ldb (put l i s) i s.length = s := by
  unfold ldb
  rw [put_len _ _ _ h, if_pos (lb_true.2 ⟨by omega, by omega, by omega, by omega⟩), Int.toNat_natCast, Int.toNat_natCast]
  unfold put
  rw [List.append_assoc, List.drop_left' (by simp; omega), List.take_left' rfl]
theorem stb_len (l : List UInt8) (at_ : Int) (s : ByteArray) : (stb l at_ s).length = l.length := by
  unfold stb
  split
  · rename_i h
    obtain ⟨h1, h2, h3, h4⟩ := lb_true.1 h
    have h5 : (s.data.toList.length : Int) = s.size := by rw [Array.length_toList]; rfl
    exact put_len _ _ _ (by omega)
  · rfl
theorem stc_ldc (l : List UInt8) (at_ : Int) (s : ByteArray) : ldc (stb l at_ s) at_ s.size = stc l at_ s := by
  unfold ldc stc
  rw [stb_len]
/-- What a store and a load behind it find. -/
theorem two (L : List UInt8) (at_ : Int) (s N D T : ByteArray) (q : Int) (hN : N = ⟨(stb L at_ s).toArray⟩) (hD : D = ⟨(ldb (stb L at_ s) at_ s.size).toArray⟩) (hT : T = ⟨L.toArray⟩) (hq : q = stc L at_ s) :
    (N.size = L.length ∧ T.size = L.length) ∧ ((q = 21 ∧ D = ⟨#[]⟩ ∧ N = T) ∨ (∃ i : Nat, at_ = (i : Int) ∧ q = 0 ∧ D = s ∧ i + s.size ≤ L.length ∧ N.extract 0 i = T.extract 0 i ∧ N.extract (i + s.size) L.length = T.extract (i + s.size) L.length)) := by
  refine ⟨⟨by rw [hN]; exact stb_len _ _ _, by rw [hT]; rfl⟩, ?_⟩
  have sl : s.data.toList.length = s.size := Array.length_toList
  cases hl : lb L.length at_ s.size with
  | false =>
    refine .inl ⟨by rw [hq]; unfold stc; rw [hl]; rfl, ?_, ?_⟩
    · rw [hD]; unfold ldb; rw [stb_len, hl]; rfl
    · rw [hN, hT]; unfold stb; rw [hl]; rfl
  | true =>
    obtain ⟨h1, h2, h3, h4⟩ := lb_true.1 hl
    obtain ⟨i, rfl⟩ : ∃ i : Nat, at_ = (i : Int) := ⟨at_.toNat, by omega⟩
    have e : stb L i s = put L i s.data.toList := by unfold stb; rw [hl]; rfl
    refine .inr ⟨i, rfl, by rw [hq]; unfold stc; rw [hl]; rfl, ?_, by omega, ?_, ?_⟩
    · rw [hD, e, ← sl, ld_put _ _ _ (by omega)]
    · rw [hN, hT, e]
      exact put_pre _ _ _ (by omega)
    · rw [hN, hT, e, ← sl]
      exact put_post _ _ _ (by omega)
set_option maxRecDepth 20000 in
set_option maxHeartbeats 4000000 in
theorem apart (z : Int) (A : Option Addr) (c : Nat) (l : List (Bool × Int × Int × ByteArray)) (xb : Bool) (at_ xn : Int) (s : ByteArray) (w : World) (hC : Kd.C ks w A l.length l) (hl : (l.length : Int) < 140737488351233) (hs : ∀ x ∈ l, x.2.2.2.size ≤ 140737488351232) (ha : at_ < 9223372036854775808) :
    Calls Try.prog 6 #[.int .i64 z, .slice A l.length c, .agg #[.bool xb, .int .i64 at_, .int .i64 xn, .string s]] w fun e w' => e = .returned (.bool true) ∧ Below w.heap.size w w' := by
  have HA := Lib.hid ha
  clear ha
  obtain ⟨W0, hW0⟩ : ∃ W0, W0 = w.alloc (.cells #[.bool xb, .int .i64 at_, .int .i64 xn, .string s] 47) := ⟨_, rfl⟩
  have b0 : Below w.heap.size w W0 := by rw [hW0]; exact (Below.refl _ _).alloc (Nat.le_refl _) _
  have s0 : w.heap.size < W0.heap.size := by rw [hW0]; simp
  have e1 : W0.cell? ⟨w.heap.size, 1, none⟩ = some (.int .i64 at_) := by rw [hW0]; simp
  have e3 : W0.cell? ⟨w.heap.size, 3, none⟩ = some (.string s) := by rw [hW0]; simp
  have hC0 := Kd.C_below hC b0
  have hM := much A c l W0 hC0 hl hs
  have HL := Lib.hid hl
  clear hl hs
  go_enter Try.func6, Try.ntmps6
  go_wp2_with fail
  rw [← hW0]
  clear hW0
  refine hM.mono ?_
  rintro e w' ⟨⟨r, rfl, hr⟩, rfl⟩
  clear hM
  cases r with
  | true =>
    go_wp2_with fail
    refine (awake _).mono ?_
    rintro e w' ⟨rfl, hb⟩
    go_wp2
    go_ret
    exact ⟨rfl, bstep b0 hb⟩
  | false =>
    have hl := hr rfl
    clear hr
    by_cases h5 : 5000 < s.size
    · have h6 : decide ((5000 : Int) < (s.size : Int)) = true := decide_eq_true (by omega)
      clear h5
      go_wp2_with fail
      refine (awake _).mono ?_
      rintro e w' ⟨rfl, hb⟩
      go_wp2
      go_ret
      exact ⟨rfl, bstep b0 hb⟩
    · have h6 : decide ((5000 : Int) < (s.size : Int)) = false := decide_eq_false (by omega)
      have H5 : Hid (s.size ≤ 5000) := Lib.hid (by omega)
      clear h5
      go_wp2_with fail
      refine (new z W0).mono ?_
      rintro e w1 ⟨rfl, m1, b1, s1⟩
      obtain ⟨F, m1, hF⟩ : ∃ F : Nat → Prop, MR w1 F (W0.heap.size + 1) (zeros (msz z)) ∧ ∀ k, F k → w.heap.size ≤ k ∧ k ≠ w.heap.size := ⟨_, m1, fun k hk => by
        have hk : k = W0.heap.size ∨ k = W0.heap.size + 1 := hk
        omega⟩
      have bb := bstep b0 b1
      have e1 := cbel b1 e1 s0
      have e3 := cbel b1 e3 s0
      have hsz : w.heap.size < w1.heap.size := by omega
      generalize W0.heap.size + 1 = pb at *
      clear s1 b1 b0 s0 hC0
      go_wp2
      go_loopw [8] (fun i wr => ∃ (k : Nat) (L : List UInt8), k ≤ l.length ∧ i = .int .i64 (k : Int) ∧ MR wr F pb L ∧ L.length = msz z ∧ Below w.heap.size w wr ∧ w.heap.size < wr.heap.size ∧ wr.cell? ⟨w.heap.size, 1, none⟩ = some (.int .i64 at_) ∧ wr.cell? ⟨w.heap.size, 3, none⟩ = some (.string s)) (fun i _ => (l.length - (intOf i).toNat))
      case atStart => exact ⟨0, zeros (msz z), by omega, rfl, m1, zeros_len _, bb, hsz, e1, e3⟩
      case round =>
        clear m1 bb e1 e3 hsz
        obtain ⟨k, L, hk, rfl, m1, hL, bb, hsz, e1, e3⟩ := hrel
        have k0 : (0 : Int) ≤ (k : Int) := by omega
        have hLm : L.length ≤ 281474976710656 := by have := msz_le z; omega
        have HLm := Lib.hid hLm
        clear hLm
        by_cases hlt : k < l.length
        · have k2 : (k : Int) < (l.length : Int) := by omega
          obtain ⟨ad, rfl, c0, c1, c2, c3⟩ := step_cells (Kd.C_below hC bb) k hlt
          generalize l[k] = x at *
          obtain ⟨x1, x2, x3, xs⟩ := x
          dsimp only at c0 c1 c2 c3
          go_wp2_with fail
          refine Reg.wp_plan (S := fun w' => w'.cell? ⟨(ad.add (k * 4)).block, (ad.add (k * 4)).off + 1, none⟩ = some (.int .i64 x2) ∧ w'.cell? ⟨(ad.add (k * 4)).block, (ad.add (k * 4)).off + 3, none⟩ = some (.string xs)) 11 (.fl 0 (.fl 1 (.fl 2 (.fl 3 (.fl 4 (.fl 5 (.fl 6 (.fl 7 (.fl 8 (.fl 9 (.fl 10 (.one 11 .done)))))))))))) (by kernel_rfl) (by kernel_rfl) (by kernel_rfl) (by kernel_rfl) (fun _ _ _ d _ h => by cases d <;> exact h) ?_ (fun hHeld => ?_)
          · exact ⟨by simpa using c1, by simpa using c3⟩
          refine Reg.G_on (o := { dst := some 32, op := Op.move (Operand.tmp 7), type := 49, pos := "law.go:73", after := #[], guard := Option.none }) (v := ?_) (by rfl) ?_ (fun wS hSw => ?_) ?_
          rotate_left
          · kernel_rfl
          · (try dsimp only at hSw); go_simp; (try with_reducible rfl)
          try simp only [Act.put, List.setIfInBounds_toArray, List.set_cons_zero, List.set_cons_succ]
          refine Reg.G_on (o := { dst := some 33, op := Op.move (Operand.tmp 1), type := 45, pos := "law.go:73", after := #[], guard := Option.none }) (v := ?_) (by rfl) ?_ (fun wS hSw => ?_) ?_
          rotate_left
          · kernel_rfl
          · (try dsimp only at hSw); go_simp; (try with_reducible rfl)
          try simp only [Act.put, List.setIfInBounds_toArray, List.set_cons_zero, List.set_cons_succ]
          refine Reg.G_on (o := { dst := some 34, op := Op.move (Operand.tmp 8), type := 3, pos := "law.go:73", after := #[], guard := Option.none }) (v := ?_) (by rfl) ?_ (fun wS hSw => ?_) ?_
          rotate_left
          · kernel_rfl
          · (try dsimp only at hSw); go_simp; (try with_reducible rfl)
          try simp only [Act.put, List.setIfInBounds_toArray, List.set_cons_zero, List.set_cons_succ]
          refine Reg.G_on (o := { dst := some 35, op := Op.indexAddr 45 (Operand.tmp 33) (Operand.tmp 34), type := 0, pos := "law.go:73", after := #[{ on := 1, ground := Ground.data }, { on := 2, ground := Ground.data }], guard := Option.none }) (v := ?_) (by rfl) ?_ (fun wS hSw => ?_) ?_
          rotate_left
          · kernel_rfl
          · (try dsimp only at hSw); go_simp; (try with_reducible rfl)
          try simp only [Act.put, List.setIfInBounds_toArray, List.set_cons_zero, List.set_cons_succ]
          refine Reg.G_on (o := { dst := some 36, op := Op.fieldAddr 47 (Operand.tmp 35) 1, type := 0, pos := "law.go:73", after := #[{ on := 3, ground := Ground.data }], guard := Option.none }) (v := ?_) (by rfl) ?_ (fun wS hSw => ?_) ?_
          rotate_left
          · kernel_rfl
          · (try dsimp only at hSw); go_simp; (try with_reducible rfl)
          try simp only [Act.put, List.setIfInBounds_toArray, List.set_cons_zero, List.set_cons_succ]
          refine Reg.G_on (o := { dst := some 37, op := Op.load 3 (Operand.tmp 36), type := 3, pos := "law.go:73", after := #[{ on := 4, ground := Ground.data }], guard := Option.none }) (v := ?_) (by rfl) ?_ (fun wS hSw => ?_) ?_
          rotate_left
          · kernel_rfl
          · (try dsimp only at hSw); go_simp; (try with_reducible rfl)
          try simp only [Act.put, List.setIfInBounds_toArray, List.set_cons_zero, List.set_cons_succ]
          refine Reg.G_on (o := { dst := some 38, op := Op.move (Operand.tmp 1), type := 45, pos := "law.go:73", after := #[], guard := Option.none }) (v := ?_) (by rfl) ?_ (fun wS hSw => ?_) ?_
          rotate_left
          · kernel_rfl
          · (try dsimp only at hSw); go_simp; (try with_reducible rfl)
          try simp only [Act.put, List.setIfInBounds_toArray, List.set_cons_zero, List.set_cons_succ]
          refine Reg.G_on (o := { dst := some 39, op := Op.move (Operand.tmp 8), type := 3, pos := "law.go:73", after := #[], guard := Option.none }) (v := ?_) (by rfl) ?_ (fun wS hSw => ?_) ?_
          rotate_left
          · kernel_rfl
          · (try dsimp only at hSw); go_simp; (try with_reducible rfl)
          try simp only [Act.put, List.setIfInBounds_toArray, List.set_cons_zero, List.set_cons_succ]
          refine Reg.G_on (o := { dst := some 40, op := Op.indexAddr 45 (Operand.tmp 38) (Operand.tmp 39), type := 0, pos := "law.go:73", after := #[{ on := 6, ground := Ground.data }, { on := 7, ground := Ground.data }], guard := Option.none }) (v := ?_) (by rfl) ?_ (fun wS hSw => ?_) ?_
          rotate_left
          · kernel_rfl
          · (try dsimp only at hSw); go_simp; (try with_reducible rfl)
          try simp only [Act.put, List.setIfInBounds_toArray, List.set_cons_zero, List.set_cons_succ]
          refine Reg.G_on (o := { dst := some 41, op := Op.fieldAddr 47 (Operand.tmp 40) 3, type := 0, pos := "law.go:73", after := #[{ on := 8, ground := Ground.data }], guard := Option.none }) (v := ?_) (by rfl) ?_ (fun wS hSw => ?_) ?_
          rotate_left
          · kernel_rfl
          · (try dsimp only at hSw); go_simp; (try with_reducible rfl)
          try simp only [Act.put, List.setIfInBounds_toArray, List.set_cons_zero, List.set_cons_succ]
          refine Reg.G_on (o := { dst := some 42, op := Op.load 9 (Operand.tmp 41), type := 9, pos := "law.go:73", after := #[{ on := 9, ground := Ground.data }], guard := Option.none }) (v := ?_) (by rfl) ?_ (fun wS hSw => ?_) ?_
          rotate_left
          · kernel_rfl
          · (try dsimp only at hSw); go_simp; (try with_reducible rfl)
          try simp only [Act.put, List.setIfInBounds_toArray, List.set_cons_zero, List.set_cons_succ]
          refine Reg.G_last (o := { dst := some 43, op := Op.call { callee := Callee.value (Operand.func 25), args := #[Operand.tmp 32, Operand.tmp 37, Operand.tmp 42], argTypes := #[49, 3, 9] }, type := 30, pos := "law.go:73", after := #[{ on := 0, ground := Ground.data }, { on := 5, ground := Ground.data }, { on := 10, ground := Ground.data }], guard := Option.none }) (by rfl) (by rfl) ?_ (fun K hK => ?_)
          · kernel_rfl
          go_simp
          refine (store F pb L x2 xs wr.drew m1 HLm.out).mono ?_
          rintro e w' ⟨rfl, m2, mm⟩
          refine hK.out _ _ ?_
          clear hK K
          try simp only [Act.put, List.setIfInBounds_toArray, List.set_cons_zero, List.set_cons_succ]
          have sz2 : wr.heap.size ≤ w'.heap.size := mm.size
          have bb2 := mm.below bb.drew (Nat.le_of_lt hsz) (fun k hk => (hF k hk).1)
          have e1 := mm.cell (a := ⟨w.heap.size, 1, none⟩) (by simpa using e1) (fun h => (hF _ h).2 rfl)
          have e3 := mm.cell (a := ⟨w.heap.size, 3, none⟩) (by simpa using e3) (fun h => (hF _ h).2 rfl)
          go_wp2
          go_roundw
          case rel => exact ⟨k + 1, _, by omega, by go_num, m2, (stb_len _ _ _).trans hL, bb2, Nat.lt_of_lt_of_le hsz sz2, e1, e3⟩
          case measure => simp [intOf]; omega
        · have hk2 : ¬ ((k : Int) < (l.length : Int)) := by omega
          obtain ⟨N, hN⟩ : ∃ N : ByteArray, N = ⟨(stb L at_ s).toArray⟩ := ⟨_, rfl⟩
          obtain ⟨D, hD⟩ : ∃ D : ByteArray, D = ⟨(ldb (stb L at_ s) at_ s.size).toArray⟩ := ⟨_, rfl⟩
          obtain ⟨T, hT⟩ : ∃ T : ByteArray, T = ⟨L.toArray⟩ := ⟨_, rfl⟩
          obtain ⟨q, hq⟩ : ∃ q : Int, q = stc L at_ s := ⟨_, rfl⟩
          have HX := Lib.hid (two L at_ s N D T q hN hD hT hq)
          have HN := Lib.hid hN
          have HD := Lib.hid hD
          have HT := Lib.hid hT
          have HQ := Lib.hid hq
          clear hN hD hT hq
          have hLs : (stb L at_ s).length = L.length := stb_len _ _ _
          have hc := text F pb L wr m1 HLm.out
          rw [← HT.out] at hc
          go_wp2_with fail
          refine hc.mono ?_
          rintro e w2 ⟨rfl, b2⟩
          have m2 := m1.below b2
          have e1 := cbel b2 e1 hsz
          have e3 := cbel b2 e3 hsz
          have bb := bstep bb b2
          have hsz := Nat.lt_of_lt_of_le hsz b2.size
          clear m1 b2 hc
          have hc := store F pb L at_ s w2 m2 HLm.out
          rw [← HQ.out] at hc
          go_wp2_with fail
          refine hc.mono ?_
          rintro e w3 ⟨rfl, m3, mm⟩
          have e1 := mm.cell e1 (fun h => (hF _ h).2 rfl)
          have e3 := mm.cell e3 (fun h => (hF _ h).2 rfl)
          have bb := mm.below bb (Nat.le_of_lt hsz) (fun k hk => (hF k hk).1)
          have hsz := Nat.lt_of_lt_of_le hsz mm.size
          clear m2 mm hc
          have hc := load F pb (stb L at_ s) at_ s.size w3 m3 (by rw [hLs]; exact HLm.out)
          rw [stc_ldc, ← HD.out, ← HQ.out] at hc
          go_wp2_with fail
          refine hc.mono ?_
          rintro e w4 ⟨rfl, b4⟩
          have m4 := m3.below b4
          have e1 := cbel b4 e1 hsz
          have e3 := cbel b4 e3 hsz
          have bb := bstep bb b4
          have hsz := Nat.lt_of_lt_of_le hsz b4.size
          clear m3 b4 hc
          have hc := text F pb (stb L at_ s) w4 m4 (by rw [hLs]; exact HLm.out)
          rw [← HN.out] at hc
          go_wp2_with fail
          refine hc.mono ?_
          rintro e w5 ⟨rfl, b5⟩
          have m5 := m4.below b5
          have e1 := cbel b5 e1 hsz
          have e3 := cbel b5 e3 hsz
          have bb := bstep bb b5
          have hsz := Nat.lt_of_lt_of_le hsz b5.size
          clear m4 b5 hc
          have hc := size_ F pb (stb L at_ s) w5 m5
          rw [hLs] at hc
          have hz := msz_le z
          rw [← hL] at hz
          obtain ⟨⟨n1, n2⟩, h⟩ := HX.out
          clear HN HD HT HQ HX hLs m5 hL HLm
          generalize L.length = m at *
          rcases h with ⟨rfl, rfl, rfl⟩ | ⟨i, rfl, rfl, hDs, hi, hA, hB⟩
          · clear hz h6 hk2 hk n1 hl hlt k0
            go_wp2_with fail
            refine hc.mono ?_
            rintro e w6 ⟨rfl, rfl⟩
            go_wp2_with fail
            refine (awake _).mono ?_
            rintro e w' ⟨rfl, hb⟩
            go_wp2
            go_ret
            exact ⟨rfl, bstep bb hb⟩
          · obtain rfl : s = D := hDs.symm
            have h5 := H5.out
            obtain ⟨E, hE⟩ : ∃ E : Nat, E = i + s.size := ⟨_, rfl⟩
            rw [← hE] at hi hB
            have hw : IntKind.i64.wrap ((i : Int) + (s.size : Int)) = (E : Int) := by rw [wrapi64 (by omega) (by omega)]; omega
            have d1 : decide ((i : Int) < 0) = false := decide_eq_false (by omega)
            have d2 : decide ((E : Int) < (i : Int)) = false := decide_eq_false (by omega)
            have d3 : decide ((m : Int) < (E : Int)) = false := decide_eq_false (by omega)
            have hiE : i ≤ E := by omega
            have him : i ≤ m := by omega
            clear hz h6 hk2 hk hl hlt k0 hE h5 H5 HA HL
            go_wp2_with fail
            refine hc.mono ?_
            rintro e w6 ⟨rfl, rfl⟩
            clear hc hC hF
            go_wp2_with fail
            refine Reg.wp_plan (S := fun w' => w'.cell? ⟨w.heap.size, 1, none⟩ = some (.int .i64 (i : Int)) ∧ w'.cell? ⟨w.heap.size, 3, none⟩ = some (.string s)) 28 (.fl 0 (.fl 1 (.fl 2 (.fl 3 (.fl 4 (.fl 5 (.fl 6 (.fl 7 (.fl 8 (.fl 9 (.fl 10 (.fl 11 (.fl 12 (.fl 13 (.fl 14 (.fl 15 (.fl 16 (.fl 17 (.fl 18 (.fl 19 (.fl 20 (.fl 21 (.fl 22 (.fl 23 (.fl 24 (.one 25 (.fl 26 (.fl 27 .done)))))))))))))))))))))))))))) (by kernel_rfl) (by kernel_rfl) (by kernel_rfl) (by kernel_rfl) (fun _ _ _ d _ h => by cases d <;> exact h) ?_ (fun hHeld => ?_)
            · exact ⟨by simpa using e1, by simpa using e3⟩
            refine Reg.G_on (o := { dst := some 118, op := Op.move (Operand.tmp 11), type := 9, pos := "law.go:89", after := #[], guard := Option.none }) (v := ?_) (by rfl) ?_ (fun wS hSw => ?_) ?_
            rotate_left
            · kernel_rfl
            · (try dsimp only at hSw); go_simp; (try with_reducible rfl)
            try simp only [Act.put, List.setIfInBounds_toArray, List.set_cons_zero, List.set_cons_succ]
            refine Reg.G_on (o := { dst := some 119, op := Op.fieldAddr 47 (Operand.tmp 5) 3, type := 0, pos := "law.go:89", after := #[], guard := Option.none }) (v := ?_) (by rfl) ?_ (fun wS hSw => ?_) ?_
            rotate_left
            · kernel_rfl
            · (try dsimp only at hSw); go_simp; (try with_reducible rfl)
            try simp only [Act.put, List.setIfInBounds_toArray, List.set_cons_zero, List.set_cons_succ]
            refine Reg.G_on (o := { dst := some 120, op := Op.load 9 (Operand.tmp 119), type := 9, pos := "law.go:89", after := #[{ on := 1, ground := Ground.data }], guard := Option.none }) (v := ?_) (by rfl) ?_ (fun wS hSw => ?_) ?_
            rotate_left
            · kernel_rfl
            · (try dsimp only at hSw); go_simp; (try with_reducible rfl)
            try simp only [Act.put, List.setIfInBounds_toArray, List.set_cons_zero, List.set_cons_succ]
            refine Reg.G_on (o := { dst := some 121, op := Op.binOp BinOp.eql 9 (Operand.tmp 118) (Operand.tmp 120) 9, type := 4, pos := "law.go:89", after := #[{ on := 0, ground := Ground.data }, { on := 2, ground := Ground.data }], guard := Option.none }) (v := ?_) (by rfl) ?_ (fun wS hSw => ?_) ?_
            rotate_left
            · kernel_rfl
            · (try dsimp only at hSw); go_simp; (try with_reducible rfl)
            try simp only [Act.put, List.setIfInBounds_toArray, List.set_cons_zero, List.set_cons_succ]
            refine Reg.G_on (o := { dst := some 122, op := Op.move (Operand.tmp 121), type := 4, pos := "law.go:89", after := #[{ on := 3, ground := Ground.data }], guard := Option.none }) (v := ?_) (by rfl) ?_ (fun wS hSw => ?_) ?_
            rotate_left
            · kernel_rfl
            · (try dsimp only at hSw); go_simp; (try with_reducible rfl)
            try simp only [Act.put, List.setIfInBounds_toArray, List.set_cons_zero, List.set_cons_succ]
            refine Reg.G_on (o := { dst := some 123, op := Op.move (Operand.tmp 13), type := 9, pos := "law.go:89", after := #[{ on := 4, ground := Ground.guard }], guard := some (4, true) }) (v := ?_) (by rfl) ?_ (fun wS hSw => ?_) ?_
            rotate_left
            · kernel_rfl
            · (try dsimp only at hSw); go_simp; (try with_reducible rfl)
            try simp only [Act.put, List.setIfInBounds_toArray, List.set_cons_zero, List.set_cons_succ]
            refine Reg.G_on (o := { dst := some 124, op := Op.fieldAddr 47 (Operand.tmp 5) 1, type := 0, pos := "law.go:89", after := #[{ on := 4, ground := Ground.guard }], guard := some (4, true) }) (v := ?_) (by rfl) ?_ (fun wS hSw => ?_) ?_
            rotate_left
            · kernel_rfl
            · (try dsimp only at hSw); go_simp; (try with_reducible rfl)
            try simp only [Act.put, List.setIfInBounds_toArray, List.set_cons_zero, List.set_cons_succ]
            refine Reg.G_on (o := { dst := some 125, op := Op.load 3 (Operand.tmp 124), type := 3, pos := "law.go:89", after := #[{ on := 6, ground := Ground.data }, { on := 4, ground := Ground.guard }], guard := some (4, true) }) (v := ?_) (by rfl) ?_ (fun wS hSw => ?_) ?_
            rotate_left
            · kernel_rfl
            · (try dsimp only at hSw); go_simp; (try with_reducible rfl)
            try simp only [Act.put, List.setIfInBounds_toArray, List.set_cons_zero, List.set_cons_succ]
            refine Reg.G_on (o := { dst := some 126, op := Op.slice 9 (Operand.tmp 123) Option.none (some (Operand.tmp 125)) Option.none, type := 9, pos := "law.go:89", after := #[{ on := 5, ground := Ground.data }, { on := 7, ground := Ground.data }, { on := 4, ground := Ground.guard }], guard := some (4, true) }) (v := ?_) (by rfl) ?_ (fun wS hSw => ?_) ?_
            rotate_left
            · kernel_rfl
            · (try dsimp only at hSw); go_simp; (try with_reducible rfl)
            try simp only [Act.put, List.setIfInBounds_toArray, List.set_cons_zero, List.set_cons_succ]
            refine Reg.G_on (o := { dst := some 127, op := Op.move (Operand.tmp 9), type := 9, pos := "law.go:89", after := #[{ on := 4, ground := Ground.guard }], guard := some (4, true) }) (v := ?_) (by rfl) ?_ (fun wS hSw => ?_) ?_
            rotate_left
            · kernel_rfl
            · (try dsimp only at hSw); go_simp; (try with_reducible rfl)
            try simp only [Act.put, List.setIfInBounds_toArray, List.set_cons_zero, List.set_cons_succ]
            refine Reg.G_on (o := { dst := some 128, op := Op.fieldAddr 47 (Operand.tmp 5) 1, type := 0, pos := "law.go:89", after := #[{ on := 4, ground := Ground.guard }], guard := some (4, true) }) (v := ?_) (by rfl) ?_ (fun wS hSw => ?_) ?_
            rotate_left
            · kernel_rfl
            · (try dsimp only at hSw); go_simp; (try with_reducible rfl)
            try simp only [Act.put, List.setIfInBounds_toArray, List.set_cons_zero, List.set_cons_succ]
            refine Reg.G_on (o := { dst := some 129, op := Op.load 3 (Operand.tmp 128), type := 3, pos := "law.go:89", after := #[{ on := 10, ground := Ground.data }, { on := 4, ground := Ground.guard }], guard := some (4, true) }) (v := ?_) (by rfl) ?_ (fun wS hSw => ?_) ?_
            rotate_left
            · kernel_rfl
            · (try dsimp only at hSw); go_simp; (try with_reducible rfl)
            try simp only [Act.put, List.setIfInBounds_toArray, List.set_cons_zero, List.set_cons_succ]
            refine Reg.G_on (o := { dst := some 130, op := Op.slice 9 (Operand.tmp 127) Option.none (some (Operand.tmp 129)) Option.none, type := 9, pos := "law.go:89", after := #[{ on := 9, ground := Ground.data }, { on := 11, ground := Ground.data }, { on := 4, ground := Ground.guard }], guard := some (4, true) }) (v := ?_) (by rfl) ?_ (fun wS hSw => ?_) ?_
            rotate_left
            · kernel_rfl
            · (try dsimp only at hSw); go_simp; (try with_reducible rfl)
            try simp only [Act.put, List.setIfInBounds_toArray, List.set_cons_zero, List.set_cons_succ]
            refine Reg.G_on (o := { dst := some 131, op := Op.binOp BinOp.eql 9 (Operand.tmp 126) (Operand.tmp 130) 9, type := 4, pos := "law.go:89", after := #[{ on := 8, ground := Ground.data }, { on := 12, ground := Ground.data }, { on := 4, ground := Ground.guard }], guard := some (4, true) }) (v := ?_) (by rfl) ?_ (fun wS hSw => ?_) ?_
            rotate_left
            · kernel_rfl
            · (try dsimp only at hSw); go_simp; (try with_reducible rfl)
            try simp only [Act.put, List.setIfInBounds_toArray, List.set_cons_zero, List.set_cons_succ]
            refine Reg.G_on (o := { dst := some 132, op := Op.pick (Operand.tmp 122) (Operand.tmp 131) (Operand.const (Value.bool false)), type := 4, pos := "law.go:89", after := #[{ on := 4, ground := Ground.data }, { on := 13, ground := Ground.data }], guard := Option.none }) (v := ?_) (by rfl) ?_ (fun wS hSw => ?_) ?_
            rotate_left
            · kernel_rfl
            · (try dsimp only at hSw); go_simp; (try with_reducible rfl)
            try simp only [Act.put, List.setIfInBounds_toArray, List.set_cons_zero, List.set_cons_succ]
            refine Reg.G_on (o := { dst := some 133, op := Op.move (Operand.tmp 132), type := 4, pos := "law.go:89", after := #[{ on := 14, ground := Ground.data }, { on := 4, ground := Ground.chain }], guard := Option.none }) (v := ?_) (by rfl) ?_ (fun wS hSw => ?_) ?_
            rotate_left
            · kernel_rfl
            · (try dsimp only at hSw); go_simp; (try with_reducible rfl)
            try simp only [Act.put, List.setIfInBounds_toArray, List.set_cons_zero, List.set_cons_succ]
            refine Reg.G_on (o := { dst := some 134, op := Op.move (Operand.tmp 13), type := 9, pos := "law.go:89", after := #[{ on := 15, ground := Ground.guard }], guard := some (15, true) }) (v := ?_) (by rfl) ?_ (fun wS hSw => ?_) ?_
            rotate_left
            · kernel_rfl
            · (try dsimp only at hSw); go_simp; (try with_reducible rfl)
            try simp only [Act.put, List.setIfInBounds_toArray, List.set_cons_zero, List.set_cons_succ]
            refine Reg.G_on (o := { dst := some 135, op := Op.move (Operand.tmp 14), type := 3, pos := "law.go:89", after := #[{ on := 15, ground := Ground.guard }], guard := some (15, true) }) (v := ?_) (by rfl) ?_ (fun wS hSw => ?_) ?_
            rotate_left
            · kernel_rfl
            · (try dsimp only at hSw); go_simp; (try with_reducible rfl)
            try simp only [Act.put, List.setIfInBounds_toArray, List.set_cons_zero, List.set_cons_succ]
            refine Reg.G_on (o := { dst := some 136, op := Op.slice 9 (Operand.tmp 134) (some (Operand.tmp 135)) Option.none Option.none, type := 9, pos := "law.go:89", after := #[{ on := 16, ground := Ground.data }, { on := 17, ground := Ground.data }, { on := 15, ground := Ground.guard }], guard := some (15, true) }) (v := ?_) (by rfl) ?_ (fun wS hSw => ?_) ?_
            rotate_left
            · kernel_rfl
            · (try dsimp only at hSw); go_simp; (try with_reducible rfl)
            try simp only [Act.put, List.setIfInBounds_toArray, List.set_cons_zero, List.set_cons_succ]
            refine Reg.G_on (o := { dst := some 137, op := Op.move (Operand.tmp 9), type := 9, pos := "law.go:89", after := #[{ on := 15, ground := Ground.guard }], guard := some (15, true) }) (v := ?_) (by rfl) ?_ (fun wS hSw => ?_) ?_
            rotate_left
            · kernel_rfl
            · (try dsimp only at hSw); go_simp; (try with_reducible rfl)
            try simp only [Act.put, List.setIfInBounds_toArray, List.set_cons_zero, List.set_cons_succ]
            refine Reg.G_on (o := { dst := some 138, op := Op.move (Operand.tmp 14), type := 3, pos := "law.go:89", after := #[{ on := 15, ground := Ground.guard }], guard := some (15, true) }) (v := ?_) (by rfl) ?_ (fun wS hSw => ?_) ?_
            rotate_left
            · kernel_rfl
            · (try dsimp only at hSw); go_simp; (try with_reducible rfl)
            try simp only [Act.put, List.setIfInBounds_toArray, List.set_cons_zero, List.set_cons_succ]
            refine Reg.G_on (o := { dst := some 139, op := Op.slice 9 (Operand.tmp 137) (some (Operand.tmp 138)) Option.none Option.none, type := 9, pos := "law.go:89", after := #[{ on := 19, ground := Ground.data }, { on := 20, ground := Ground.data }, { on := 15, ground := Ground.guard }], guard := some (15, true) }) (v := ?_) (by rfl) ?_ (fun wS hSw => ?_) ?_
            rotate_left
            · kernel_rfl
            · (try dsimp only at hSw); go_simp; (try with_reducible rfl)
            try simp only [Act.put, List.setIfInBounds_toArray, List.set_cons_zero, List.set_cons_succ]
            refine Reg.G_on (o := { dst := some 140, op := Op.binOp BinOp.eql 9 (Operand.tmp 136) (Operand.tmp 139) 9, type := 4, pos := "law.go:89", after := #[{ on := 18, ground := Ground.data }, { on := 21, ground := Ground.data }, { on := 15, ground := Ground.guard }], guard := some (15, true) }) (v := ?_) (by rfl) ?_ (fun wS hSw => ?_) ?_
            rotate_left
            · kernel_rfl
            · (try dsimp only at hSw); go_simp; (try with_reducible rfl)
            try simp only [Act.put, List.setIfInBounds_toArray, List.set_cons_zero, List.set_cons_succ]
            refine Reg.G_on (o := { dst := some 141, op := Op.pick (Operand.tmp 133) (Operand.tmp 140) (Operand.const (Value.bool false)), type := 4, pos := "law.go:89", after := #[{ on := 15, ground := Ground.data }, { on := 22, ground := Ground.data }], guard := Option.none }) (v := ?_) (by rfl) ?_ (fun wS hSw => ?_) ?_
            rotate_left
            · kernel_rfl
            · (try dsimp only at hSw); go_simp; (try with_reducible rfl)
            try simp only [Act.put, List.setIfInBounds_toArray, List.set_cons_zero, List.set_cons_succ]
            refine Reg.G_on (o := { dst := some 142, op := Op.move (Operand.tmp 141), type := 4, pos := "law.go:89", after := #[{ on := 23, ground := Ground.data }, { on := 15, ground := Ground.chain }], guard := Option.none }) (v := ?_) (by rfl) ?_ (fun wS hSw => ?_) ?_
            rotate_left
            · kernel_rfl
            · (try dsimp only at hSw); go_simp; (try with_reducible rfl)
            try simp only [Act.put, List.setIfInBounds_toArray, List.set_cons_zero, List.set_cons_succ]
            refine Reg.G_step (o := { dst := some 143, op := Op.call { callee := Callee.value (Operand.func 23), args := #[], argTypes := #[] }, type := 4, pos := "law.go:89", after := #[{ on := 24, ground := Ground.chain }, { on := 24, ground := Ground.guard }], guard := some (24, true) }) (by rfl) ?_ (fun K hK => ?_)
            · kernel_rfl
            go_simp
            refine (awake _).mono ?_
            rintro e w' ⟨rfl, hb⟩
            refine hK.out _ _ ?_ (fun hHeld => ?_)
            · exact ⟨cbel hb hHeld.1 hsz, cbel hb hHeld.2 hsz⟩
            clear hK K
            try simp only [Act.put, List.setIfInBounds_toArray, List.set_cons_zero, List.set_cons_succ]
            refine Reg.G_on (o := { dst := some 144, op := Op.pick (Operand.tmp 142) (Operand.tmp 143) (Operand.const (Value.bool false)), type := 4, pos := "law.go:89", after := #[{ on := 24, ground := Ground.data }, { on := 25, ground := Ground.data }], guard := Option.none }) (v := ?_) (by rfl) ?_ (fun wS hSw => ?_) ?_
            rotate_left
            · kernel_rfl
            · (try dsimp only at hSw); go_simp; (try with_reducible rfl)
            try simp only [Act.put, List.setIfInBounds_toArray, List.set_cons_zero, List.set_cons_succ]
            refine Reg.G_on (o := { dst := some 6, op := Op.assign (Operand.tmp 144), type := 4, pos := "law.go:89", after := #[{ on := 26, ground := Ground.data }, { on := 25, ground := Ground.chain }, { on := 0, ground := Ground.phase }, { on := 1, ground := Ground.phase }, { on := 2, ground := Ground.phase }, { on := 3, ground := Ground.phase }, { on := 4, ground := Ground.phase }, { on := 5, ground := Ground.phase }, { on := 6, ground := Ground.phase }, { on := 7, ground := Ground.phase }, { on := 8, ground := Ground.phase }, { on := 9, ground := Ground.phase }, { on := 10, ground := Ground.phase }, { on := 11, ground := Ground.phase }, { on := 12, ground := Ground.phase }, { on := 13, ground := Ground.phase }, { on := 14, ground := Ground.phase }, { on := 15, ground := Ground.phase }, { on := 16, ground := Ground.phase }, { on := 17, ground := Ground.phase }, { on := 18, ground := Ground.phase }, { on := 19, ground := Ground.phase }, { on := 20, ground := Ground.phase }, { on := 21, ground := Ground.phase }, { on := 22, ground := Ground.phase }, { on := 23, ground := Ground.phase }, { on := 24, ground := Ground.phase }, { on := 25, ground := Ground.phase }, { on := 26, ground := Ground.phase }], guard := Option.none }) (v := ?_) (by rfl) ?_ (fun wS hSw => ?_) ?_
            rotate_left
            · kernel_rfl
            · (try dsimp only at hSw); go_simp; (try with_reducible rfl)
            try simp only [Act.put, List.setIfInBounds_toArray, List.set_cons_zero, List.set_cons_succ]
            refine Reg.G_done ?_
            go_wp2
            go_ret
            exact ⟨rfl, bstep bb.drew hb⟩
end Go.Proofs.Ytkijeknopnjamaa.Memory
