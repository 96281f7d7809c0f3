import Derived.Test.YtimalojaiaofkaaSched3
import Derived.Test.YtimalojaiaofkaaRegion
set_option linter.unusedVariables false
set_option linter.unusedSimpArgs false
namespace Go.Proofs.Ytimalojaiaofkaa.SchedP
open Go.RowKit Base Sp Flat Go.Proofs.YtimalojaiaofkaaW.PrintWords Go.Proofs.YtimalojaiaofkaaW.PrintLast Go.Proofs.Ytimalojaiaofkaa.PSchedChecks
theorem tm (n L : Nat) : Int.tmod (n : Int) (L : Int) = ((n % L : Nat) : Int) := by
  rw [Int.tmod_eq_emod_of_nonneg (by omega)]; rfl
theorem td (n L : Nat) (h : n < 9223372036854775808) : wrap64 (Int.tdiv (n : Int) (L : Int)) = ((n / L : Nat) : Int) := by
  rw [Int.tdiv_eq_ediv_of_nonneg (by omega)]
  have h1 : ((n : Int) / (L : Int)) = ((n / L : Nat) : Int) := rfl
  have h2 := Nat.div_le_self n L
  rw [h1]
  generalize n / L = q at *
  unfold wrap64
  omega
theorem where_ (A : Option Addr) (cap L n fr x : Nat) (hl : L ≠ 0) (e1 : Int.tmod (n : Int) (L : Int) = (x : Int)) (e2 : IntKind.i64.wrap ((n : Int) / (L : Int)) = (fr : Int)) (w : World) :
    Calls Try.prog 18 #[.slice A L cap, .int .i64 (n : Int)] w fun e w' => e = .returned (.tuple #[.int .i64 (fr : Int), .int .i64 (x : Int)]) ∧ Below w.heap.size w w' := by
  have h1 : ¬ (n : Int) < 0 := by omega
  have h2 : ((L : Int) == 0) = false := beq_eq_false_iff_ne.2 (by omega)
  have h3 : ¬ (L : Int) = 0 := by omega
  go_enter Try.func18, Try.ntmps18
  go_wp2
  refine Reg.wp_plan (S := fun _ => True) 10 (.fl 0 (.fl 1 (.fl 2 (.fl 3 (.fl 4 (.fl 5 (.fl 6 (.fl 7 (.fl 8 (.fl 9 .done)))))))))) (by kernel_rfl) (by kernel_rfl) (by kernel_rfl) (by kernel_rfl) (fun _ _ _ d _ h => by cases d <;> exact h) ?_ (fun hHeld => ?_)
  · trivial
  refine Reg.G_on (o := { dst := some 13, op := Op.move (Operand.tmp 1), type := 3, pos := "sched.go:77", after := #[], guard := Option.none }) (v := ?_) (by rfl) ?_ (fun wS hSw => ?_) ?_
  rotate_left
  · kernel_rfl
  · (try dsimp only at hSw); go_simp; (try with_reducible rfl)
  try simp only [Act.put, List.setIfInBounds_toArray, List.set_cons_zero, List.set_cons_succ]
  refine Reg.G_on (o := { dst := some 14, op := Op.move (Operand.tmp 0), type := 22, pos := "sched.go:77", after := #[], guard := Option.none }) (v := ?_) (by rfl) ?_ (fun wS hSw => ?_) ?_
  rotate_left
  · kernel_rfl
  · (try dsimp only at hSw); go_simp; (try with_reducible rfl)
  try simp only [Act.put, List.setIfInBounds_toArray, List.set_cons_zero, List.set_cons_succ]
  refine Reg.G_on (o := { dst := some 15, op := Op.call { callee := Callee.builtin Builtin.len, args := #[Operand.tmp 14], argTypes := #[22] }, type := 3, pos := "sched.go:77", after := #[{ on := 1, ground := Ground.data }], guard := Option.none }) (v := ?_) (by rfl) ?_ (fun wS hSw => ?_) ?_
  rotate_left
  · kernel_rfl
  · (try dsimp only at hSw); go_simp; (try with_reducible rfl)
  try simp only [Act.put, List.setIfInBounds_toArray, List.set_cons_zero, List.set_cons_succ]
  refine Reg.G_on (o := { dst := some 16, op := Op.binOp BinOp.quo 3 (Operand.tmp 13) (Operand.tmp 15) 3, type := 3, pos := "sched.go:77", after := #[{ on := 0, ground := Ground.data }, { on := 2, ground := Ground.data }], guard := Option.none }) (v := ?_) (by rfl) ?_ (fun wS hSw => ?_) ?_
  rotate_left
  · kernel_rfl
  · (try dsimp only at hSw); go_simp; (try with_reducible rfl)
  try simp only [Act.put, List.setIfInBounds_toArray, List.set_cons_zero, List.set_cons_succ]
  refine Reg.G_on (o := { dst := some 17, op := Op.move (Operand.tmp 1), type := 3, pos := "sched.go:77", after := #[{ on := 8, ground := Ground.gcOnly Departure.lateStores }], guard := Option.none }) (v := ?_) (by rfl) ?_ (fun wS hSw => ?_) ?_
  rotate_left
  · kernel_rfl
  · (try dsimp only at hSw); go_simp; (try with_reducible rfl)
  try simp only [Act.put, List.setIfInBounds_toArray, List.set_cons_zero, List.set_cons_succ]
  refine Reg.G_on (o := { dst := some 18, op := Op.move (Operand.tmp 0), type := 22, pos := "sched.go:77", after := #[], guard := Option.none }) (v := ?_) (by rfl) ?_ (fun wS hSw => ?_) ?_
  rotate_left
  · kernel_rfl
  · (try dsimp only at hSw); go_simp; (try with_reducible rfl)
  try simp only [Act.put, List.setIfInBounds_toArray, List.set_cons_zero, List.set_cons_succ]
  refine Reg.G_on (o := { dst := some 19, op := Op.call { callee := Callee.builtin Builtin.len, args := #[Operand.tmp 18], argTypes := #[22] }, type := 3, pos := "sched.go:77", after := #[{ on := 5, ground := Ground.data }], guard := Option.none }) (v := ?_) (by rfl) ?_ (fun wS hSw => ?_) ?_
  rotate_left
  · kernel_rfl
  · (try dsimp only at hSw); go_simp; (try with_reducible rfl)
  try simp only [Act.put, List.setIfInBounds_toArray, List.set_cons_zero, List.set_cons_succ]
  refine Reg.G_on (o := { dst := some 20, op := Op.binOp BinOp.rem 3 (Operand.tmp 17) (Operand.tmp 19) 3, type := 3, pos := "sched.go:77", after := #[{ on := 4, ground := Ground.data }, { on := 6, ground := Ground.data }, { on := 8, ground := Ground.gcOnly Departure.lateStores }], guard := Option.none }) (v := ?_) (by rfl) ?_ (fun wS hSw => ?_) ?_
  rotate_left
  · kernel_rfl
  · (try dsimp only at hSw); go_simp; (try with_reducible rfl)
  try simp only [Act.put, List.setIfInBounds_toArray, List.set_cons_zero, List.set_cons_succ]
  refine Reg.G_on (o := { dst := some 4, op := Op.assign (Operand.tmp 16), type := 3, pos := "sched.go:77", after := #[{ on := 3, ground := Ground.data }, { on := 0, ground := Ground.phase }, { on := 1, ground := Ground.phase }, { on := 2, ground := Ground.phase }, { on := 3, ground := Ground.phase }, { on := 4, ground := Ground.textOnly Departure.lateStores }, { on := 5, ground := Ground.textOnly Departure.lateStores }, { on := 6, ground := Ground.textOnly Departure.lateStoresUnsure }, { on := 7, ground := Ground.textOnly Departure.lateStores }], guard := Option.none }) (v := ?_) (by rfl) ?_ (fun wS hSw => ?_) ?_
  rotate_left
  · kernel_rfl
  · (try dsimp only at hSw); go_simp; (try with_reducible rfl)
  try simp only [Act.put, List.setIfInBounds_toArray, List.set_cons_zero, List.set_cons_succ]
  refine Reg.G_on (o := { dst := some 5, op := Op.assign (Operand.tmp 20), type := 3, pos := "sched.go:77", after := #[{ on := 7, ground := Ground.data }, { on := 8, ground := Ground.chain }, { on := 0, ground := Ground.phase }, { on := 1, ground := Ground.phase }, { on := 2, ground := Ground.phase }, { on := 3, ground := Ground.phase }, { on := 4, ground := Ground.phase }, { on := 5, ground := Ground.phase }, { on := 6, ground := Ground.phase }, { on := 7, ground := Ground.phase }, { on := 8, ground := Ground.phase }], guard := Option.none }) (v := ?_) (by rfl) ?_ (fun wS hSw => ?_) ?_
  rotate_left
  · kernel_rfl
  · (try dsimp only at hSw); go_simp; (try with_reducible rfl)
  try simp only [Act.put, List.setIfInBounds_toArray, List.set_cons_zero, List.set_cons_succ]
  refine Reg.G_done ?_
  go_wp2
  go_ret2
  exact ⟨rfl, (Below.refl _ _).drew⟩
theorem whr (A : Option Addr) (cap L n : Nat) (hl : L ≠ 0) (hn : n < 9223372036854775808) (w : World) :
    Calls Try.prog 18 #[.slice A L cap, .int .i64 (n : Int)] w fun e w' => ∃ fr x : Nat, e = .returned (.tuple #[.int .i64 (fr : Int), .int .i64 (x : Int)]) ∧ fr = n / L ∧ x = n % L ∧ Below w.heap.size w w' := by
  have h2 := Nat.div_le_self n L
  refine (where_ A cap L n (n / L) (n % L) hl (tm n L) ?_ w).mono fun e w' h => ⟨_, _, h.1, rfl, rfl, h.2⟩
  have h1 : ((n : Int) / (L : Int)) = ((n / L : Nat) : Int) := rfl
  rw [h1]
  generalize n / L = q at *
  exact wrapi64 (by omega) (by omega)
theorem pgetD (l : List S) (k : Nat) (h : k < l.length) : (pts (pr l)).getD k 0 = l[k].f0 := by
  rw [List.getD_eq_getElem?_getD]
  unfold pts pr
  rw [List.getElem?_map, List.getElem?_map, List.getElem?_eq_getElem h]
  rfl
theorem chk_len {parts : Int} {l : List (Int × Int)} (h : chk parts l = (0, 0)) : l.length ≠ 0 ∧ l.length ≤ 32 := by
  unfold chk at h
  by_cases h0 : l.length = 0
  · rw [if_pos h0] at h; cases h
  · rw [if_neg h0] at h
    by_cases h1 : 32 < l.length
    · rw [if_pos h1] at h; cases h
    · exact ⟨h0, by omega⟩
theorem chk_ok {parts : Int} {l : List (Int × Int)} (h : (chk parts l).1 = 0) : chk parts l = (0, 0) := by
  unfold chk at h ⊢
  by_cases h0 : l.length = 0
  · rw [if_pos h0] at h; cases h
  · rw [if_neg h0] at h ⊢
    by_cases h1 : 32 < l.length
    · rw [if_pos h1] at h; cases h
    · rw [if_neg h1] at h ⊢
      by_cases h2 : (bad parts l 0 false).1 ≠ 0
      · rw [if_pos h2] at h; exact absurd h h2
      · rw [if_neg h2] at h ⊢
        by_cases h3 : -1 ∈ pts l ∧ parts ≤ dn (pts l) 32
        · rw [if_pos h3]
        · rw [if_neg h3] at h; cases h
theorem w1a {t T m L : Nat} (h1 : t ≤ T) (h2 : T ≤ m + L) (h3 : L ≤ 32) (h4 : m ≤ 1048576) : wrap64 ((t : Int) + 1) = (t : Int) + 1 := by unfold wrap64; omega
theorem w1b {t T b m L : Nat} (h1 : t ≤ T) (h2 : T ≤ b + L) (h2' : b ≤ m + L) (h3 : L ≤ 32) (h4 : m ≤ 1048576) : wrap64 ((t : Int) + 1) = (t : Int) + 1 := by unfold wrap64; omega
theorem w1c {t T b m L : Nat} (h1 : t ≤ T) (h2 : T ≤ b + L) (h2' : b ≤ m + L) (h3 : L ≤ 32) (h4 : m ≤ 1048576) : t < 9223372036854775808 := by omega
theorem fin_ {f fr g : Nat} {d : Int} {P1 P2 : Prop} [Decidable P1] [Decidable P2] (h1 : f ≤ g + (if P2 then 1 else 0)) (h2 : g ≤ fr + (if P1 then 1 else 0)) (h3 : (if P1 then (1 : Int) else 0) + (if P2 then 1 else 0) ≤ d) : (f : Int) ≤ fr + d := by
  by_cases p : P1 <;> by_cases q : P2 <;> simp only [p, q, if_true, if_false] at h1 h2 h3 <;> omega
theorem w2q {fr m L : Nat} {d : Int} (h1 : fr = m / L) (h2 : m ≤ 1048576) (h3 : 0 ≤ d ∧ d ≤ 2) : wrap64 ((fr : Int) + d) = (fr : Int) + d := by
  have := Nat.div_le_self m L
  rw [← h1] at this
  unfold wrap64
  omega
theorem m7 (parts : Int) (q : Nat) (h : (q : Int) < parts) : parts.toNat - ((q : Int) + 1).toNat < parts.toNat - ((q : Int)).toNat := by omega
theorem w7 (parts : Int) (q : Nat) (h : (q : Int) < parts) (h2 : parts ≤ 100) : wrap64 ((q : Int) + 1) = (q : Int) + 1 := by unfold wrap64; omega
theorem meas (T b : Nat) (h : b < T) : T - (intOf (.int .i64 ((b : Int) + 1))).toNat < T - (intOf (.int .i64 (b : Int))).toNat := by
  show T - ((b : Int) + 1).toNat < T - ((b : Int)).toNat
  rw [show ((b : Int) + 1).toNat = b + 1 from rfl, Int.toNat_natCast]
  omega
/-- The part at a time. -/
def at_ (l : List S) (t : Nat) : Int := (pts (pr l)).getD (t % l.length) 0
theorem at_cell {w : World} {A : Option Addr} {l : List S} (h : Kd.C kS w A l.length l) (h0 : l.length ≠ 0) (t : Nat) :
    ∃ (ad : Addr), A = some ad ∧ t % l.length < l.length ∧ w.cell? (ad.add (t % l.length * 2)) = some (.int .i64 (at_ l t)) := by
  have hk : t % l.length < l.length := Nat.mod_lt _ (by omega)
  obtain ⟨ad, e, c0, _⟩ := win_cell h (t % l.length) hk
  refine ⟨ad, e, hk, ?_⟩
  unfold at_
  rw [pgetD l _ hk]
  exact c0
set_option maxRecDepth 20000 in
set_option maxHeartbeats 600000 in
theorem reaches (A : Option Addr) (cap : Nat) (l : List S) (parts n : Int) (w : World) (hS : Kd.C kS w A l.length l) (hc : l.length ≤ cap) :
    Calls Try.prog 4 #[.slice A l.length cap, .int .i64 parts, .int .i64 n] w fun e w' => e = .returned (.bool true) ∧ Below w.heap.size w w' := by
  by_cases h : 200 < l.length
  · have h1 : (200 : Int) < (l.length : Int) := by omega
    go_enter Try.func4, Try.ntmps4
    go_wp2_with fail
    refine (awake _).mono ?_
    rintro e w2 ⟨rfl, b2⟩
    go_wp2
    go_ret
    exact ⟨rfl, b2⟩
  · have h1 : ¬ (200 : Int) < (l.length : Int) := by omega
    by_cases h2 : 100 < parts
    · go_enter Try.func4, Try.ntmps4
      go_wp2_with fail
      refine (awake _).mono ?_
      rintro e w2 ⟨rfl, b2⟩
      go_wp2
      go_ret
      exact ⟨rfl, b2⟩
    · have C1 := check A cap l parts w hS
      by_cases hk : (chk parts (pr l)).1 = 0
      · have hok := chk_ok hk
        clear hk
        rw [hok] at C1
        have hf : ∀ W, Sem.run Try.prog (Instr.field 26 (.agg #[.int .i64 0, .int .i64 0]) 0) W = .ok (.int .i64 0) W := by intro W; kernel_rfl
        by_cases h3 : n < 0
        · go_enter Try.func4, Try.ntmps4
          go_wp2_with fail
          refine C1.mono ?_
          rintro e w2 ⟨rfl, b2⟩
          go_wp2_with fail
          refine (awake _).mono ?_
          rintro e w3 ⟨rfl, b3⟩
          go_wp2
          go_ret
          exact ⟨rfl, bstep b2 b3⟩
        · by_cases h4 : 1048576 < n
          · go_enter Try.func4, Try.ntmps4
            go_wp2_with fail
            refine C1.mono ?_
            rintro e w2 ⟨rfl, b2⟩
            go_wp2_with fail
            refine (awake _).mono ?_
            rintro e w3 ⟨rfl, b3⟩
            go_wp2
            go_ret
            exact ⟨rfl, bstep b2 b3⟩
          · obtain ⟨hl0, hl32⟩ := chk_len hok
            rw [pr_len] at hl0 hl32
            have HL32 := Lib.hid hl32
            have HP := Lib.hid (show parts ≤ 100 by omega)
            obtain ⟨m, rfl⟩ : ∃ m : Nat, n = (m : Int) := ⟨n.toNat, by omega⟩
            have hll : ¬ (l.length : Int) = 0 := by omega
            have HM := Lib.hid (show m ≤ 1048576 by omega)
            obtain ⟨ad, rfl, hx, cm⟩ := at_cell hS hl0 m
            have CW := whr (some ad) cap l.length m hl0 (by omega)
            have HX := Lib.hid hx
            have HCC := Lib.hid hc
            clear hl32 hc hx
            by_cases hb : at_ l m = -1
            · go_enter Try.func4, Try.ntmps4
              go_wp2_with fail
              refine C1.mono ?_
              rintro e w2 ⟨rfl, b2⟩
              go_wp2_with fail
              refine (CW w2).mono ?_
              rintro e w3 ⟨fr, x, rfl, hfr, hxm, b3⟩
              have HFR := Lib.hid hfr
              have hx := HX.out
              rw [← hxm] at cm hx
              have k0 : (0 : Int) ≤ (x : Int) := by omega
              have k1 : (x : Int) < (l.length : Int) := by omega
              have HXM := Lib.hid hxm
              have bb3 := bstep b2 b3
              clear hxm hfr
              have cm3 := cbel bb3 cm (World.block_lt_of_cell? w _ cm)
              rw [hb] at cm3
              clear cm b2 b3
              go_wp2_with fail
              refine (awake _).mono ?_
              rintro e w4 ⟨rfl, b4⟩
              go_wp2
              go_ret
              exact ⟨rfl, bstep bb3 b4⟩
            · have hbq : (at_ l m == -1) = false := beq_eq_false_iff_ne.2 hb
              obtain ⟨T, t1, t2, t3, t4⟩ := bus_next parts (pr l) hok m (by rw [pr_len]; exact hb)
              rw [pr_len] at t2 t3 t4
              have HT3 : Hid (at_ l T = -1) := Lib.hid t3
              have HT4 := Lib.hid t4
              have HT2 := Lib.hid t2
              clear t2 t3 t4
              go_enter Try.func4, Try.ntmps4
              go_wp2_with fail
              refine C1.mono ?_
              rintro e w2 ⟨rfl, b2⟩
              go_wp2_with fail
              refine (CW w2).mono ?_
              rintro e w3 ⟨fr, x, rfl, hfr, hxm, b3⟩
              have HFR := Lib.hid hfr
              have hx := HX.out
              rw [← hxm] at cm hx
              have k0 : (0 : Int) ≤ (x : Int) := by omega
              have k1 : (x : Int) < (l.length : Int) := by omega
              have HXM := Lib.hid hxm
              have bb3 := bstep b2 b3
              clear hxm hfr
              have cm3 := cbel bb3 cm (World.block_lt_of_cell? w _ cm)
              have hS3 := Kd.C_below hS bb3
              generalize hfm : at_ l m = from_ at *
              have HFM := Lib.hid hfm
              clear cm b2 b3 CW C1 hfm
              go_wp2
              go_loop [10] (fun i => ∃ b : Nat, i = .int .i64 (b : Int) ∧ m ≤ b ∧ b ≤ T) (fun i => T - (intOf i).toNat)
              case atStart => exact ⟨m, rfl, Nat.le_refl _, t1⟩
              case round =>
                obtain ⟨b, rfl, b1, b2⟩ := hrel
                obtain ⟨ad2, e, hy, cy⟩ := at_cell hS3 hl0 b
                obtain rfl := Option.some.inj e
                have hw1 := w1a b2 HT2.out HL32.out HM.out
                by_cases hbb : at_ l b = -1
                · rw [hbb] at cy
                  have hbl : b / l.length ≤ m / l.length + (if hdm (ofl (-1) (pts (pr l)) 0) < ((m % l.length : Nat) : Int) then 1 else 0) := Nat.le_trans (Nat.div_le_div_right b2) HT4.out
                  have HBL := Lib.hid hbl
                  have hnx := fun tq h0 h1 => part_next parts (pr l) hok b (by rw [pr_len]; exact hbb) tq h0 h1
                  have hdp := fun tq h0 h1 => deep_at parts (pr l) hok (m % l.length) (by rw [pr_len]; exact HX.out) tq h0 h1
                  rw [pr_len] at hnx
                  have hbn : Hid (b ≤ m + l.length) := Lib.hid (Nat.le_trans b2 HT2.out)
                  have HNX := Lib.hid hnx
                  have HDP := Lib.hid hdp
                  clear hbl hnx hdp b1 b2 t1 HT2 HT3 HT4 hbq hb hbb
                  go_wp2
                  go_loopw [11] (fun i wr => ∃ tq : Nat, i = .int .i64 (tq : Int) ∧ ((tq : Int) ≤ parts ∨ tq = 0) ∧ Below w.heap.size w wr) (fun i _ => (parts.toNat - (intOf i).toNat))
                  case atStart => exact ⟨0, rfl, .inr rfl, bb3⟩
                  case round =>
                    clear cy cm3 bb3
                    obtain ⟨tq, rfl, hto, bb⟩ := hrel
                    have hS4 := Kd.C_below hS bb
                    by_cases hlt : (tq : Int) < parts
                    · obtain ⟨T, t1, t2, t3, t4⟩ := HNX.out (tq : Int) (by omega) hlt
                      have hD := Lib.hid (HDP.out (tq : Int) (by omega) hlt)
                      have HT3 : Hid (at_ l T = (tq : Int)) := Lib.hid t3
                      have HT4 := Lib.hid t4
                      have HT2 := Lib.hid t2
                      have HTO := Lib.hid hto
                      have HLT := Lib.hid hlt
                      clear t2 t3 t4 h1 h2 h3 h4 hto
                      go_wp2
                      clear hlt
                      go_loop [12] (fun i => ∃ t : Nat, i = .int .i64 (t : Int) ∧ b ≤ t ∧ t ≤ T) (fun i => T - (intOf i).toNat)
                      case atStart => exact ⟨b, rfl, Nat.le_refl _, t1⟩
                      case round =>
                        obtain ⟨t, rfl, b1, b2⟩ := hrel
                        obtain ⟨ad2, e, hy2, cy⟩ := at_cell hS4 hl0 t
                        obtain rfl := Option.some.inj e
                        have hw1 := w1b b2 HT2.out hbn.out HL32.out HM.out
                        by_cases hbb : at_ l t = (tq : Int)
                        · rw [hbb] at cy
                          have CW2 := whr (some ad) cap l.length t hl0 (w1c b2 HT2.out hbn.out HL32.out HM.out) wr
                          go_wp2_with fail
                          refine CW2.mono ?_
                          rintro e w4 ⟨f, k, rfl, hf2, hk2, b4⟩
                          have hS5 := Kd.C_below hS4 b4
                          have bb5 := bstep bb b4
                          have CD := deep_at_ (some ad) cap l from_ (tq : Int) w4 hS5 HCC.out (by have := HL32.out; omega)
                          rw [← hk2] at cy hy2
                          have cy5 := cbel b4 cy (World.block_lt_of_cell? wr _ cy)
                          have HF2 := Lib.hid hf2
                          clear CW2 cy hf2 hk2
                          go_wp2_with fail
                          refine CD.mono ?_
                          rintro e w5 ⟨rfl, b5⟩
                          have cy6 := cbel b5 cy5 (World.block_lt_of_cell? w4 _ cy5)
                          have bb6 := bstep bb5 b5
                          have hD2 : 0 ≤ deep (pts (pr l)) from_ (tq : Int) ∧ deep (pts (pr l)) from_ (tq : Int) ≤ 2 := by
                            have := hD.out
                            rw [show (pts (pr l)).getD (m % l.length) 0 = from_ from HFM.out] at this
                            exact ⟨this.1, this.2.1⟩
                          have hfin : (f : Int) ≤ (fr : Int) + deep (pts (pr l)) from_ (tq : Int) := by
                            have h5 := hD.out
                            rw [show (pts (pr l)).getD (m % l.length) 0 = from_ from HFM.out] at h5
                            refine fin_ (g := b / l.length) ?_ ?_ h5.2.2
                            · rw [HF2.out]
                              exact Nat.le_trans (Nat.div_le_div_right b2) HT4.out
                            · rw [HFR.out]
                              exact HBL.out
                          have hw2 := w2q HFR.out HM.out hD2
                          have k4 : (0 : Int) ≤ (k : Int) := Int.natCast_nonneg k
                          have k5 : (k : Int) < (l.length : Int) := Int.ofNat_lt.2 hy2
                          generalize deep (pts (pr l)) from_ (tq : Int) = d at *
                          have q1 : ¬ d < 0 := Int.not_lt.2 hD2.1
                          have q2 : ¬ 2 < d := Int.not_lt.2 hD2.2
                          have q3 : ¬ (fr : Int) + d < (f : Int) := Int.not_lt.2 hfin
                          have q4 : ((tq : Int) != (tq : Int)) = false := by simp
                          have hq7 : Hid (((tq + 1 : Nat) : Int) ≤ parts ∨ tq + 1 = 0) := Lib.hid (.inl (by have := HLT.out; exact Int.add_one_le_of_lt this))
                          have hw7 := w7 parts tq HLT.out HP.out
                          have hm7 := Lib.hid (m7 parts tq HLT.out)
                          clear CD b4 b5 hS5 cy5 bb5 hy2 hD HT2 HT3 HT4 b1 b2 hw1 hbb hD2 hfin t1
                          go_wp2
                          go_roundw
                          case rel => exact ⟨tq + 1, by rw [hw7]; rfl, hq7.out, bb6⟩
                          case measure => rw [hw7]; exact hm7.out
                        · have hq : (at_ l t != (tq : Int)) = true := by simpa using hbb
                          have hq2 : ¬ at_ l t = (tq : Int) := hbb
                          have hne : t < T := Nat.lt_of_le_of_ne b2 (fun h => hbb (h ▸ HT3.out))
                          generalize at_ l t = z at *
                          go_wp2
                          go_round
                          case rel => exact ⟨t + 1, by rw [hw1]; rfl, Nat.le_succ_of_le b1, hne⟩
                          case measure => rw [hw1]; exact meas T t hne
                    · go_wp2_with fail
                      refine (awake _).mono ?_
                      rintro e w4 ⟨rfl, b4⟩
                      go_wp2
                      go_ret
                      exact ⟨rfl, bstep bb b4⟩
                · have hq : (at_ l b != -1) = true := by simpa using hbb
                  have hq2 : ¬ at_ l b = -1 := hbb
                  have hne : b < T := Nat.lt_of_le_of_ne b2 (fun h => hbb (h ▸ HT3.out))
                  generalize at_ l b = z at *
                  go_wp2
                  go_round
                  case rel => exact ⟨b + 1, by rw [hw1]; rfl, Nat.le_succ_of_le b1, hne⟩
                  case measure => rw [hw1]; exact meas T b hne
      · generalize chk parts (pr l) = R at *
        obtain ⟨R1, R2⟩ := R
        have hne2 : (R1 != 0) = true := by simpa using hk
        have hf : ∀ W, Sem.run Try.prog (Instr.field 26 (.agg #[.int .i64 R1, .int .i64 R2]) 0) W = .ok (.int .i64 R1) W := by intro W; kernel_rfl
        go_enter Try.func4, Try.ntmps4
        go_wp2_with fail
        refine C1.mono ?_
        rintro e w2 ⟨rfl, b2⟩
        go_wp2_with fail
        refine (awake _).mono ?_
        rintro e w3 ⟨rfl, b3⟩
        go_wp2
        go_ret
        exact ⟨rfl, bstep b2 b3⟩
end Go.Proofs.Ytimalojaiaofkaa.SchedP
