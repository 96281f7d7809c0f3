import Derived.Test.YtfjcgbkoohjmnaaName2
set_option linter.unusedVariables false
set_option linter.unusedSimpArgs false
namespace Go.Proofs.Ytfjcgbkoohjmnaa.Name
open Go.RowKit Base NameP Go.Proofs.Ytfjcgbkoohjmnaa.PNameTells Go.Proofs.YtfjcgbkoohjmnaaW.PrintWords Go.Proofs.YtfjcgbkoohjmnaaW.PrintLast
set_option maxHeartbeats 4000000 in
set_option maxRecDepth 20000 in
theorem leads (A : Option Addr) (c : Nat) (l : List ByteArray) (s : ByteArray) (w : World) (hs : s.size ≤ 140737488351232) (h : Kd.C Kd.string w A l.length l) (hl : l.length ≤ 9223372036854775807) :
    Calls Try.prog 14 #[.string s, .slice A l.length c] w fun e w' => e = .returned (.bool true) ∧ Below w.heap.size w w' := by
  have hle := Lead_le s
  have hhead := lead_head s
  have hmore := lead_more s ⟨#[95]⟩
  have hnf := @name_facts s
  generalize hn : Lead s = n at *
  have n0 : (0 : Int) ≤ (n : Int) := by omega
  have n1 : (n : Int) ≤ (s.size : Int) := by omega
  have n2 : ¬ (s.size < n) := by omega
  have hs' : s.size ≤ 140737488351240 := by omega
  have hx : (s.extract 0 n).size ≤ 140737488351240 := by rw [ByteArray.size_extract]; omega
  have hy : (s ++ ⟨#[95]⟩).size ≤ 140737488351240 := by
    rw [ByteArray.size_append]
    show s.size + 1 ≤ _
    omega
  go_enter Try.func14, Try.ntmps14
  go_wp2_with fail
  refine (lead_walk s _ hs').mono ?_
  rintro e w1 ⟨rfl, hb1⟩
  rw [hn]
  go_wp2_with fail
  refine (name_walk s _ hs).mono ?_
  rintro e w2 ⟨rfl, hb2⟩
  have hb2 := below_step hb1 hb2
  clear hb1
  by_cases hnm : name s = true
  case' neg =>
    have hnm' : name s = false := by simpa using hnm
    clear hnm hnf
    go_wp2_with fail
    refine (lead_walk (s.extract 0 n) _ hx).mono ?_
    rintro e w4 ⟨rfl, hb4⟩
    have hb4 := below_step hb2 hb4
    clear hb2
    rw [hhead]
    go_wp2_with fail
    refine (lead_walk _ _ hy).mono ?_
    rintro e w5 ⟨rfl, hb5⟩
    have hb5 := below_step hb4 hb5
    clear hb4
    have hb := hb5
    clear hb5 hx hy hs hs' hhead
    have hm : (n = s.size ∧ True) ∨ (n ≠ s.size ∧ Lead (s ++ ⟨#[95]⟩) = n) := by
      by_cases e : n = s.size
      · exact .inl ⟨e, trivial⟩
      · exact .inr ⟨e, hmore e⟩
    clear hmore
    generalize Lead (s ++ ⟨#[95]⟩) = m at *
    rcases hm with ⟨e, _⟩ | ⟨_, e⟩
    all_goals
      subst e
      clear hle n0 n1 n2
      go_wp2_with fail
  case' pos =>
    obtain ⟨e1, e2, e3⟩ := hnf hnm
    have e1' : (n : Int) = (s.size : Int) := by omega
    have e4 : ¬ ((n : Int) > 16) := by omega
    clear hmore
    go_wp2_with fail
    refine (word_walk s _).mono ?_
    rintro e w3 ⟨rfl, hb3⟩
    have hb3 := below_step hb2 hb3
    clear hb2
    rw [e3]
    go_wp2_with fail
    refine (lead_walk s _ hs').mono ?_
    rintro e w4 ⟨rfl, hb4⟩
    have hb4 := below_step hb3 hb4
    clear hb3
    rw [hn]
    go_wp2_with fail
    refine (lead_walk _ _ hy).mono ?_
    rintro e w5 ⟨rfl, hb5⟩
    have hb5 := below_step hb4 hb5
    clear hb4
    generalize Lead (s ++ ⟨#[95]⟩) = m
    have hb := hb5
    clear hb5 e1 e2 e3 e1' e4 hnm hx hy hs hs' hhead n0 n1 n2 hle hnf
    go_wp2_with fail
  all_goals
    go_loopw [6] (fun x w' => ∃ k : Nat, k ≤ 300 ∧ x = .int .i64 (k : Int) ∧ Below w.heap.size w w') (fun x _ => (300 - (intOf x).toNat))
    case atStart => exact ⟨0, by omega, rfl, hb⟩
    case round =>
      clear hb
      obtain ⟨k, k1, rfl, hb⟩ := hrel
      have k0 : (0 : Int) ≤ (k : Int) := by omega
      by_cases hk : k < l.length ∧ k < 300
      · obtain ⟨hlt, hk3⟩ := hk
        have k2 : (k : Int) < (l.length : Int) := by omega
        have k3 : (k : Int) < 300 := by omega
        have hC := Kd.C_below h hb
        obtain ⟨ad, rfl, hc⟩ := str_cell hC k hlt
        obtain ⟨j, hj, hjk, ⟨hjl, hje⟩, htw⟩ := place_facts l k hlt
        obtain ⟨_, e, hc2⟩ := str_cell hC j hjl
        obtain rfl := Option.some.inj e
        rw [hje] at hc2
        have hfk : ∀ w, Kd.C Kd.string w (some ad) l.length l → w.cell? (ad.add k) = some (.string l[k]) := by
          intro w h
          obtain ⟨_, e, h⟩ := str_cell h k hlt
          obtain rfl := Option.some.inj e
          exact h
        have hfj : ∀ w, Kd.C Kd.string w (some ad) l.length l → w.cell? (ad.add j) = some (.string l[k]) := by
          intro w h
          obtain ⟨_, e, h⟩ := str_cell h j hjl
          obtain rfl := Option.some.inj e
          rw [← hje]
          exact h
        generalize l[k] = x at *
        go_wp2_with fail
        refine (find _ c l x _ hC hl).mono ?_
        rintro e w' ⟨rfl, rfl⟩
        rw [hj]
        clear hje hjl e
        have j0 : (0 : Int) ≤ (j : Int) := by omega
        have j1 : decide ((j : Int) < 0) = false := decide_eq_false (by omega)
        have j2 : ¬ k < j := by omega
        have j3 : j < l.length := by omega
        by_cases hjlt : j < k
        · obtain ⟨t0, t1⟩ := htw hjlt
          have t2 : decide (twice l l.length 0 < 0) = false := decide_eq_false (by omega)
          have t3 : decide ((k : Int) < twice l l.length 0) = false := decide_eq_false (by omega)
          have htw2 := fun w h => twice_walk (some ad) c l w h hl
          generalize twice l l.length 0 = t at *
          go_wp2_with fail
          refine Reg.wp_plan (S := fun w' => Kd.C Kd.string w' (some ad) l.length l ∧ w'.cell? (ad.add k) = some (.string x) ∧ w'.cell? (ad.add j) = some (.string x)) 34 [(0, true), (1, true), (2, true), (3, true), (4, true), (5, true), (6, true), (7, true), (8, true), (9, true), (10, true), (11, true), (12, true), (13, true), (14, true), (15, true), (16, true), (17, true), (18, true), (19, true), (20, true), (21, true), (22, true), (23, true), (24, false), (25, true), (26, true), (27, true), (29, true), (28, false), (30, true), (31, true), (32, true), (33, true)] (by kernel_rfl) (by kernel_rfl) (by kernel_rfl) (by kernel_rfl) (fun _ _ _ d _ h => by cases d <;> exact h) ?_ (fun hHeld => ?_)
          · exact ⟨Kd.C_drew hC, hfk _ (Kd.C_drew hC), hfj _ (Kd.C_drew hC)⟩
          refine Reg.G_on (o := { dst := some 73, op := Op.move (Operand.tmp 7), type := 3, pos := "law.go:37", after := #[], guard := Option.none }) (v := ?_) (by rfl) ?_ (fun wS hSw => ?_) ?_
          rotate_left
          · kernel_rfl
          · (try dsimp only at hSw); go_simp; (try with_reducible rfl)
          try simp only [Act.put, List.setIfInBounds_toArray, List.set_cons_zero, List.set_cons_succ]
          refine Reg.G_on (o := { dst := some 74, op := Op.binOp BinOp.lss 3 (Operand.tmp 73) (Operand.const (Value.int IntKind.i64 0)) 3, type := 4, pos := "law.go:37", after := #[{ on := 0, ground := Ground.data }], guard := Option.none }) (v := ?_) (by rfl) ?_ (fun wS hSw => ?_) ?_
          rotate_left
          · kernel_rfl
          · (try dsimp only at hSw); go_simp; (try with_reducible rfl)
          try simp only [Act.put, List.setIfInBounds_toArray, List.set_cons_zero, List.set_cons_succ]
          refine Reg.G_on (o := { dst := some 75, op := Op.move (Operand.tmp 74), type := 4, pos := "law.go:37", after := #[{ on := 1, ground := Ground.data }], guard := Option.none }) (v := ?_) (by rfl) ?_ (fun wS hSw => ?_) ?_
          rotate_left
          · kernel_rfl
          · (try dsimp only at hSw); go_simp; (try with_reducible rfl)
          try simp only [Act.put, List.setIfInBounds_toArray, List.set_cons_zero, List.set_cons_succ]
          refine Reg.G_on (o := { dst := some 76, op := Op.move (Operand.tmp 7), type := 3, pos := "law.go:37", after := #[{ on := 2, ground := Ground.guard }], guard := some (2, false) }) (v := ?_) (by rfl) ?_ (fun wS hSw => ?_) ?_
          rotate_left
          · kernel_rfl
          · (try dsimp only at hSw); go_simp; (try with_reducible rfl)
          try simp only [Act.put, List.setIfInBounds_toArray, List.set_cons_zero, List.set_cons_succ]
          refine Reg.G_on (o := { dst := some 77, op := Op.move (Operand.tmp 6), type := 3, pos := "law.go:37", after := #[{ on := 2, ground := Ground.guard }], guard := some (2, false) }) (v := ?_) (by rfl) ?_ (fun wS hSw => ?_) ?_
          rotate_left
          · kernel_rfl
          · (try dsimp only at hSw); go_simp; (try with_reducible rfl)
          try simp only [Act.put, List.setIfInBounds_toArray, List.set_cons_zero, List.set_cons_succ]
          refine Reg.G_on (o := { dst := some 78, op := Op.binOp BinOp.gtr 3 (Operand.tmp 76) (Operand.tmp 77) 3, type := 4, pos := "law.go:37", after := #[{ on := 3, ground := Ground.data }, { on := 4, ground := Ground.data }, { on := 2, ground := Ground.guard }], guard := some (2, false) }) (v := ?_) (by rfl) ?_ (fun wS hSw => ?_) ?_
          rotate_left
          · kernel_rfl
          · (try dsimp only at hSw); go_simp; (try with_reducible rfl)
          try simp only [Act.put, List.setIfInBounds_toArray, List.set_cons_zero, List.set_cons_succ]
          refine Reg.G_on (o := { dst := some 79, op := Op.pick (Operand.tmp 75) (Operand.const (Value.bool true)) (Operand.tmp 78), type := 4, pos := "law.go:37", after := #[{ on := 2, ground := Ground.data }, { on := 5, ground := Ground.data }], guard := Option.none }) (v := ?_) (by rfl) ?_ (fun wS hSw => ?_) ?_
          rotate_left
          · kernel_rfl
          · (try dsimp only at hSw); go_simp; (try with_reducible rfl)
          try simp only [Act.put, List.setIfInBounds_toArray, List.set_cons_zero, List.set_cons_succ]
          refine Reg.G_on (o := { dst := some 80, op := Op.move (Operand.tmp 79), type := 4, pos := "law.go:37", after := #[{ on := 6, ground := Ground.data }, { on := 2, ground := Ground.chain }], guard := Option.none }) (v := ?_) (by rfl) ?_ (fun wS hSw => ?_) ?_
          rotate_left
          · kernel_rfl
          · (try dsimp only at hSw); go_simp; (try with_reducible rfl)
          try simp only [Act.put, List.setIfInBounds_toArray, List.set_cons_zero, List.set_cons_succ]
          refine Reg.G_on (o := { dst := some 81, op := Op.move (Operand.tmp 1), type := 55, pos := "law.go:37", after := #[{ on := 7, ground := Ground.guard }], guard := some (7, false) }) (v := ?_) (by rfl) ?_ (fun wS hSw => ?_) ?_
          rotate_left
          · kernel_rfl
          · (try dsimp only at hSw); go_simp; (try with_reducible rfl)
          try simp only [Act.put, List.setIfInBounds_toArray, List.set_cons_zero, List.set_cons_succ]
          refine Reg.G_on (o := { dst := some 82, op := Op.move (Operand.tmp 7), type := 3, pos := "law.go:37", after := #[{ on := 7, ground := Ground.guard }], guard := some (7, false) }) (v := ?_) (by rfl) ?_ (fun wS hSw => ?_) ?_
          rotate_left
          · kernel_rfl
          · (try dsimp only at hSw); go_simp; (try with_reducible rfl)
          try simp only [Act.put, List.setIfInBounds_toArray, List.set_cons_zero, List.set_cons_succ]
          refine Reg.G_on (o := { dst := some 83, op := Op.indexAddr 55 (Operand.tmp 81) (Operand.tmp 82), type := 0, pos := "law.go:37", after := #[{ on := 8, ground := Ground.data }, { on := 9, ground := Ground.data }, { on := 7, ground := Ground.guard }], guard := some (7, false) }) (v := ?_) (by rfl) ?_ (fun wS hSw => ?_) ?_
          rotate_left
          · kernel_rfl
          · (try dsimp only at hSw); go_simp; (try with_reducible rfl)
          try simp only [Act.put, List.setIfInBounds_toArray, List.set_cons_zero, List.set_cons_succ]
          refine Reg.G_on (o := { dst := some 84, op := Op.load 9 (Operand.tmp 83), type := 9, pos := "law.go:37", after := #[{ on := 10, ground := Ground.data }, { on := 7, ground := Ground.guard }], guard := some (7, false) }) (v := ?_) (by rfl) ?_ (fun wS hSw => ?_) ?_
          rotate_left
          · kernel_rfl
          · (try dsimp only at hSw); go_simp; (try with_reducible rfl)
          try simp only [Act.put, List.setIfInBounds_toArray, List.set_cons_zero, List.set_cons_succ]
          refine Reg.G_on (o := { dst := some 85, op := Op.move (Operand.tmp 1), type := 55, pos := "law.go:37", after := #[{ on := 7, ground := Ground.guard }], guard := some (7, false) }) (v := ?_) (by rfl) ?_ (fun wS hSw => ?_) ?_
          rotate_left
          · kernel_rfl
          · (try dsimp only at hSw); go_simp; (try with_reducible rfl)
          try simp only [Act.put, List.setIfInBounds_toArray, List.set_cons_zero, List.set_cons_succ]
          refine Reg.G_on (o := { dst := some 86, op := Op.move (Operand.tmp 6), type := 3, pos := "law.go:37", after := #[{ on := 7, ground := Ground.guard }], guard := some (7, false) }) (v := ?_) (by rfl) ?_ (fun wS hSw => ?_) ?_
          rotate_left
          · kernel_rfl
          · (try dsimp only at hSw); go_simp; (try with_reducible rfl)
          try simp only [Act.put, List.setIfInBounds_toArray, List.set_cons_zero, List.set_cons_succ]
          refine Reg.G_on (o := { dst := some 87, op := Op.indexAddr 55 (Operand.tmp 85) (Operand.tmp 86), type := 0, pos := "law.go:37", after := #[{ on := 12, ground := Ground.data }, { on := 13, ground := Ground.data }, { on := 7, ground := Ground.guard }], guard := some (7, false) }) (v := ?_) (by rfl) ?_ (fun wS hSw => ?_) ?_
          rotate_left
          · kernel_rfl
          · (try dsimp only at hSw); go_simp; (try with_reducible rfl)
          try simp only [Act.put, List.setIfInBounds_toArray, List.set_cons_zero, List.set_cons_succ]
          refine Reg.G_on (o := { dst := some 88, op := Op.load 9 (Operand.tmp 87), type := 9, pos := "law.go:37", after := #[{ on := 14, ground := Ground.data }, { on := 7, ground := Ground.guard }], guard := some (7, false) }) (v := ?_) (by rfl) ?_ (fun wS hSw => ?_) ?_
          rotate_left
          · kernel_rfl
          · (try dsimp only at hSw); go_simp; (try with_reducible rfl)
          try simp only [Act.put, List.setIfInBounds_toArray, List.set_cons_zero, List.set_cons_succ]
          refine Reg.G_on (o := { dst := some 89, op := Op.binOp BinOp.neq 9 (Operand.tmp 84) (Operand.tmp 88) 9, type := 4, pos := "law.go:37", after := #[{ on := 11, ground := Ground.data }, { on := 15, ground := Ground.data }, { on := 7, ground := Ground.guard }], guard := some (7, false) }) (v := ?_) (by rfl) ?_ (fun wS hSw => ?_) ?_
          rotate_left
          · kernel_rfl
          · (try dsimp only at hSw); go_simp; (try with_reducible rfl)
          try simp only [Act.put, List.setIfInBounds_toArray, List.set_cons_zero, List.set_cons_succ]
          refine Reg.G_on (o := { dst := some 90, op := Op.pick (Operand.tmp 80) (Operand.const (Value.bool true)) (Operand.tmp 89), type := 4, pos := "law.go:37", after := #[{ on := 7, ground := Ground.data }, { on := 16, ground := Ground.data }], guard := Option.none }) (v := ?_) (by rfl) ?_ (fun wS hSw => ?_) ?_
          rotate_left
          · kernel_rfl
          · (try dsimp only at hSw); go_simp; (try with_reducible rfl)
          try simp only [Act.put, List.setIfInBounds_toArray, List.set_cons_zero, List.set_cons_succ]
          refine Reg.G_on (o := { dst := some 91, op := Op.move (Operand.tmp 90), type := 4, pos := "law.go:37", after := #[{ on := 17, ground := Ground.data }, { on := 7, ground := Ground.chain }], guard := Option.none }) (v := ?_) (by rfl) ?_ (fun wS hSw => ?_) ?_
          rotate_left
          · kernel_rfl
          · (try dsimp only at hSw); go_simp; (try with_reducible rfl)
          try simp only [Act.put, List.setIfInBounds_toArray, List.set_cons_zero, List.set_cons_succ]
          refine Reg.G_on (o := { dst := some 92, op := Op.move (Operand.tmp 7), type := 3, pos := "law.go:37", after := #[{ on := 18, ground := Ground.guard }], guard := some (18, false) }) (v := ?_) (by rfl) ?_ (fun wS hSw => ?_) ?_
          rotate_left
          · kernel_rfl
          · (try dsimp only at hSw); go_simp; (try with_reducible rfl)
          try simp only [Act.put, List.setIfInBounds_toArray, List.set_cons_zero, List.set_cons_succ]
          refine Reg.G_on (o := { dst := some 93, op := Op.move (Operand.tmp 6), type := 3, pos := "law.go:37", after := #[{ on := 18, ground := Ground.guard }], guard := some (18, false) }) (v := ?_) (by rfl) ?_ (fun wS hSw => ?_) ?_
          rotate_left
          · kernel_rfl
          · (try dsimp only at hSw); go_simp; (try with_reducible rfl)
          try simp only [Act.put, List.setIfInBounds_toArray, List.set_cons_zero, List.set_cons_succ]
          refine Reg.G_on (o := { dst := some 94, op := Op.binOp BinOp.lss 3 (Operand.tmp 92) (Operand.tmp 93) 3, type := 4, pos := "law.go:37", after := #[{ on := 19, ground := Ground.data }, { on := 20, ground := Ground.data }, { on := 18, ground := Ground.guard }], guard := some (18, false) }) (v := ?_) (by rfl) ?_ (fun wS hSw => ?_) ?_
          rotate_left
          · kernel_rfl
          · (try dsimp only at hSw); go_simp; (try with_reducible rfl)
          try simp only [Act.put, List.setIfInBounds_toArray, List.set_cons_zero, List.set_cons_succ]
          refine Reg.G_on (o := { dst := some 95, op := Op.move (Operand.tmp 94), type := 4, pos := "law.go:37", after := #[{ on := 21, ground := Ground.data }, { on := 18, ground := Ground.chain }, { on := 18, ground := Ground.guard }], guard := some (18, false) }) (v := ?_) (by rfl) ?_ (fun wS hSw => ?_) ?_
          rotate_left
          · kernel_rfl
          · (try dsimp only at hSw); go_simp; (try with_reducible rfl)
          try simp only [Act.put, List.setIfInBounds_toArray, List.set_cons_zero, List.set_cons_succ]
          refine Reg.G_on (o := { dst := some 96, op := Op.move (Operand.tmp 1), type := 55, pos := "law.go:37", after := #[{ on := 22, ground := Ground.guard }], guard := some (22, true) }) (v := ?_) (by rfl) ?_ (fun wS hSw => ?_) ?_
          rotate_left
          · kernel_rfl
          · (try dsimp only at hSw); go_simp; (try with_reducible rfl)
          try simp only [Act.put, List.setIfInBounds_toArray, List.set_cons_zero, List.set_cons_succ]
          refine Reg.G_step (o := { dst := some 97, op := Op.call { callee := Callee.value (Operand.func 47), args := #[Operand.tmp 96], argTypes := #[55] }, type := 3, pos := "law.go:37", after := #[{ on := 23, ground := Ground.data }, { on := 22, ground := Ground.chain }, { on := 22, ground := Ground.guard }], guard := some (22, true) }) (by rfl) ?_ (fun K hK => ?_)
          · kernel_rfl
          go_simp
          refine (htw2 _ hHeld.1).mono ?_
          rintro e w' ⟨rfl, hb2⟩
          refine hK.out _ _ ?_ (fun hHeld => ?_)
          · exact ⟨Kd.C_below hHeld.1 hb2, hfk _ (Kd.C_below hHeld.1 hb2), hfj _ (Kd.C_below hHeld.1 hb2)⟩
          clear hK K
          try simp only [Act.put, List.setIfInBounds_toArray, List.set_cons_zero, List.set_cons_succ]
          refine Reg.G_on (o := { dst := some 98, op := Op.binOp BinOp.lss 3 (Operand.tmp 97) (Operand.const (Value.int IntKind.i64 0)) 3, type := 4, pos := "law.go:37", after := #[{ on := 24, ground := Ground.data }, { on := 22, ground := Ground.guard }], guard := some (22, true) }) (v := ?_) (by rfl) ?_ (fun wS hSw => ?_) ?_
          rotate_left
          · kernel_rfl
          · (try dsimp only at hSw); go_simp; (try with_reducible rfl)
          try simp only [Act.put, List.setIfInBounds_toArray, List.set_cons_zero, List.set_cons_succ]
          refine Reg.G_on (o := { dst := some 99, op := Op.move (Operand.tmp 98), type := 4, pos := "law.go:37", after := #[{ on := 25, ground := Ground.data }, { on := 24, ground := Ground.chain }, { on := 22, ground := Ground.guard }], guard := some (22, true) }) (v := ?_) (by rfl) ?_ (fun wS hSw => ?_) ?_
          rotate_left
          · kernel_rfl
          · (try dsimp only at hSw); go_simp; (try with_reducible rfl)
          try simp only [Act.put, List.setIfInBounds_toArray, List.set_cons_zero, List.set_cons_succ]
          refine Reg.G_on (o := { dst := some 100, op := Op.move (Operand.tmp 1), type := 55, pos := "law.go:37", after := #[{ on := 26, ground := Ground.guard }], guard := some (26, false) }) (v := ?_) (by rfl) ?_ (fun wS hSw => ?_) ?_
          rotate_left
          · kernel_rfl
          · (try dsimp only at hSw); go_simp; (try with_reducible rfl)
          try simp only [Act.put, List.setIfInBounds_toArray, List.set_cons_zero, List.set_cons_succ]
          refine Reg.G_on (o := { dst := some 102, op := Op.move (Operand.tmp 6), type := 3, pos := "law.go:37", after := #[{ on := 26, ground := Ground.guard }], guard := some (26, false) }) (v := ?_) (by rfl) ?_ (fun wS hSw => ?_) ?_
          rotate_left
          · kernel_rfl
          · (try dsimp only at hSw); go_simp; (try with_reducible rfl)
          try simp only [Act.put, List.setIfInBounds_toArray, List.set_cons_zero, List.set_cons_succ]
          refine Reg.G_step (o := { dst := some 101, op := Op.call { callee := Callee.value (Operand.func 47), args := #[Operand.tmp 100], argTypes := #[55] }, type := 3, pos := "law.go:37", after := #[{ on := 27, ground := Ground.data }, { on := 26, ground := Ground.chain }, { on := 26, ground := Ground.guard }], guard := some (26, false) }) (by rfl) ?_ (fun K hK => ?_)
          · kernel_rfl
          go_simp
          refine (htw2 _ hHeld.1).mono ?_
          rintro e w' ⟨rfl, hb3⟩
          refine hK.out _ _ ?_ (fun hHeld => ?_)
          · exact ⟨Kd.C_below hHeld.1 hb3, hfk _ (Kd.C_below hHeld.1 hb3), hfj _ (Kd.C_below hHeld.1 hb3)⟩
          clear hK K
          try simp only [Act.put, List.setIfInBounds_toArray, List.set_cons_zero, List.set_cons_succ]
          refine Reg.G_on (o := { dst := some 103, op := Op.binOp BinOp.gtr 3 (Operand.tmp 101) (Operand.tmp 102) 3, type := 4, pos := "law.go:37", after := #[{ on := 28, ground := Ground.data }, { on := 29, ground := Ground.data }, { on := 26, ground := Ground.guard }], guard := some (26, false) }) (v := ?_) (by rfl) ?_ (fun wS hSw => ?_) ?_
          rotate_left
          · kernel_rfl
          · (try dsimp only at hSw); go_simp; (try with_reducible rfl)
          try simp only [Act.put, List.setIfInBounds_toArray, List.set_cons_zero, List.set_cons_succ]
          refine Reg.G_on (o := { dst := some 104, op := Op.pick (Operand.tmp 99) (Operand.const (Value.bool true)) (Operand.tmp 103), type := 4, pos := "law.go:37", after := #[{ on := 26, ground := Ground.data }, { on := 30, ground := Ground.data }, { on := 22, ground := Ground.guard }], guard := some (22, true) }) (v := ?_) (by rfl) ?_ (fun wS hSw => ?_) ?_
          rotate_left
          · kernel_rfl
          · (try dsimp only at hSw); go_simp; (try with_reducible rfl)
          try simp only [Act.put, List.setIfInBounds_toArray, List.set_cons_zero, List.set_cons_succ]
          refine Reg.G_on (o := { dst := some 105, op := Op.pick (Operand.tmp 95) (Operand.tmp 104) (Operand.const (Value.bool false)), type := 4, pos := "law.go:37", after := #[{ on := 22, ground := Ground.data }, { on := 31, ground := Ground.data }, { on := 18, ground := Ground.guard }], guard := some (18, false) }) (v := ?_) (by rfl) ?_ (fun wS hSw => ?_) ?_
          rotate_left
          · kernel_rfl
          · (try dsimp only at hSw); go_simp; (try with_reducible rfl)
          try simp only [Act.put, List.setIfInBounds_toArray, List.set_cons_zero, List.set_cons_succ]
          refine Reg.G_on (o := { dst := some 106, op := Op.pick (Operand.tmp 91) (Operand.const (Value.bool true)) (Operand.tmp 105), type := 4, pos := "law.go:37", after := #[{ on := 18, ground := Ground.data }, { on := 32, ground := Ground.data }], guard := Option.none }) (v := ?_) (by rfl) ?_ (fun wS hSw => ?_) ?_
          rotate_left
          · kernel_rfl
          · (try dsimp only at hSw); go_simp; (try with_reducible rfl)
          try simp only [Act.put, List.setIfInBounds_toArray, List.set_cons_zero, List.set_cons_succ]
          refine Reg.G_done ?_
          go_wp2
          go_roundw
          case rel => exact ⟨k + 1, by omega, by go_num, below_step (below_step hb.drew hb2) hb3⟩
          case measure => simp [intOf]; omega
        · go_wp2_with fail
          refine Reg.wp_plan (S := fun w' => Kd.C Kd.string w' (some ad) l.length l ∧ w'.cell? (ad.add k) = some (.string x) ∧ w'.cell? (ad.add j) = some (.string x)) 34 [(0, true), (1, true), (2, true), (3, true), (4, true), (5, true), (6, true), (7, true), (8, true), (9, true), (10, true), (11, true), (12, true), (13, true), (14, true), (15, true), (16, true), (17, true), (18, true), (19, true), (20, true), (21, true), (22, true), (23, true), (24, false), (25, true), (26, true), (27, true), (29, true), (28, false), (30, true), (31, true), (32, true), (33, true)] (by kernel_rfl) (by kernel_rfl) (by kernel_rfl) (by kernel_rfl) (fun _ _ _ d _ h => by cases d <;> exact h) ?_ (fun hHeld => ?_)
          · exact ⟨Kd.C_drew hC, hfk _ (Kd.C_drew hC), hfj _ (Kd.C_drew hC)⟩
          refine Reg.G_on (o := { dst := some 73, op := Op.move (Operand.tmp 7), type := 3, pos := "law.go:37", after := #[], guard := Option.none }) (v := ?_) (by rfl) ?_ (fun wS hSw => ?_) ?_
          rotate_left
          · kernel_rfl
          · (try dsimp only at hSw); go_simp; (try with_reducible rfl)
          try simp only [Act.put, List.setIfInBounds_toArray, List.set_cons_zero, List.set_cons_succ]
          refine Reg.G_on (o := { dst := some 74, op := Op.binOp BinOp.lss 3 (Operand.tmp 73) (Operand.const (Value.int IntKind.i64 0)) 3, type := 4, pos := "law.go:37", after := #[{ on := 0, ground := Ground.data }], guard := Option.none }) (v := ?_) (by rfl) ?_ (fun wS hSw => ?_) ?_
          rotate_left
          · kernel_rfl
          · (try dsimp only at hSw); go_simp; (try with_reducible rfl)
          try simp only [Act.put, List.setIfInBounds_toArray, List.set_cons_zero, List.set_cons_succ]
          refine Reg.G_on (o := { dst := some 75, op := Op.move (Operand.tmp 74), type := 4, pos := "law.go:37", after := #[{ on := 1, ground := Ground.data }], guard := Option.none }) (v := ?_) (by rfl) ?_ (fun wS hSw => ?_) ?_
          rotate_left
          · kernel_rfl
          · (try dsimp only at hSw); go_simp; (try with_reducible rfl)
          try simp only [Act.put, List.setIfInBounds_toArray, List.set_cons_zero, List.set_cons_succ]
          refine Reg.G_on (o := { dst := some 76, op := Op.move (Operand.tmp 7), type := 3, pos := "law.go:37", after := #[{ on := 2, ground := Ground.guard }], guard := some (2, false) }) (v := ?_) (by rfl) ?_ (fun wS hSw => ?_) ?_
          rotate_left
          · kernel_rfl
          · (try dsimp only at hSw); go_simp; (try with_reducible rfl)
          try simp only [Act.put, List.setIfInBounds_toArray, List.set_cons_zero, List.set_cons_succ]
          refine Reg.G_on (o := { dst := some 77, op := Op.move (Operand.tmp 6), type := 3, pos := "law.go:37", after := #[{ on := 2, ground := Ground.guard }], guard := some (2, false) }) (v := ?_) (by rfl) ?_ (fun wS hSw => ?_) ?_
          rotate_left
          · kernel_rfl
          · (try dsimp only at hSw); go_simp; (try with_reducible rfl)
          try simp only [Act.put, List.setIfInBounds_toArray, List.set_cons_zero, List.set_cons_succ]
          refine Reg.G_on (o := { dst := some 78, op := Op.binOp BinOp.gtr 3 (Operand.tmp 76) (Operand.tmp 77) 3, type := 4, pos := "law.go:37", after := #[{ on := 3, ground := Ground.data }, { on := 4, ground := Ground.data }, { on := 2, ground := Ground.guard }], guard := some (2, false) }) (v := ?_) (by rfl) ?_ (fun wS hSw => ?_) ?_
          rotate_left
          · kernel_rfl
          · (try dsimp only at hSw); go_simp; (try with_reducible rfl)
          try simp only [Act.put, List.setIfInBounds_toArray, List.set_cons_zero, List.set_cons_succ]
          refine Reg.G_on (o := { dst := some 79, op := Op.pick (Operand.tmp 75) (Operand.const (Value.bool true)) (Operand.tmp 78), type := 4, pos := "law.go:37", after := #[{ on := 2, ground := Ground.data }, { on := 5, ground := Ground.data }], guard := Option.none }) (v := ?_) (by rfl) ?_ (fun wS hSw => ?_) ?_
          rotate_left
          · kernel_rfl
          · (try dsimp only at hSw); go_simp; (try with_reducible rfl)
          try simp only [Act.put, List.setIfInBounds_toArray, List.set_cons_zero, List.set_cons_succ]
          refine Reg.G_on (o := { dst := some 80, op := Op.move (Operand.tmp 79), type := 4, pos := "law.go:37", after := #[{ on := 6, ground := Ground.data }, { on := 2, ground := Ground.chain }], guard := Option.none }) (v := ?_) (by rfl) ?_ (fun wS hSw => ?_) ?_
          rotate_left
          · kernel_rfl
          · (try dsimp only at hSw); go_simp; (try with_reducible rfl)
          try simp only [Act.put, List.setIfInBounds_toArray, List.set_cons_zero, List.set_cons_succ]
          refine Reg.G_on (o := { dst := some 81, op := Op.move (Operand.tmp 1), type := 55, pos := "law.go:37", after := #[{ on := 7, ground := Ground.guard }], guard := some (7, false) }) (v := ?_) (by rfl) ?_ (fun wS hSw => ?_) ?_
          rotate_left
          · kernel_rfl
          · (try dsimp only at hSw); go_simp; (try with_reducible rfl)
          try simp only [Act.put, List.setIfInBounds_toArray, List.set_cons_zero, List.set_cons_succ]
          refine Reg.G_on (o := { dst := some 82, op := Op.move (Operand.tmp 7), type := 3, pos := "law.go:37", after := #[{ on := 7, ground := Ground.guard }], guard := some (7, false) }) (v := ?_) (by rfl) ?_ (fun wS hSw => ?_) ?_
          rotate_left
          · kernel_rfl
          · (try dsimp only at hSw); go_simp; (try with_reducible rfl)
          try simp only [Act.put, List.setIfInBounds_toArray, List.set_cons_zero, List.set_cons_succ]
          refine Reg.G_on (o := { dst := some 83, op := Op.indexAddr 55 (Operand.tmp 81) (Operand.tmp 82), type := 0, pos := "law.go:37", after := #[{ on := 8, ground := Ground.data }, { on := 9, ground := Ground.data }, { on := 7, ground := Ground.guard }], guard := some (7, false) }) (v := ?_) (by rfl) ?_ (fun wS hSw => ?_) ?_
          rotate_left
          · kernel_rfl
          · (try dsimp only at hSw); go_simp; (try with_reducible rfl)
          try simp only [Act.put, List.setIfInBounds_toArray, List.set_cons_zero, List.set_cons_succ]
          refine Reg.G_on (o := { dst := some 84, op := Op.load 9 (Operand.tmp 83), type := 9, pos := "law.go:37", after := #[{ on := 10, ground := Ground.data }, { on := 7, ground := Ground.guard }], guard := some (7, false) }) (v := ?_) (by rfl) ?_ (fun wS hSw => ?_) ?_
          rotate_left
          · kernel_rfl
          · (try dsimp only at hSw); go_simp; (try with_reducible rfl)
          try simp only [Act.put, List.setIfInBounds_toArray, List.set_cons_zero, List.set_cons_succ]
          refine Reg.G_on (o := { dst := some 85, op := Op.move (Operand.tmp 1), type := 55, pos := "law.go:37", after := #[{ on := 7, ground := Ground.guard }], guard := some (7, false) }) (v := ?_) (by rfl) ?_ (fun wS hSw => ?_) ?_
          rotate_left
          · kernel_rfl
          · (try dsimp only at hSw); go_simp; (try with_reducible rfl)
          try simp only [Act.put, List.setIfInBounds_toArray, List.set_cons_zero, List.set_cons_succ]
          refine Reg.G_on (o := { dst := some 86, op := Op.move (Operand.tmp 6), type := 3, pos := "law.go:37", after := #[{ on := 7, ground := Ground.guard }], guard := some (7, false) }) (v := ?_) (by rfl) ?_ (fun wS hSw => ?_) ?_
          rotate_left
          · kernel_rfl
          · (try dsimp only at hSw); go_simp; (try with_reducible rfl)
          try simp only [Act.put, List.setIfInBounds_toArray, List.set_cons_zero, List.set_cons_succ]
          refine Reg.G_on (o := { dst := some 87, op := Op.indexAddr 55 (Operand.tmp 85) (Operand.tmp 86), type := 0, pos := "law.go:37", after := #[{ on := 12, ground := Ground.data }, { on := 13, ground := Ground.data }, { on := 7, ground := Ground.guard }], guard := some (7, false) }) (v := ?_) (by rfl) ?_ (fun wS hSw => ?_) ?_
          rotate_left
          · kernel_rfl
          · (try dsimp only at hSw); go_simp; (try with_reducible rfl)
          try simp only [Act.put, List.setIfInBounds_toArray, List.set_cons_zero, List.set_cons_succ]
          refine Reg.G_on (o := { dst := some 88, op := Op.load 9 (Operand.tmp 87), type := 9, pos := "law.go:37", after := #[{ on := 14, ground := Ground.data }, { on := 7, ground := Ground.guard }], guard := some (7, false) }) (v := ?_) (by rfl) ?_ (fun wS hSw => ?_) ?_
          rotate_left
          · kernel_rfl
          · (try dsimp only at hSw); go_simp; (try with_reducible rfl)
          try simp only [Act.put, List.setIfInBounds_toArray, List.set_cons_zero, List.set_cons_succ]
          refine Reg.G_on (o := { dst := some 89, op := Op.binOp BinOp.neq 9 (Operand.tmp 84) (Operand.tmp 88) 9, type := 4, pos := "law.go:37", after := #[{ on := 11, ground := Ground.data }, { on := 15, ground := Ground.data }, { on := 7, ground := Ground.guard }], guard := some (7, false) }) (v := ?_) (by rfl) ?_ (fun wS hSw => ?_) ?_
          rotate_left
          · kernel_rfl
          · (try dsimp only at hSw); go_simp; (try with_reducible rfl)
          try simp only [Act.put, List.setIfInBounds_toArray, List.set_cons_zero, List.set_cons_succ]
          refine Reg.G_on (o := { dst := some 90, op := Op.pick (Operand.tmp 80) (Operand.const (Value.bool true)) (Operand.tmp 89), type := 4, pos := "law.go:37", after := #[{ on := 7, ground := Ground.data }, { on := 16, ground := Ground.data }], guard := Option.none }) (v := ?_) (by rfl) ?_ (fun wS hSw => ?_) ?_
          rotate_left
          · kernel_rfl
          · (try dsimp only at hSw); go_simp; (try with_reducible rfl)
          try simp only [Act.put, List.setIfInBounds_toArray, List.set_cons_zero, List.set_cons_succ]
          refine Reg.G_on (o := { dst := some 91, op := Op.move (Operand.tmp 90), type := 4, pos := "law.go:37", after := #[{ on := 17, ground := Ground.data }, { on := 7, ground := Ground.chain }], guard := Option.none }) (v := ?_) (by rfl) ?_ (fun wS hSw => ?_) ?_
          rotate_left
          · kernel_rfl
          · (try dsimp only at hSw); go_simp; (try with_reducible rfl)
          try simp only [Act.put, List.setIfInBounds_toArray, List.set_cons_zero, List.set_cons_succ]
          refine Reg.G_on (o := { dst := some 92, op := Op.move (Operand.tmp 7), type := 3, pos := "law.go:37", after := #[{ on := 18, ground := Ground.guard }], guard := some (18, false) }) (v := ?_) (by rfl) ?_ (fun wS hSw => ?_) ?_
          rotate_left
          · kernel_rfl
          · (try dsimp only at hSw); go_simp; (try with_reducible rfl)
          try simp only [Act.put, List.setIfInBounds_toArray, List.set_cons_zero, List.set_cons_succ]
          refine Reg.G_on (o := { dst := some 93, op := Op.move (Operand.tmp 6), type := 3, pos := "law.go:37", after := #[{ on := 18, ground := Ground.guard }], guard := some (18, false) }) (v := ?_) (by rfl) ?_ (fun wS hSw => ?_) ?_
          rotate_left
          · kernel_rfl
          · (try dsimp only at hSw); go_simp; (try with_reducible rfl)
          try simp only [Act.put, List.setIfInBounds_toArray, List.set_cons_zero, List.set_cons_succ]
          refine Reg.G_on (o := { dst := some 94, op := Op.binOp BinOp.lss 3 (Operand.tmp 92) (Operand.tmp 93) 3, type := 4, pos := "law.go:37", after := #[{ on := 19, ground := Ground.data }, { on := 20, ground := Ground.data }, { on := 18, ground := Ground.guard }], guard := some (18, false) }) (v := ?_) (by rfl) ?_ (fun wS hSw => ?_) ?_
          rotate_left
          · kernel_rfl
          · (try dsimp only at hSw); go_simp; (try with_reducible rfl)
          try simp only [Act.put, List.setIfInBounds_toArray, List.set_cons_zero, List.set_cons_succ]
          refine Reg.G_on (o := { dst := some 95, op := Op.move (Operand.tmp 94), type := 4, pos := "law.go:37", after := #[{ on := 21, ground := Ground.data }, { on := 18, ground := Ground.chain }, { on := 18, ground := Ground.guard }], guard := some (18, false) }) (v := ?_) (by rfl) ?_ (fun wS hSw => ?_) ?_
          rotate_left
          · kernel_rfl
          · (try dsimp only at hSw); go_simp; (try with_reducible rfl)
          try simp only [Act.put, List.setIfInBounds_toArray, List.set_cons_zero, List.set_cons_succ]
          refine Reg.G_off (o := { dst := some 96, op := Op.move (Operand.tmp 1), type := 55, pos := "law.go:37", after := #[{ on := 22, ground := Ground.guard }], guard := some (22, true) }) (by rfl) ?_ ?_
          · kernel_rfl
          try simp only [Act.put, List.setIfInBounds_toArray, List.set_cons_zero, List.set_cons_succ]
          refine Reg.G_skip (o := { dst := some 97, op := Op.call { callee := Callee.value (Operand.func 47), args := #[Operand.tmp 96], argTypes := #[55] }, type := 3, pos := "law.go:37", after := #[{ on := 23, ground := Ground.data }, { on := 22, ground := Ground.chain }, { on := 22, ground := Ground.guard }], guard := some (22, true) }) (by rfl) ?_ (by assumption) ?_
          · kernel_rfl
          try simp only [Act.put, List.setIfInBounds_toArray, List.set_cons_zero, List.set_cons_succ]
          refine Reg.G_off (o := { dst := some 98, op := Op.binOp BinOp.lss 3 (Operand.tmp 97) (Operand.const (Value.int IntKind.i64 0)) 3, type := 4, pos := "law.go:37", after := #[{ on := 24, ground := Ground.data }, { on := 22, ground := Ground.guard }], guard := some (22, true) }) (by rfl) ?_ ?_
          · kernel_rfl
          try simp only [Act.put, List.setIfInBounds_toArray, List.set_cons_zero, List.set_cons_succ]
          refine Reg.G_off (o := { dst := some 99, op := Op.move (Operand.tmp 98), type := 4, pos := "law.go:37", after := #[{ on := 25, ground := Ground.data }, { on := 24, ground := Ground.chain }, { on := 22, ground := Ground.guard }], guard := some (22, true) }) (by rfl) ?_ ?_
          · kernel_rfl
          try simp only [Act.put, List.setIfInBounds_toArray, List.set_cons_zero, List.set_cons_succ]
          refine Reg.G_off (o := { dst := some 100, op := Op.move (Operand.tmp 1), type := 55, pos := "law.go:37", after := #[{ on := 26, ground := Ground.guard }], guard := some (26, false) }) (by rfl) ?_ ?_
          · kernel_rfl
          try simp only [Act.put, List.setIfInBounds_toArray, List.set_cons_zero, List.set_cons_succ]
          refine Reg.G_off (o := { dst := some 102, op := Op.move (Operand.tmp 6), type := 3, pos := "law.go:37", after := #[{ on := 26, ground := Ground.guard }], guard := some (26, false) }) (by rfl) ?_ ?_
          · kernel_rfl
          try simp only [Act.put, List.setIfInBounds_toArray, List.set_cons_zero, List.set_cons_succ]
          refine Reg.G_skip (o := { dst := some 101, op := Op.call { callee := Callee.value (Operand.func 47), args := #[Operand.tmp 100], argTypes := #[55] }, type := 3, pos := "law.go:37", after := #[{ on := 27, ground := Ground.data }, { on := 26, ground := Ground.chain }, { on := 26, ground := Ground.guard }], guard := some (26, false) }) (by rfl) ?_ (by assumption) ?_
          · kernel_rfl
          try simp only [Act.put, List.setIfInBounds_toArray, List.set_cons_zero, List.set_cons_succ]
          refine Reg.G_off (o := { dst := some 103, op := Op.binOp BinOp.gtr 3 (Operand.tmp 101) (Operand.tmp 102) 3, type := 4, pos := "law.go:37", after := #[{ on := 28, ground := Ground.data }, { on := 29, ground := Ground.data }, { on := 26, ground := Ground.guard }], guard := some (26, false) }) (by rfl) ?_ ?_
          · kernel_rfl
          try simp only [Act.put, List.setIfInBounds_toArray, List.set_cons_zero, List.set_cons_succ]
          refine Reg.G_off (o := { dst := some 104, op := Op.pick (Operand.tmp 99) (Operand.const (Value.bool true)) (Operand.tmp 103), type := 4, pos := "law.go:37", after := #[{ on := 26, ground := Ground.data }, { on := 30, ground := Ground.data }, { on := 22, ground := Ground.guard }], guard := some (22, true) }) (by rfl) ?_ ?_
          · kernel_rfl
          try simp only [Act.put, List.setIfInBounds_toArray, List.set_cons_zero, List.set_cons_succ]
          refine Reg.G_on (o := { dst := some 105, op := Op.pick (Operand.tmp 95) (Operand.tmp 104) (Operand.const (Value.bool false)), type := 4, pos := "law.go:37", after := #[{ on := 22, ground := Ground.data }, { on := 31, ground := Ground.data }, { on := 18, ground := Ground.guard }], guard := some (18, false) }) (v := ?_) (by rfl) ?_ (fun wS hSw => ?_) ?_
          rotate_left
          · kernel_rfl
          · (try dsimp only at hSw); go_simp; (try with_reducible rfl)
          try simp only [Act.put, List.setIfInBounds_toArray, List.set_cons_zero, List.set_cons_succ]
          refine Reg.G_on (o := { dst := some 106, op := Op.pick (Operand.tmp 91) (Operand.const (Value.bool true)) (Operand.tmp 105), type := 4, pos := "law.go:37", after := #[{ on := 18, ground := Ground.data }, { on := 32, ground := Ground.data }], guard := Option.none }) (v := ?_) (by rfl) ?_ (fun wS hSw => ?_) ?_
          rotate_left
          · kernel_rfl
          · (try dsimp only at hSw); go_simp; (try with_reducible rfl)
          try simp only [Act.put, List.setIfInBounds_toArray, List.set_cons_zero, List.set_cons_succ]
          refine Reg.G_done ?_
          go_wp2
          go_roundw
          case rel => exact ⟨k + 1, by omega, by go_num, hb.drew⟩
          case measure => simp [intOf]; omega
      · have hstop : ((k : Int) < (l.length : Int) ∧ ¬ ((k : Int) < 300) ∧ ¬ (k < 300)) ∨ ¬ ((k : Int) < (l.length : Int)) := by omega
        clear hk k1 k0
        rcases hstop with ⟨hkt, hk2, hk3⟩ | hkt
        all_goals
          go_wp2_with fail
          refine (awake_walk _).mono ?_
          rintro e w6 ⟨rfl, hb6⟩
          go_wp2
          go_ret
          exact ⟨rfl, below_step hb hb6⟩

end Go.Proofs.Ytfjcgbkoohjmnaa.Name
