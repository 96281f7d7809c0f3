import Derived.Test.YtimalojaiaofkaaSqRingSteps4
set_option linter.unusedVariables false
set_option linter.unusedSimpArgs false
namespace Go.Proofs.Ytimalojaiaofkaa.His
open Go.RowKit Base Sp Flat Go.Proofs.YtimalojaiaofkaaW.PrintWords Go.Shelf Smp
set_option maxHeartbeats 2000000 in
set_option maxRecDepth 20000 in
theorem put_y1 {w : World} {F : Nat → Prop} {v : Value} {xs : List Smp} (h : Row w F v xs) (d s : Int) (x : Smp) (hlen : (xs.length + 1) * 80 ≤ 140737488355328) (hne : ¬ (d ≤ 0 ∧ s ≤ 0 ∧ x.op = 1)) (hd : d ≤ 0) (ho : ¬ x.op = 1) (hs : s ≤ 0) :
    Calls Try.prog 33 #[v, .int .i64 d, .int .i64 s, .agg (cells x).toArray] w fun e w' => ∃ v', e = .returned v' ∧ Row w' (fun k => F k ∨ New w.heap.size w' k) v' (hput (mx0 d) (mx0 s) xs x) ∧ Below w.heap.size w w' := by
  have nb0 := heap_alloc_new w (.cells (cells x).toArray 60)
  have bb0 : Below w.heap.size w (w.alloc (.cells (cells x).toArray 60)) := (Below.refl _ _).alloc (Nat.le_refl _) _
  have o0 : (w.alloc (.cells (cells x).toArray 60)).cell? ⟨w.heap.size, 0, none⟩ = some (.int .i64 x.op) := blk_cell nb0 0
  have HOPc : Hid ((cells x).toArray[0]? = some (.int .i64 x.op)) := Lib.hid rfl
  have HRES := Lib.hid (hput_rg d s xs x hne)
  have HL := Lib.hid hlen
  have HR := Lib.hid h
  have hG0 : 0 ≤ g0 d s xs x ∧ g0 d s xs x ≤ 9223372036854775807 := by
    unfold g0
    repeat' split
    all_goals omega
  obtain ⟨G, hG⟩ : ∃ G, g0 d s xs x = G := ⟨_, rfl⟩
  rw [hG] at HRES hG0
  have HG0 := Lib.hid hG0
  have HG : Hid (G = (xs.length : Int)) := Lib.hid (by rw [← hG]; unfold g0; rw [if_pos ho])
  have hs2 : ¬ 0 < s := by omega
  have hd1 : ¬ 0 < d := by omega
  have HOP := Lib.hid ho
  have q1 : (x.op == 1) = false := beq_eq_false_iff_ne.2 ho
  have q2 : (x.op != 1) = true := bne_iff_ne.2 ho
  generalize hq0 : x.op = q at o0 q1 q2 HOPc
  obtain ⟨A, c, rfl, _, hA⟩ := h.slice
  clear h hlen hne hA hG hG0 ho hq0
  go_enter Try.func33, Try.ntmps33
  go_wp2
  have nb := nb0
  have bb := bb0
  clear nb0 bb0 o0
  go_loopw [9, 10, 11, 12] (fun v9 v10 v11 _ wr => ∃ (i : Nat) (out : List Smp) (goes : Int), v11 = .int .i64 (i : Int) ∧ v10 = .int .i64 goes ∧ i ≤ xs.length ∧ Hid (rg (pp d x) G (xs.take i) = (out, goes)) ∧ Row wr (New (w.heap.size + 1) wr) v9 out ∧ wr.heap[w.heap.size]? = some (.cells (cells x).toArray 60 (0, 0)) ∧ Below w.heap.size w wr) (fun _ _ v11 _ _ => xs.length - (intOf v11).toNat)
  case atStart => exact ⟨0, [], (xs.length : Int), rfl, rfl, Nat.zero_le _, Lib.hid (by rw [List.take_zero]; unfold rg; rw [List.foldl_nil, HG.out]), Row.nil _ _, nb, bb⟩
  case round =>
    clear bb nb
    obtain ⟨i, out, goes, rfl, rfl, hi, hst, hO, hbx, bb⟩ := hrel
    have hgb : Hid (0 ≤ goes ∧ goes ≤ 9223372036854775807) := Lib.hid (by have h := rg_bound (pp d x) G HG0.out.1 (xs.take i); rw [hst.out] at h; have := HG0.out; dsimp only at h; omega)
    have hob : wr.cell? ⟨w.heap.size, 0, none⟩ = some (.int .i64 q) := by rw [blk_cell hbx]; exact HOPc.out
    by_cases hlt : i < xs.length
    · have h0 : (0 : Int) ≤ (i : Int) := by omega
      have hlt1 : (i : Int) < (xs.length : Int) := by omega
      obtain ⟨g, rfl⟩ := Row.addr HR.out hlt
      have hR := HR.out.below bb
      have hrng := row_key hR hlt
      have hrng2 := hR.range hlt
      have hol : Hid (out.length + 1 ≤ xs.length) := Lib.hid (by
        have := (rg_bound (pp d x) G HG0.out.1 (xs.take i)).1
        rw [hst.out, List.length_take] at this
        dsimp only at this
        omega)
      have hwi : wrap64 ((i : Int) + 1) = ((i + 1 : Nat) : Int) := by have := HL.out; unfold wrap64; omega
      have hlt2 := Lib.hid hlt
      have hstep := rg_step (pp d x) G xs i hlt
      rw [hst.out] at hstep
      generalize xs[i] = y at hrng hrng2 hstep
      have hq := fun W => keys_eql y.key x.key (smp_key y) (smp_key x) W
      clear hlt hi hR hst
      cases hp : itk x.key y with
      | true =>
        have hd2 : decide (y.key = x.key) = true := hp
        rw [hd2] at hq
        by_cases hg : 0 < goes
        · have hs2 := Lib.hid (hstep.trans (rgo_go (pp_t hp) hg))
          have hwg : wrap64 (goes - 1) = goes - 1 := by have := hgb.out; unfold wrap64; omega
          clear hstep
          go_wp2_with fail
          try have hd9 := HDX.out
          refine Reg.wp_plan (S := fun w' => w'.rangeAt g (i * 23 + 5) (nums .u8 y.key) ∧ w'.heap[w.heap.size]? = some (.cells (cells x).toArray 60 (0, 0)) ∧ w'.cell? ⟨w.heap.size, 0, none⟩ = some (.int .i64 q)) 18 (.fl 0 (.fl 1 (.fl 2 (.fl 3 (.fl 4 (.fl 5 (.fl 6 (.fl 7 (.fl 8 (.fl 9 (.fl 10 (.fl 11 (.fl 12 (.fl 13 (.fl 14 (.fl 15 (.fl 16 (.fl 17 .done)))))))))))))))))) (by kernel_rfl) (by kernel_rfl) (by kernel_rfl) (by kernel_rfl) (fun _ _ _ d _ h => by cases d <;> exact h) ?_ (fun hHeld => ?_)
          · exact ⟨hrng, hbx, hob⟩
          refine Reg.G_on (o := { dst := some 56, op := Op.move (Operand.tmp 0), type := 56, pos := "ref.go:39", after := #[], guard := Option.none }) (v := ?_) (by rfl) ?_ (fun wS hSw => ?_) ?_
          rotate_left
          · kernel_rfl
          · (try dsimp only at hSw); go_simp; (try with_reducible rfl)
          try simp only [Act.put, List.setIfInBounds_toArray, List.set_cons_zero, List.set_cons_succ]
          refine Reg.G_on (o := { dst := some 57, op := Op.move (Operand.tmp 11), type := 3, pos := "ref.go:39", after := #[], guard := Option.none }) (v := ?_) (by rfl) ?_ (fun wS hSw => ?_) ?_
          rotate_left
          · kernel_rfl
          · (try dsimp only at hSw); go_simp; (try with_reducible rfl)
          try simp only [Act.put, List.setIfInBounds_toArray, List.set_cons_zero, List.set_cons_succ]
          refine Reg.G_on (o := { dst := some 58, op := Op.indexAddr 56 (Operand.tmp 56) (Operand.tmp 57), type := 0, pos := "ref.go:39", after := #[{ on := 0, ground := Ground.data }, { on := 1, ground := Ground.data }], guard := Option.none }) (v := ?_) (by rfl) ?_ (fun wS hSw => ?_) ?_
          rotate_left
          · kernel_rfl
          · (try dsimp only at hSw); go_simp; (try with_reducible rfl)
          try simp only [Act.put, List.setIfInBounds_toArray, List.set_cons_zero, List.set_cons_succ]
          refine Reg.G_on (o := { dst := some 59, op := Op.fieldAddr 60 (Operand.tmp 58) 5, type := 0, pos := "ref.go:39", after := #[{ on := 2, ground := Ground.data }], guard := Option.none }) (v := ?_) (by rfl) ?_ (fun wS hSw => ?_) ?_
          rotate_left
          · kernel_rfl
          · (try dsimp only at hSw); go_simp; (try with_reducible rfl)
          try simp only [Act.put, List.setIfInBounds_toArray, List.set_cons_zero, List.set_cons_succ]
          refine Reg.G_on (o := { dst := some 60, op := Op.load 53 (Operand.tmp 59), type := 53, pos := "ref.go:39", after := #[{ on := 3, ground := Ground.data }], guard := Option.none }) (v := .agg (nums .u8 y.key).toArray) (by rfl) ?_ (fun wS hSw => ?_) ?_
          · kernel_rfl
          · exact load_yields rfl rfl hSw.1 Try.underlying53 rfl (key17 _ (key_len y))
          try simp only [Act.put, List.setIfInBounds_toArray, List.set_cons_zero, List.set_cons_succ]
          refine Reg.G_on (o := { dst := some 61, op := Op.fieldAddr 60 (Operand.tmp 7) 5, type := 0, pos := "ref.go:39", after := #[], guard := Option.none }) (v := ?_) (by rfl) ?_ (fun wS hSw => ?_) ?_
          rotate_left
          · kernel_rfl
          · (try dsimp only at hSw); go_simp; (try with_reducible rfl)
          try simp only [Act.put, List.setIfInBounds_toArray, List.set_cons_zero, List.set_cons_succ]
          refine Reg.G_on (o := { dst := some 62, op := Op.load 53 (Operand.tmp 61), type := 53, pos := "ref.go:39", after := #[{ on := 5, ground := Ground.data }], guard := Option.none }) (v := .agg (nums .u8 x.key).toArray) (by rfl) ?_ (fun wS hSw => ?_) ?_
          · kernel_rfl
          · exact load_yields rfl rfl (box_key hSw.2.1) Try.underlying53 rfl (key17 _ (key_len x))
          try simp only [Act.put, List.setIfInBounds_toArray, List.set_cons_zero, List.set_cons_succ]
          refine Reg.G_on (o := { dst := some 63, op := Op.binOp BinOp.eql 53 (Operand.tmp 60) (Operand.tmp 62) 53, type := 4, pos := "ref.go:39", after := #[{ on := 4, ground := Ground.data }, { on := 6, ground := Ground.data }], guard := Option.none }) (v := .bool true) (by rfl) ?_ (fun wS hSw => ?_) ?_
          · kernel_rfl
          · exact eql_yields rfl rfl rfl gd_key (hq _)
          try simp only [Act.put, List.setIfInBounds_toArray, List.set_cons_zero, List.set_cons_succ]
          refine Reg.G_on (o := { dst := some 64, op := Op.move (Operand.tmp 63), type := 4, pos := "ref.go:39", after := #[{ on := 7, ground := Ground.data }], guard := Option.none }) (v := ?_) (by rfl) ?_ (fun wS hSw => ?_) ?_
          rotate_left
          · kernel_rfl
          · (try dsimp only at hSw); go_simp; (try with_reducible rfl)
          try simp only [Act.put, List.setIfInBounds_toArray, List.set_cons_zero, List.set_cons_succ]
          refine Reg.G_off (o := { dst := some 65, op := Op.move (Operand.tmp 1), type := 3, pos := "ref.go:39", after := #[{ on := 8, ground := Ground.guard }], guard := some (8, false) }) (by rfl) ?_ ?_
          · kernel_rfl
          try simp only [Act.put, List.setIfInBounds_toArray, List.set_cons_zero, List.set_cons_succ]
          refine Reg.G_off (o := { dst := some 66, op := Op.binOp BinOp.leq 3 (Operand.tmp 65) (Operand.const (Value.int IntKind.i64 0)) 3, type := 4, pos := "ref.go:39", after := #[{ on := 9, ground := Ground.data }, { on := 8, ground := Ground.guard }], guard := some (8, false) }) (by rfl) ?_ ?_
          · kernel_rfl
          try simp only [Act.put, List.setIfInBounds_toArray, List.set_cons_zero, List.set_cons_succ]
          refine Reg.G_off (o := { dst := some 67, op := Op.move (Operand.tmp 66), type := 4, pos := "ref.go:39", after := #[{ on := 10, ground := Ground.data }, { on := 8, ground := Ground.chain }, { on := 8, ground := Ground.guard }], guard := some (8, false) }) (by rfl) ?_ ?_
          · kernel_rfl
          try simp only [Act.put, List.setIfInBounds_toArray, List.set_cons_zero, List.set_cons_succ]
          refine Reg.G_off (o := { dst := some 68, op := Op.fieldAddr 60 (Operand.tmp 7) 0, type := 0, pos := "ref.go:39", after := #[{ on := 11, ground := Ground.guard }], guard := some (11, true) }) (by rfl) ?_ ?_
          · kernel_rfl
          try simp only [Act.put, List.setIfInBounds_toArray, List.set_cons_zero, List.set_cons_succ]
          refine Reg.G_off (o := { dst := some 69, op := Op.load 3 (Operand.tmp 68), type := 3, pos := "ref.go:39", after := #[{ on := 12, ground := Ground.data }, { on := 11, ground := Ground.guard }], guard := some (11, true) }) (by rfl) ?_ ?_
          · kernel_rfl
          try simp only [Act.put, List.setIfInBounds_toArray, List.set_cons_zero, List.set_cons_succ]
          refine Reg.G_off (o := { dst := some 70, op := Op.binOp BinOp.eql 3 (Operand.tmp 69) (Operand.const (Value.int IntKind.i64 1)) 3, type := 4, pos := "ref.go:39", after := #[{ on := 13, ground := Ground.data }, { on := 11, ground := Ground.guard }], guard := some (11, true) }) (by rfl) ?_ ?_
          · kernel_rfl
          try simp only [Act.put, List.setIfInBounds_toArray, List.set_cons_zero, List.set_cons_succ]
          refine Reg.G_off (o := { dst := some 71, op := Op.pick (Operand.tmp 67) (Operand.tmp 70) (Operand.const (Value.bool false)), type := 4, pos := "ref.go:39", after := #[{ on := 11, ground := Ground.data }, { on := 14, ground := Ground.data }, { on := 8, ground := Ground.guard }], guard := some (8, false) }) (by rfl) ?_ ?_
          · kernel_rfl
          try simp only [Act.put, List.setIfInBounds_toArray, List.set_cons_zero, List.set_cons_succ]
          refine Reg.G_on (o := { dst := some 72, op := Op.pick (Operand.tmp 64) (Operand.const (Value.bool true)) (Operand.tmp 71), type := 4, pos := "ref.go:39", after := #[{ on := 8, ground := Ground.data }, { on := 15, ground := Ground.data }], guard := Option.none }) (v := ?_) (by rfl) ?_ (fun wS hSw => ?_) ?_
          rotate_left
          · kernel_rfl
          · (try dsimp only at hSw); go_simp; (try with_reducible rfl)
          try simp only [Act.put, List.setIfInBounds_toArray, List.set_cons_zero, List.set_cons_succ]
          refine Reg.G_on (o := { dst := some 12, op := Op.assign (Operand.tmp 72), type := 4, pos := "ref.go:39", after := #[{ on := 16, ground := Ground.data }, { on := 11, ground := Ground.chain }, { on := 0, ground := Ground.phase }, { on := 1, ground := Ground.phase }, { on := 2, ground := Ground.phase }, { on := 3, ground := Ground.phase }, { on := 4, ground := Ground.phase }, { on := 5, ground := Ground.phase }, { on := 6, ground := Ground.phase }, { on := 7, ground := Ground.phase }, { on := 8, ground := Ground.phase }, { on := 9, ground := Ground.phase }, { on := 10, ground := Ground.phase }, { on := 11, ground := Ground.phase }, { on := 12, ground := Ground.phase }, { on := 13, ground := Ground.phase }, { on := 14, ground := Ground.phase }, { on := 15, ground := Ground.phase }, { on := 16, ground := Ground.phase }], guard := Option.none }) (v := ?_) (by rfl) ?_ (fun wS hSw => ?_) ?_
          rotate_left
          · kernel_rfl
          · (try dsimp only at hSw); go_simp; (try with_reducible rfl)
          try simp only [Act.put, List.setIfInBounds_toArray, List.set_cons_zero, List.set_cons_succ]
          refine Reg.G_done ?_
          clear hHeld
          go_wp2
          rw [hwi, hwg]
          exact ⟨⟨i + 1, out, goes - 1, rfl, rfl, hlt2.out, hs2, hO, hbx, bb.drew⟩, meas _ _ hlt2.out⟩
        · have hs2 := Lib.hid (hstep.trans (rgo_zero hg))
          clear hstep
          have HO := hO.drew
          obtain ⟨v7, w7, hrun, r7, g7, s7⟩ := HO.append (fun k hk => hk.2) y (by have := hol.out; have := HL.out; omega) 56
          have hown := HO.own
          have hbx7 := blk_grown (w := wr.drew) hbx g7 (fun e => by have := (hown _ e.symm).1.1; omega)
          have HX : Hid (Row w7 (New (w.heap.size + 1) w7) v7 (out ++ [y]) ∧ w7.heap[w.heap.size]? = some (.cells (cells x).toArray 60 (0, 0)) ∧ Below w.heap.size w w7) := Lib.hid ⟨Row.news r7 (blk_lt hbx) (Nat.le_of_lt s7), hbx7, bb.drew.grown g7 (show w.heap.size ≤ wr.drew.heap.size from bb.size) (fun k hk => by have := (hown k hk).1.1; omega)⟩
          obtain ⟨A6, c6, rfl, _, _⟩ := HO.slice
          clear r7 g7 s7 hown hO HO bb hbx7
          go_wp2_with fail
          try have hd9 := HDX.out
          refine Reg.wp_plan (S := fun w' => w'.rangeAt g (i * 23 + 5) (nums .u8 y.key) ∧ w'.heap[w.heap.size]? = some (.cells (cells x).toArray 60 (0, 0)) ∧ w'.cell? ⟨w.heap.size, 0, none⟩ = some (.int .i64 q)) 18 (.fl 0 (.fl 1 (.fl 2 (.fl 3 (.fl 4 (.fl 5 (.fl 6 (.fl 7 (.fl 8 (.fl 9 (.fl 10 (.fl 11 (.fl 12 (.fl 13 (.fl 14 (.fl 15 (.fl 16 (.fl 17 .done)))))))))))))))))) (by kernel_rfl) (by kernel_rfl) (by kernel_rfl) (by kernel_rfl) (fun _ _ _ d _ h => by cases d <;> exact h) ?_ (fun hHeld => ?_)
          · exact ⟨hrng, hbx, hob⟩
          refine Reg.G_on (o := { dst := some 56, op := Op.move (Operand.tmp 0), type := 56, pos := "ref.go:39", after := #[], guard := Option.none }) (v := ?_) (by rfl) ?_ (fun wS hSw => ?_) ?_
          rotate_left
          · kernel_rfl
          · (try dsimp only at hSw); go_simp; (try with_reducible rfl)
          try simp only [Act.put, List.setIfInBounds_toArray, List.set_cons_zero, List.set_cons_succ]
          refine Reg.G_on (o := { dst := some 57, op := Op.move (Operand.tmp 11), type := 3, pos := "ref.go:39", after := #[], guard := Option.none }) (v := ?_) (by rfl) ?_ (fun wS hSw => ?_) ?_
          rotate_left
          · kernel_rfl
          · (try dsimp only at hSw); go_simp; (try with_reducible rfl)
          try simp only [Act.put, List.setIfInBounds_toArray, List.set_cons_zero, List.set_cons_succ]
          refine Reg.G_on (o := { dst := some 58, op := Op.indexAddr 56 (Operand.tmp 56) (Operand.tmp 57), type := 0, pos := "ref.go:39", after := #[{ on := 0, ground := Ground.data }, { on := 1, ground := Ground.data }], guard := Option.none }) (v := ?_) (by rfl) ?_ (fun wS hSw => ?_) ?_
          rotate_left
          · kernel_rfl
          · (try dsimp only at hSw); go_simp; (try with_reducible rfl)
          try simp only [Act.put, List.setIfInBounds_toArray, List.set_cons_zero, List.set_cons_succ]
          refine Reg.G_on (o := { dst := some 59, op := Op.fieldAddr 60 (Operand.tmp 58) 5, type := 0, pos := "ref.go:39", after := #[{ on := 2, ground := Ground.data }], guard := Option.none }) (v := ?_) (by rfl) ?_ (fun wS hSw => ?_) ?_
          rotate_left
          · kernel_rfl
          · (try dsimp only at hSw); go_simp; (try with_reducible rfl)
          try simp only [Act.put, List.setIfInBounds_toArray, List.set_cons_zero, List.set_cons_succ]
          refine Reg.G_on (o := { dst := some 60, op := Op.load 53 (Operand.tmp 59), type := 53, pos := "ref.go:39", after := #[{ on := 3, ground := Ground.data }], guard := Option.none }) (v := .agg (nums .u8 y.key).toArray) (by rfl) ?_ (fun wS hSw => ?_) ?_
          · kernel_rfl
          · exact load_yields rfl rfl hSw.1 Try.underlying53 rfl (key17 _ (key_len y))
          try simp only [Act.put, List.setIfInBounds_toArray, List.set_cons_zero, List.set_cons_succ]
          refine Reg.G_on (o := { dst := some 61, op := Op.fieldAddr 60 (Operand.tmp 7) 5, type := 0, pos := "ref.go:39", after := #[], guard := Option.none }) (v := ?_) (by rfl) ?_ (fun wS hSw => ?_) ?_
          rotate_left
          · kernel_rfl
          · (try dsimp only at hSw); go_simp; (try with_reducible rfl)
          try simp only [Act.put, List.setIfInBounds_toArray, List.set_cons_zero, List.set_cons_succ]
          refine Reg.G_on (o := { dst := some 62, op := Op.load 53 (Operand.tmp 61), type := 53, pos := "ref.go:39", after := #[{ on := 5, ground := Ground.data }], guard := Option.none }) (v := .agg (nums .u8 x.key).toArray) (by rfl) ?_ (fun wS hSw => ?_) ?_
          · kernel_rfl
          · exact load_yields rfl rfl (box_key hSw.2.1) Try.underlying53 rfl (key17 _ (key_len x))
          try simp only [Act.put, List.setIfInBounds_toArray, List.set_cons_zero, List.set_cons_succ]
          refine Reg.G_on (o := { dst := some 63, op := Op.binOp BinOp.eql 53 (Operand.tmp 60) (Operand.tmp 62) 53, type := 4, pos := "ref.go:39", after := #[{ on := 4, ground := Ground.data }, { on := 6, ground := Ground.data }], guard := Option.none }) (v := .bool true) (by rfl) ?_ (fun wS hSw => ?_) ?_
          · kernel_rfl
          · exact eql_yields rfl rfl rfl gd_key (hq _)
          try simp only [Act.put, List.setIfInBounds_toArray, List.set_cons_zero, List.set_cons_succ]
          refine Reg.G_on (o := { dst := some 64, op := Op.move (Operand.tmp 63), type := 4, pos := "ref.go:39", after := #[{ on := 7, ground := Ground.data }], guard := Option.none }) (v := ?_) (by rfl) ?_ (fun wS hSw => ?_) ?_
          rotate_left
          · kernel_rfl
          · (try dsimp only at hSw); go_simp; (try with_reducible rfl)
          try simp only [Act.put, List.setIfInBounds_toArray, List.set_cons_zero, List.set_cons_succ]
          refine Reg.G_off (o := { dst := some 65, op := Op.move (Operand.tmp 1), type := 3, pos := "ref.go:39", after := #[{ on := 8, ground := Ground.guard }], guard := some (8, false) }) (by rfl) ?_ ?_
          · kernel_rfl
          try simp only [Act.put, List.setIfInBounds_toArray, List.set_cons_zero, List.set_cons_succ]
          refine Reg.G_off (o := { dst := some 66, op := Op.binOp BinOp.leq 3 (Operand.tmp 65) (Operand.const (Value.int IntKind.i64 0)) 3, type := 4, pos := "ref.go:39", after := #[{ on := 9, ground := Ground.data }, { on := 8, ground := Ground.guard }], guard := some (8, false) }) (by rfl) ?_ ?_
          · kernel_rfl
          try simp only [Act.put, List.setIfInBounds_toArray, List.set_cons_zero, List.set_cons_succ]
          refine Reg.G_off (o := { dst := some 67, op := Op.move (Operand.tmp 66), type := 4, pos := "ref.go:39", after := #[{ on := 10, ground := Ground.data }, { on := 8, ground := Ground.chain }, { on := 8, ground := Ground.guard }], guard := some (8, false) }) (by rfl) ?_ ?_
          · kernel_rfl
          try simp only [Act.put, List.setIfInBounds_toArray, List.set_cons_zero, List.set_cons_succ]
          refine Reg.G_off (o := { dst := some 68, op := Op.fieldAddr 60 (Operand.tmp 7) 0, type := 0, pos := "ref.go:39", after := #[{ on := 11, ground := Ground.guard }], guard := some (11, true) }) (by rfl) ?_ ?_
          · kernel_rfl
          try simp only [Act.put, List.setIfInBounds_toArray, List.set_cons_zero, List.set_cons_succ]
          refine Reg.G_off (o := { dst := some 69, op := Op.load 3 (Operand.tmp 68), type := 3, pos := "ref.go:39", after := #[{ on := 12, ground := Ground.data }, { on := 11, ground := Ground.guard }], guard := some (11, true) }) (by rfl) ?_ ?_
          · kernel_rfl
          try simp only [Act.put, List.setIfInBounds_toArray, List.set_cons_zero, List.set_cons_succ]
          refine Reg.G_off (o := { dst := some 70, op := Op.binOp BinOp.eql 3 (Operand.tmp 69) (Operand.const (Value.int IntKind.i64 1)) 3, type := 4, pos := "ref.go:39", after := #[{ on := 13, ground := Ground.data }, { on := 11, ground := Ground.guard }], guard := some (11, true) }) (by rfl) ?_ ?_
          · kernel_rfl
          try simp only [Act.put, List.setIfInBounds_toArray, List.set_cons_zero, List.set_cons_succ]
          refine Reg.G_off (o := { dst := some 71, op := Op.pick (Operand.tmp 67) (Operand.tmp 70) (Operand.const (Value.bool false)), type := 4, pos := "ref.go:39", after := #[{ on := 11, ground := Ground.data }, { on := 14, ground := Ground.data }, { on := 8, ground := Ground.guard }], guard := some (8, false) }) (by rfl) ?_ ?_
          · kernel_rfl
          try simp only [Act.put, List.setIfInBounds_toArray, List.set_cons_zero, List.set_cons_succ]
          refine Reg.G_on (o := { dst := some 72, op := Op.pick (Operand.tmp 64) (Operand.const (Value.bool true)) (Operand.tmp 71), type := 4, pos := "ref.go:39", after := #[{ on := 8, ground := Ground.data }, { on := 15, ground := Ground.data }], guard := Option.none }) (v := ?_) (by rfl) ?_ (fun wS hSw => ?_) ?_
          rotate_left
          · kernel_rfl
          · (try dsimp only at hSw); go_simp; (try with_reducible rfl)
          try simp only [Act.put, List.setIfInBounds_toArray, List.set_cons_zero, List.set_cons_succ]
          refine Reg.G_on (o := { dst := some 12, op := Op.assign (Operand.tmp 72), type := 4, pos := "ref.go:39", after := #[{ on := 16, ground := Ground.data }, { on := 11, ground := Ground.chain }, { on := 0, ground := Ground.phase }, { on := 1, ground := Ground.phase }, { on := 2, ground := Ground.phase }, { on := 3, ground := Ground.phase }, { on := 4, ground := Ground.phase }, { on := 5, ground := Ground.phase }, { on := 6, ground := Ground.phase }, { on := 7, ground := Ground.phase }, { on := 8, ground := Ground.phase }, { on := 9, ground := Ground.phase }, { on := 10, ground := Ground.phase }, { on := 11, ground := Ground.phase }, { on := 12, ground := Ground.phase }, { on := 13, ground := Ground.phase }, { on := 14, ground := Ground.phase }, { on := 15, ground := Ground.phase }, { on := 16, ground := Ground.phase }], guard := Option.none }) (v := ?_) (by rfl) ?_ (fun wS hSw => ?_) ?_
          rotate_left
          · kernel_rfl
          · (try dsimp only at hSw); go_simp; (try with_reducible rfl)
          try simp only [Act.put, List.setIfInBounds_toArray, List.set_cons_zero, List.set_cons_succ]
          refine Reg.G_done ?_
          clear hHeld
          go_wp2_with (first | ((with_reducible refine gate_dst (N := 84) rfl ?_); refine wpList_load_mid rfl 60 (.tmp 83) rfl g (i * 23) rfl (cells y) _ hrng2 Try.underlying60 rfl (size23 y) ?_) | ((with_reducible refine gate_dst (N := 85) rfl ?_); refine build1L (x := y) rfl rfl rfl ?_) | (at_builtin; refine wp_append rfl (.tmp 80) (.tmp 85) 56 rfl rfl rfl hrun ?_))
          rw [hwi]
          exact ⟨⟨i + 1, out ++ [y], goes, rfl, rfl, hlt2.out, hs2, HX.out.1, HX.out.2.1, HX.out.2.2⟩, meas _ _ hlt2.out⟩
      | false =>
        have hd2 : decide (y.key = x.key) = false := hp
        rw [hd2] at hq
        have hpf := pp_f3 (d := d) (x := x) (y := y) hp HOP.out
        have hs2 := Lib.hid (hstep.trans (rgo_no hpf))
        clear hstep
        have HO := hO.drew
        obtain ⟨v7, w7, hrun, r7, g7, s7⟩ := HO.append (fun k hk => hk.2) y (by have := hol.out; have := HL.out; omega) 56
        have hown := HO.own
        have hbx7 := blk_grown (w := wr.drew) hbx g7 (fun e => by have := (hown _ e.symm).1.1; omega)
        have HX : Hid (Row w7 (New (w.heap.size + 1) w7) v7 (out ++ [y]) ∧ w7.heap[w.heap.size]? = some (.cells (cells x).toArray 60 (0, 0)) ∧ Below w.heap.size w w7) := Lib.hid ⟨Row.news r7 (blk_lt hbx) (Nat.le_of_lt s7), hbx7, bb.drew.grown g7 (show w.heap.size ≤ wr.drew.heap.size from bb.size) (fun k hk => by have := (hown k hk).1.1; omega)⟩
        obtain ⟨A6, c6, rfl, _, _⟩ := HO.slice
        clear r7 g7 s7 hown hO HO bb hbx7
        go_wp2_with fail
        try have hd9 := HDX.out
        refine Reg.wp_plan (S := fun w' => w'.rangeAt g (i * 23 + 5) (nums .u8 y.key) ∧ w'.heap[w.heap.size]? = some (.cells (cells x).toArray 60 (0, 0)) ∧ w'.cell? ⟨w.heap.size, 0, none⟩ = some (.int .i64 q)) 18 (.fl 0 (.fl 1 (.fl 2 (.fl 3 (.fl 4 (.fl 5 (.fl 6 (.fl 7 (.fl 8 (.fl 9 (.fl 10 (.fl 11 (.fl 12 (.fl 13 (.fl 14 (.fl 15 (.fl 16 (.fl 17 .done)))))))))))))))))) (by kernel_rfl) (by kernel_rfl) (by kernel_rfl) (by kernel_rfl) (fun _ _ _ d _ h => by cases d <;> exact h) ?_ (fun hHeld => ?_)
        · exact ⟨hrng, hbx, hob⟩
        refine Reg.G_on (o := { dst := some 56, op := Op.move (Operand.tmp 0), type := 56, pos := "ref.go:39", after := #[], guard := Option.none }) (v := ?_) (by rfl) ?_ (fun wS hSw => ?_) ?_
        rotate_left
        · kernel_rfl
        · (try dsimp only at hSw); go_simp; (try with_reducible rfl)
        try simp only [Act.put, List.setIfInBounds_toArray, List.set_cons_zero, List.set_cons_succ]
        refine Reg.G_on (o := { dst := some 57, op := Op.move (Operand.tmp 11), type := 3, pos := "ref.go:39", after := #[], guard := Option.none }) (v := ?_) (by rfl) ?_ (fun wS hSw => ?_) ?_
        rotate_left
        · kernel_rfl
        · (try dsimp only at hSw); go_simp; (try with_reducible rfl)
        try simp only [Act.put, List.setIfInBounds_toArray, List.set_cons_zero, List.set_cons_succ]
        refine Reg.G_on (o := { dst := some 58, op := Op.indexAddr 56 (Operand.tmp 56) (Operand.tmp 57), type := 0, pos := "ref.go:39", after := #[{ on := 0, ground := Ground.data }, { on := 1, ground := Ground.data }], guard := Option.none }) (v := ?_) (by rfl) ?_ (fun wS hSw => ?_) ?_
        rotate_left
        · kernel_rfl
        · (try dsimp only at hSw); go_simp; (try with_reducible rfl)
        try simp only [Act.put, List.setIfInBounds_toArray, List.set_cons_zero, List.set_cons_succ]
        refine Reg.G_on (o := { dst := some 59, op := Op.fieldAddr 60 (Operand.tmp 58) 5, type := 0, pos := "ref.go:39", after := #[{ on := 2, ground := Ground.data }], guard := Option.none }) (v := ?_) (by rfl) ?_ (fun wS hSw => ?_) ?_
        rotate_left
        · kernel_rfl
        · (try dsimp only at hSw); go_simp; (try with_reducible rfl)
        try simp only [Act.put, List.setIfInBounds_toArray, List.set_cons_zero, List.set_cons_succ]
        refine Reg.G_on (o := { dst := some 60, op := Op.load 53 (Operand.tmp 59), type := 53, pos := "ref.go:39", after := #[{ on := 3, ground := Ground.data }], guard := Option.none }) (v := .agg (nums .u8 y.key).toArray) (by rfl) ?_ (fun wS hSw => ?_) ?_
        · kernel_rfl
        · exact load_yields rfl rfl hSw.1 Try.underlying53 rfl (key17 _ (key_len y))
        try simp only [Act.put, List.setIfInBounds_toArray, List.set_cons_zero, List.set_cons_succ]
        refine Reg.G_on (o := { dst := some 61, op := Op.fieldAddr 60 (Operand.tmp 7) 5, type := 0, pos := "ref.go:39", after := #[], guard := Option.none }) (v := ?_) (by rfl) ?_ (fun wS hSw => ?_) ?_
        rotate_left
        · kernel_rfl
        · (try dsimp only at hSw); go_simp; (try with_reducible rfl)
        try simp only [Act.put, List.setIfInBounds_toArray, List.set_cons_zero, List.set_cons_succ]
        refine Reg.G_on (o := { dst := some 62, op := Op.load 53 (Operand.tmp 61), type := 53, pos := "ref.go:39", after := #[{ on := 5, ground := Ground.data }], guard := Option.none }) (v := .agg (nums .u8 x.key).toArray) (by rfl) ?_ (fun wS hSw => ?_) ?_
        · kernel_rfl
        · exact load_yields rfl rfl (box_key hSw.2.1) Try.underlying53 rfl (key17 _ (key_len x))
        try simp only [Act.put, List.setIfInBounds_toArray, List.set_cons_zero, List.set_cons_succ]
        refine Reg.G_on (o := { dst := some 63, op := Op.binOp BinOp.eql 53 (Operand.tmp 60) (Operand.tmp 62) 53, type := 4, pos := "ref.go:39", after := #[{ on := 4, ground := Ground.data }, { on := 6, ground := Ground.data }], guard := Option.none }) (v := .bool false) (by rfl) ?_ (fun wS hSw => ?_) ?_
        · kernel_rfl
        · exact eql_yields rfl rfl rfl gd_key (hq _)
        try simp only [Act.put, List.setIfInBounds_toArray, List.set_cons_zero, List.set_cons_succ]
        refine Reg.G_on (o := { dst := some 64, op := Op.move (Operand.tmp 63), type := 4, pos := "ref.go:39", after := #[{ on := 7, ground := Ground.data }], guard := Option.none }) (v := ?_) (by rfl) ?_ (fun wS hSw => ?_) ?_
        rotate_left
        · kernel_rfl
        · (try dsimp only at hSw); go_simp; (try with_reducible rfl)
        try simp only [Act.put, List.setIfInBounds_toArray, List.set_cons_zero, List.set_cons_succ]
        refine Reg.G_on (o := { dst := some 65, op := Op.move (Operand.tmp 1), type := 3, pos := "ref.go:39", after := #[{ on := 8, ground := Ground.guard }], guard := some (8, false) }) (v := ?_) (by rfl) ?_ (fun wS hSw => ?_) ?_
        rotate_left
        · kernel_rfl
        · (try dsimp only at hSw); go_simp; (try with_reducible rfl)
        try simp only [Act.put, List.setIfInBounds_toArray, List.set_cons_zero, List.set_cons_succ]
        refine Reg.G_on (o := { dst := some 66, op := Op.binOp BinOp.leq 3 (Operand.tmp 65) (Operand.const (Value.int IntKind.i64 0)) 3, type := 4, pos := "ref.go:39", after := #[{ on := 9, ground := Ground.data }, { on := 8, ground := Ground.guard }], guard := some (8, false) }) (v := ?_) (by rfl) ?_ (fun wS hSw => ?_) ?_
        rotate_left
        · kernel_rfl
        · (try dsimp only at hSw); go_simp; (try with_reducible rfl)
        try simp only [Act.put, List.setIfInBounds_toArray, List.set_cons_zero, List.set_cons_succ]
        refine Reg.G_on (o := { dst := some 67, op := Op.move (Operand.tmp 66), type := 4, pos := "ref.go:39", after := #[{ on := 10, ground := Ground.data }, { on := 8, ground := Ground.chain }, { on := 8, ground := Ground.guard }], guard := some (8, false) }) (v := ?_) (by rfl) ?_ (fun wS hSw => ?_) ?_
        rotate_left
        · kernel_rfl
        · (try dsimp only at hSw); go_simp; (try with_reducible rfl)
        try simp only [Act.put, List.setIfInBounds_toArray, List.set_cons_zero, List.set_cons_succ]
        refine Reg.G_on (o := { dst := some 68, op := Op.fieldAddr 60 (Operand.tmp 7) 0, type := 0, pos := "ref.go:39", after := #[{ on := 11, ground := Ground.guard }], guard := some (11, true) }) (v := ?_) (by rfl) ?_ (fun wS hSw => ?_) ?_
        rotate_left
        · kernel_rfl
        · (try dsimp only at hSw); go_simp; (try with_reducible rfl)
        try simp only [Act.put, List.setIfInBounds_toArray, List.set_cons_zero, List.set_cons_succ]
        refine Reg.G_on (o := { dst := some 69, op := Op.load 3 (Operand.tmp 68), type := 3, pos := "ref.go:39", after := #[{ on := 12, ground := Ground.data }, { on := 11, ground := Ground.guard }], guard := some (11, true) }) (v := ?_) (by rfl) ?_ (fun wS hSw => ?_) ?_
        rotate_left
        · kernel_rfl
        · (try dsimp only at hSw); go_simp; (try with_reducible rfl)
        try simp only [Act.put, List.setIfInBounds_toArray, List.set_cons_zero, List.set_cons_succ]
        refine Reg.G_on (o := { dst := some 70, op := Op.binOp BinOp.eql 3 (Operand.tmp 69) (Operand.const (Value.int IntKind.i64 1)) 3, type := 4, pos := "ref.go:39", after := #[{ on := 13, ground := Ground.data }, { on := 11, ground := Ground.guard }], guard := some (11, true) }) (v := ?_) (by rfl) ?_ (fun wS hSw => ?_) ?_
        rotate_left
        · kernel_rfl
        · (try dsimp only at hSw); go_simp; (try with_reducible rfl)
        try simp only [Act.put, List.setIfInBounds_toArray, List.set_cons_zero, List.set_cons_succ]
        refine Reg.G_on (o := { dst := some 71, op := Op.pick (Operand.tmp 67) (Operand.tmp 70) (Operand.const (Value.bool false)), type := 4, pos := "ref.go:39", after := #[{ on := 11, ground := Ground.data }, { on := 14, ground := Ground.data }, { on := 8, ground := Ground.guard }], guard := some (8, false) }) (v := ?_) (by rfl) ?_ (fun wS hSw => ?_) ?_
        rotate_left
        · kernel_rfl
        · (try dsimp only at hSw); go_simp; (try with_reducible rfl)
        try simp only [Act.put, List.setIfInBounds_toArray, List.set_cons_zero, List.set_cons_succ]
        refine Reg.G_on (o := { dst := some 72, op := Op.pick (Operand.tmp 64) (Operand.const (Value.bool true)) (Operand.tmp 71), type := 4, pos := "ref.go:39", after := #[{ on := 8, ground := Ground.data }, { on := 15, ground := Ground.data }], guard := Option.none }) (v := ?_) (by rfl) ?_ (fun wS hSw => ?_) ?_
        rotate_left
        · kernel_rfl
        · (try dsimp only at hSw); go_simp; (try with_reducible rfl)
        try simp only [Act.put, List.setIfInBounds_toArray, List.set_cons_zero, List.set_cons_succ]
        refine Reg.G_on (o := { dst := some 12, op := Op.assign (Operand.tmp 72), type := 4, pos := "ref.go:39", after := #[{ on := 16, ground := Ground.data }, { on := 11, ground := Ground.chain }, { on := 0, ground := Ground.phase }, { on := 1, ground := Ground.phase }, { on := 2, ground := Ground.phase }, { on := 3, ground := Ground.phase }, { on := 4, ground := Ground.phase }, { on := 5, ground := Ground.phase }, { on := 6, ground := Ground.phase }, { on := 7, ground := Ground.phase }, { on := 8, ground := Ground.phase }, { on := 9, ground := Ground.phase }, { on := 10, ground := Ground.phase }, { on := 11, ground := Ground.phase }, { on := 12, ground := Ground.phase }, { on := 13, ground := Ground.phase }, { on := 14, ground := Ground.phase }, { on := 15, ground := Ground.phase }, { on := 16, ground := Ground.phase }], guard := Option.none }) (v := ?_) (by rfl) ?_ (fun wS hSw => ?_) ?_
        rotate_left
        · kernel_rfl
        · (try dsimp only at hSw); go_simp; (try with_reducible rfl)
        try simp only [Act.put, List.setIfInBounds_toArray, List.set_cons_zero, List.set_cons_succ]
        refine Reg.G_done ?_
        clear hHeld
        go_wp2_with (first | ((with_reducible refine gate_dst (N := 84) rfl ?_); refine wpList_load_mid rfl 60 (.tmp 83) rfl g (i * 23) rfl (cells y) _ hrng2 Try.underlying60 rfl (size23 y) ?_) | ((with_reducible refine gate_dst (N := 85) rfl ?_); refine build1L (x := y) rfl rfl rfl ?_) | (at_builtin; refine wp_append rfl (.tmp 80) (.tmp 85) 56 rfl rfl rfl hrun ?_))
        rw [hwi]
        exact ⟨⟨i + 1, out ++ [y], goes, rfl, rfl, hlt2.out, hs2, HX.out.1, HX.out.2.1, HX.out.2.2⟩, meas _ _ hlt2.out⟩
    · have hlt1 : ¬ (i : Int) < (xs.length : Int) := by omega
      have hres : Hid ((rg (pp d x) G xs).1 = out) := Lib.hid (by rw [← List.take_of_length_le (show xs.length ≤ i by omega), hst.out])
      have hol2 : Hid (out.length ≤ xs.length) := Lib.hid (by rw [← hres.out]; exact (rg_bound (pp d x) G HG0.out.1 xs).1)
      clear hlt hi hst
      have HX : Hid (Row wr (fun k => F k ∨ New w.heap.size wr k) u9 (hput (mx0 d) (mx0 s) xs x) ∧ Below w.heap.size w wr) := Lib.hid ⟨by
        rw [HRES.out, hres.out, if_neg HOP.out, List.append_nil]
        exact hO.mono (fun k hk => .inr ⟨by have := hk.1; omega, hk.2⟩), bb⟩
      clear hO bb
      go_wp2
      go_ret
      exact ⟨_, rfl, HX.out.1, HX.out.2⟩
set_option maxHeartbeats 2000000 in
set_option maxRecDepth 20000 in
theorem put_y2 {w : World} {F : Nat → Prop} {v : Value} {xs : List Smp} (h : Row w F v xs) (d s : Int) (x : Smp) (hlen : (xs.length + 1) * 80 ≤ 140737488355328) (hne : ¬ (d ≤ 0 ∧ s ≤ 0 ∧ x.op = 1)) (hd : d ≤ 0) (ho : ¬ x.op = 1) (hs : ¬ s ≤ 0) (hl : s ≤ (xs.length : Int)) :
    Calls Try.prog 33 #[v, .int .i64 d, .int .i64 s, .agg (cells x).toArray] w fun e w' => ∃ v', e = .returned v' ∧ Row w' (fun k => F k ∨ New w.heap.size w' k) v' (hput (mx0 d) (mx0 s) xs x) ∧ Below w.heap.size w w' := by
  have nb0 := heap_alloc_new w (.cells (cells x).toArray 60)
  have bb0 : Below w.heap.size w (w.alloc (.cells (cells x).toArray 60)) := (Below.refl _ _).alloc (Nat.le_refl _) _
  have o0 : (w.alloc (.cells (cells x).toArray 60)).cell? ⟨w.heap.size, 0, none⟩ = some (.int .i64 x.op) := blk_cell nb0 0
  have HOPc : Hid ((cells x).toArray[0]? = some (.int .i64 x.op)) := Lib.hid rfl
  have HRES := Lib.hid (hput_rg d s xs x hne)
  have HL := Lib.hid hlen
  have HR := Lib.hid h
  have hG0 : 0 ≤ g0 d s xs x ∧ g0 d s xs x ≤ 9223372036854775807 := by
    unfold g0
    repeat' split
    all_goals omega
  obtain ⟨G, hG⟩ : ∃ G, g0 d s xs x = G := ⟨_, rfl⟩
  rw [hG] at HRES hG0
  have HG0 := Lib.hid hG0
  have HG : Hid (G = (xs.length : Int)) := Lib.hid (by rw [← hG]; unfold g0; rw [if_pos ho])
  have hs2 : 0 < s := by omega
  have hd1 : ¬ 0 < d := by omega
  have HOP := Lib.hid ho
  have q1 : (x.op == 1) = false := beq_eq_false_iff_ne.2 ho
  have q2 : (x.op != 1) = true := bne_iff_ne.2 ho
  generalize hq0 : x.op = q at o0 q1 q2 HOPc
  obtain ⟨A, c, rfl, _, hA⟩ := h.slice
  clear h hlen hne hA hG hG0 ho hq0
  go_enter Try.func33, Try.ntmps33
  go_wp2
  have nb := nb0
  have bb := bb0
  clear nb0 bb0 o0
  go_loopw [9, 10, 11, 12] (fun v9 v10 v11 _ wr => ∃ (i : Nat) (out : List Smp) (goes : Int), v11 = .int .i64 (i : Int) ∧ v10 = .int .i64 goes ∧ i ≤ xs.length ∧ Hid (rg (pp d x) G (xs.take i) = (out, goes)) ∧ Row wr (New (w.heap.size + 1) wr) v9 out ∧ wr.heap[w.heap.size]? = some (.cells (cells x).toArray 60 (0, 0)) ∧ Below w.heap.size w wr) (fun _ _ v11 _ _ => xs.length - (intOf v11).toNat)
  case atStart => exact ⟨0, [], (xs.length : Int), rfl, rfl, Nat.zero_le _, Lib.hid (by rw [List.take_zero]; unfold rg; rw [List.foldl_nil, HG.out]), Row.nil _ _, nb, bb⟩
  case round =>
    clear bb nb
    obtain ⟨i, out, goes, rfl, rfl, hi, hst, hO, hbx, bb⟩ := hrel
    have hgb : Hid (0 ≤ goes ∧ goes ≤ 9223372036854775807) := Lib.hid (by have h := rg_bound (pp d x) G HG0.out.1 (xs.take i); rw [hst.out] at h; have := HG0.out; dsimp only at h; omega)
    have hob : wr.cell? ⟨w.heap.size, 0, none⟩ = some (.int .i64 q) := by rw [blk_cell hbx]; exact HOPc.out
    by_cases hlt : i < xs.length
    · have h0 : (0 : Int) ≤ (i : Int) := by omega
      have hlt1 : (i : Int) < (xs.length : Int) := by omega
      obtain ⟨g, rfl⟩ := Row.addr HR.out hlt
      have hR := HR.out.below bb
      have hrng := row_key hR hlt
      have hrng2 := hR.range hlt
      have hol : Hid (out.length + 1 ≤ xs.length) := Lib.hid (by
        have := (rg_bound (pp d x) G HG0.out.1 (xs.take i)).1
        rw [hst.out, List.length_take] at this
        dsimp only at this
        omega)
      have hwi : wrap64 ((i : Int) + 1) = ((i + 1 : Nat) : Int) := by have := HL.out; unfold wrap64; omega
      have hlt2 := Lib.hid hlt
      have hstep := rg_step (pp d x) G xs i hlt
      rw [hst.out] at hstep
      generalize xs[i] = y at hrng hrng2 hstep
      have hq := fun W => keys_eql y.key x.key (smp_key y) (smp_key x) W
      clear hlt hi hR hst
      cases hp : itk x.key y with
      | true =>
        have hd2 : decide (y.key = x.key) = true := hp
        rw [hd2] at hq
        by_cases hg : 0 < goes
        · have hs2 := Lib.hid (hstep.trans (rgo_go (pp_t hp) hg))
          have hwg : wrap64 (goes - 1) = goes - 1 := by have := hgb.out; unfold wrap64; omega
          clear hstep
          go_wp2_with fail
          try have hd9 := HDX.out
          refine Reg.wp_plan (S := fun w' => w'.rangeAt g (i * 23 + 5) (nums .u8 y.key) ∧ w'.heap[w.heap.size]? = some (.cells (cells x).toArray 60 (0, 0)) ∧ w'.cell? ⟨w.heap.size, 0, none⟩ = some (.int .i64 q)) 18 (.fl 0 (.fl 1 (.fl 2 (.fl 3 (.fl 4 (.fl 5 (.fl 6 (.fl 7 (.fl 8 (.fl 9 (.fl 10 (.fl 11 (.fl 12 (.fl 13 (.fl 14 (.fl 15 (.fl 16 (.fl 17 .done)))))))))))))))))) (by kernel_rfl) (by kernel_rfl) (by kernel_rfl) (by kernel_rfl) (fun _ _ _ d _ h => by cases d <;> exact h) ?_ (fun hHeld => ?_)
          · exact ⟨hrng, hbx, hob⟩
          refine Reg.G_on (o := { dst := some 56, op := Op.move (Operand.tmp 0), type := 56, pos := "ref.go:39", after := #[], guard := Option.none }) (v := ?_) (by rfl) ?_ (fun wS hSw => ?_) ?_
          rotate_left
          · kernel_rfl
          · (try dsimp only at hSw); go_simp; (try with_reducible rfl)
          try simp only [Act.put, List.setIfInBounds_toArray, List.set_cons_zero, List.set_cons_succ]
          refine Reg.G_on (o := { dst := some 57, op := Op.move (Operand.tmp 11), type := 3, pos := "ref.go:39", after := #[], guard := Option.none }) (v := ?_) (by rfl) ?_ (fun wS hSw => ?_) ?_
          rotate_left
          · kernel_rfl
          · (try dsimp only at hSw); go_simp; (try with_reducible rfl)
          try simp only [Act.put, List.setIfInBounds_toArray, List.set_cons_zero, List.set_cons_succ]
          refine Reg.G_on (o := { dst := some 58, op := Op.indexAddr 56 (Operand.tmp 56) (Operand.tmp 57), type := 0, pos := "ref.go:39", after := #[{ on := 0, ground := Ground.data }, { on := 1, ground := Ground.data }], guard := Option.none }) (v := ?_) (by rfl) ?_ (fun wS hSw => ?_) ?_
          rotate_left
          · kernel_rfl
          · (try dsimp only at hSw); go_simp; (try with_reducible rfl)
          try simp only [Act.put, List.setIfInBounds_toArray, List.set_cons_zero, List.set_cons_succ]
          refine Reg.G_on (o := { dst := some 59, op := Op.fieldAddr 60 (Operand.tmp 58) 5, type := 0, pos := "ref.go:39", after := #[{ on := 2, ground := Ground.data }], guard := Option.none }) (v := ?_) (by rfl) ?_ (fun wS hSw => ?_) ?_
          rotate_left
          · kernel_rfl
          · (try dsimp only at hSw); go_simp; (try with_reducible rfl)
          try simp only [Act.put, List.setIfInBounds_toArray, List.set_cons_zero, List.set_cons_succ]
          refine Reg.G_on (o := { dst := some 60, op := Op.load 53 (Operand.tmp 59), type := 53, pos := "ref.go:39", after := #[{ on := 3, ground := Ground.data }], guard := Option.none }) (v := .agg (nums .u8 y.key).toArray) (by rfl) ?_ (fun wS hSw => ?_) ?_
          · kernel_rfl
          · exact load_yields rfl rfl hSw.1 Try.underlying53 rfl (key17 _ (key_len y))
          try simp only [Act.put, List.setIfInBounds_toArray, List.set_cons_zero, List.set_cons_succ]
          refine Reg.G_on (o := { dst := some 61, op := Op.fieldAddr 60 (Operand.tmp 7) 5, type := 0, pos := "ref.go:39", after := #[], guard := Option.none }) (v := ?_) (by rfl) ?_ (fun wS hSw => ?_) ?_
          rotate_left
          · kernel_rfl
          · (try dsimp only at hSw); go_simp; (try with_reducible rfl)
          try simp only [Act.put, List.setIfInBounds_toArray, List.set_cons_zero, List.set_cons_succ]
          refine Reg.G_on (o := { dst := some 62, op := Op.load 53 (Operand.tmp 61), type := 53, pos := "ref.go:39", after := #[{ on := 5, ground := Ground.data }], guard := Option.none }) (v := .agg (nums .u8 x.key).toArray) (by rfl) ?_ (fun wS hSw => ?_) ?_
          · kernel_rfl
          · exact load_yields rfl rfl (box_key hSw.2.1) Try.underlying53 rfl (key17 _ (key_len x))
          try simp only [Act.put, List.setIfInBounds_toArray, List.set_cons_zero, List.set_cons_succ]
          refine Reg.G_on (o := { dst := some 63, op := Op.binOp BinOp.eql 53 (Operand.tmp 60) (Operand.tmp 62) 53, type := 4, pos := "ref.go:39", after := #[{ on := 4, ground := Ground.data }, { on := 6, ground := Ground.data }], guard := Option.none }) (v := .bool true) (by rfl) ?_ (fun wS hSw => ?_) ?_
          · kernel_rfl
          · exact eql_yields rfl rfl rfl gd_key (hq _)
          try simp only [Act.put, List.setIfInBounds_toArray, List.set_cons_zero, List.set_cons_succ]
          refine Reg.G_on (o := { dst := some 64, op := Op.move (Operand.tmp 63), type := 4, pos := "ref.go:39", after := #[{ on := 7, ground := Ground.data }], guard := Option.none }) (v := ?_) (by rfl) ?_ (fun wS hSw => ?_) ?_
          rotate_left
          · kernel_rfl
          · (try dsimp only at hSw); go_simp; (try with_reducible rfl)
          try simp only [Act.put, List.setIfInBounds_toArray, List.set_cons_zero, List.set_cons_succ]
          refine Reg.G_off (o := { dst := some 65, op := Op.move (Operand.tmp 1), type := 3, pos := "ref.go:39", after := #[{ on := 8, ground := Ground.guard }], guard := some (8, false) }) (by rfl) ?_ ?_
          · kernel_rfl
          try simp only [Act.put, List.setIfInBounds_toArray, List.set_cons_zero, List.set_cons_succ]
          refine Reg.G_off (o := { dst := some 66, op := Op.binOp BinOp.leq 3 (Operand.tmp 65) (Operand.const (Value.int IntKind.i64 0)) 3, type := 4, pos := "ref.go:39", after := #[{ on := 9, ground := Ground.data }, { on := 8, ground := Ground.guard }], guard := some (8, false) }) (by rfl) ?_ ?_
          · kernel_rfl
          try simp only [Act.put, List.setIfInBounds_toArray, List.set_cons_zero, List.set_cons_succ]
          refine Reg.G_off (o := { dst := some 67, op := Op.move (Operand.tmp 66), type := 4, pos := "ref.go:39", after := #[{ on := 10, ground := Ground.data }, { on := 8, ground := Ground.chain }, { on := 8, ground := Ground.guard }], guard := some (8, false) }) (by rfl) ?_ ?_
          · kernel_rfl
          try simp only [Act.put, List.setIfInBounds_toArray, List.set_cons_zero, List.set_cons_succ]
          refine Reg.G_off (o := { dst := some 68, op := Op.fieldAddr 60 (Operand.tmp 7) 0, type := 0, pos := "ref.go:39", after := #[{ on := 11, ground := Ground.guard }], guard := some (11, true) }) (by rfl) ?_ ?_
          · kernel_rfl
          try simp only [Act.put, List.setIfInBounds_toArray, List.set_cons_zero, List.set_cons_succ]
          refine Reg.G_off (o := { dst := some 69, op := Op.load 3 (Operand.tmp 68), type := 3, pos := "ref.go:39", after := #[{ on := 12, ground := Ground.data }, { on := 11, ground := Ground.guard }], guard := some (11, true) }) (by rfl) ?_ ?_
          · kernel_rfl
          try simp only [Act.put, List.setIfInBounds_toArray, List.set_cons_zero, List.set_cons_succ]
          refine Reg.G_off (o := { dst := some 70, op := Op.binOp BinOp.eql 3 (Operand.tmp 69) (Operand.const (Value.int IntKind.i64 1)) 3, type := 4, pos := "ref.go:39", after := #[{ on := 13, ground := Ground.data }, { on := 11, ground := Ground.guard }], guard := some (11, true) }) (by rfl) ?_ ?_
          · kernel_rfl
          try simp only [Act.put, List.setIfInBounds_toArray, List.set_cons_zero, List.set_cons_succ]
          refine Reg.G_off (o := { dst := some 71, op := Op.pick (Operand.tmp 67) (Operand.tmp 70) (Operand.const (Value.bool false)), type := 4, pos := "ref.go:39", after := #[{ on := 11, ground := Ground.data }, { on := 14, ground := Ground.data }, { on := 8, ground := Ground.guard }], guard := some (8, false) }) (by rfl) ?_ ?_
          · kernel_rfl
          try simp only [Act.put, List.setIfInBounds_toArray, List.set_cons_zero, List.set_cons_succ]
          refine Reg.G_on (o := { dst := some 72, op := Op.pick (Operand.tmp 64) (Operand.const (Value.bool true)) (Operand.tmp 71), type := 4, pos := "ref.go:39", after := #[{ on := 8, ground := Ground.data }, { on := 15, ground := Ground.data }], guard := Option.none }) (v := ?_) (by rfl) ?_ (fun wS hSw => ?_) ?_
          rotate_left
          · kernel_rfl
          · (try dsimp only at hSw); go_simp; (try with_reducible rfl)
          try simp only [Act.put, List.setIfInBounds_toArray, List.set_cons_zero, List.set_cons_succ]
          refine Reg.G_on (o := { dst := some 12, op := Op.assign (Operand.tmp 72), type := 4, pos := "ref.go:39", after := #[{ on := 16, ground := Ground.data }, { on := 11, ground := Ground.chain }, { on := 0, ground := Ground.phase }, { on := 1, ground := Ground.phase }, { on := 2, ground := Ground.phase }, { on := 3, ground := Ground.phase }, { on := 4, ground := Ground.phase }, { on := 5, ground := Ground.phase }, { on := 6, ground := Ground.phase }, { on := 7, ground := Ground.phase }, { on := 8, ground := Ground.phase }, { on := 9, ground := Ground.phase }, { on := 10, ground := Ground.phase }, { on := 11, ground := Ground.phase }, { on := 12, ground := Ground.phase }, { on := 13, ground := Ground.phase }, { on := 14, ground := Ground.phase }, { on := 15, ground := Ground.phase }, { on := 16, ground := Ground.phase }], guard := Option.none }) (v := ?_) (by rfl) ?_ (fun wS hSw => ?_) ?_
          rotate_left
          · kernel_rfl
          · (try dsimp only at hSw); go_simp; (try with_reducible rfl)
          try simp only [Act.put, List.setIfInBounds_toArray, List.set_cons_zero, List.set_cons_succ]
          refine Reg.G_done ?_
          clear hHeld
          go_wp2
          rw [hwi, hwg]
          exact ⟨⟨i + 1, out, goes - 1, rfl, rfl, hlt2.out, hs2, hO, hbx, bb.drew⟩, meas _ _ hlt2.out⟩
        · have hs2 := Lib.hid (hstep.trans (rgo_zero hg))
          clear hstep
          have HO := hO.drew
          obtain ⟨v7, w7, hrun, r7, g7, s7⟩ := HO.append (fun k hk => hk.2) y (by have := hol.out; have := HL.out; omega) 56
          have hown := HO.own
          have hbx7 := blk_grown (w := wr.drew) hbx g7 (fun e => by have := (hown _ e.symm).1.1; omega)
          have HX : Hid (Row w7 (New (w.heap.size + 1) w7) v7 (out ++ [y]) ∧ w7.heap[w.heap.size]? = some (.cells (cells x).toArray 60 (0, 0)) ∧ Below w.heap.size w w7) := Lib.hid ⟨Row.news r7 (blk_lt hbx) (Nat.le_of_lt s7), hbx7, bb.drew.grown g7 (show w.heap.size ≤ wr.drew.heap.size from bb.size) (fun k hk => by have := (hown k hk).1.1; omega)⟩
          obtain ⟨A6, c6, rfl, _, _⟩ := HO.slice
          clear r7 g7 s7 hown hO HO bb hbx7
          go_wp2_with fail
          try have hd9 := HDX.out
          refine Reg.wp_plan (S := fun w' => w'.rangeAt g (i * 23 + 5) (nums .u8 y.key) ∧ w'.heap[w.heap.size]? = some (.cells (cells x).toArray 60 (0, 0)) ∧ w'.cell? ⟨w.heap.size, 0, none⟩ = some (.int .i64 q)) 18 (.fl 0 (.fl 1 (.fl 2 (.fl 3 (.fl 4 (.fl 5 (.fl 6 (.fl 7 (.fl 8 (.fl 9 (.fl 10 (.fl 11 (.fl 12 (.fl 13 (.fl 14 (.fl 15 (.fl 16 (.fl 17 .done)))))))))))))))))) (by kernel_rfl) (by kernel_rfl) (by kernel_rfl) (by kernel_rfl) (fun _ _ _ d _ h => by cases d <;> exact h) ?_ (fun hHeld => ?_)
          · exact ⟨hrng, hbx, hob⟩
          refine Reg.G_on (o := { dst := some 56, op := Op.move (Operand.tmp 0), type := 56, pos := "ref.go:39", after := #[], guard := Option.none }) (v := ?_) (by rfl) ?_ (fun wS hSw => ?_) ?_
          rotate_left
          · kernel_rfl
          · (try dsimp only at hSw); go_simp; (try with_reducible rfl)
          try simp only [Act.put, List.setIfInBounds_toArray, List.set_cons_zero, List.set_cons_succ]
          refine Reg.G_on (o := { dst := some 57, op := Op.move (Operand.tmp 11), type := 3, pos := "ref.go:39", after := #[], guard := Option.none }) (v := ?_) (by rfl) ?_ (fun wS hSw => ?_) ?_
          rotate_left
          · kernel_rfl
          · (try dsimp only at hSw); go_simp; (try with_reducible rfl)
          try simp only [Act.put, List.setIfInBounds_toArray, List.set_cons_zero, List.set_cons_succ]
          refine Reg.G_on (o := { dst := some 58, op := Op.indexAddr 56 (Operand.tmp 56) (Operand.tmp 57), type := 0, pos := "ref.go:39", after := #[{ on := 0, ground := Ground.data }, { on := 1, ground := Ground.data }], guard := Option.none }) (v := ?_) (by rfl) ?_ (fun wS hSw => ?_) ?_
          rotate_left
          · kernel_rfl
          · (try dsimp only at hSw); go_simp; (try with_reducible rfl)
          try simp only [Act.put, List.setIfInBounds_toArray, List.set_cons_zero, List.set_cons_succ]
          refine Reg.G_on (o := { dst := some 59, op := Op.fieldAddr 60 (Operand.tmp 58) 5, type := 0, pos := "ref.go:39", after := #[{ on := 2, ground := Ground.data }], guard := Option.none }) (v := ?_) (by rfl) ?_ (fun wS hSw => ?_) ?_
          rotate_left
          · kernel_rfl
          · (try dsimp only at hSw); go_simp; (try with_reducible rfl)
          try simp only [Act.put, List.setIfInBounds_toArray, List.set_cons_zero, List.set_cons_succ]
          refine Reg.G_on (o := { dst := some 60, op := Op.load 53 (Operand.tmp 59), type := 53, pos := "ref.go:39", after := #[{ on := 3, ground := Ground.data }], guard := Option.none }) (v := .agg (nums .u8 y.key).toArray) (by rfl) ?_ (fun wS hSw => ?_) ?_
          · kernel_rfl
          · exact load_yields rfl rfl hSw.1 Try.underlying53 rfl (key17 _ (key_len y))
          try simp only [Act.put, List.setIfInBounds_toArray, List.set_cons_zero, List.set_cons_succ]
          refine Reg.G_on (o := { dst := some 61, op := Op.fieldAddr 60 (Operand.tmp 7) 5, type := 0, pos := "ref.go:39", after := #[], guard := Option.none }) (v := ?_) (by rfl) ?_ (fun wS hSw => ?_) ?_
          rotate_left
          · kernel_rfl
          · (try dsimp only at hSw); go_simp; (try with_reducible rfl)
          try simp only [Act.put, List.setIfInBounds_toArray, List.set_cons_zero, List.set_cons_succ]
          refine Reg.G_on (o := { dst := some 62, op := Op.load 53 (Operand.tmp 61), type := 53, pos := "ref.go:39", after := #[{ on := 5, ground := Ground.data }], guard := Option.none }) (v := .agg (nums .u8 x.key).toArray) (by rfl) ?_ (fun wS hSw => ?_) ?_
          · kernel_rfl
          · exact load_yields rfl rfl (box_key hSw.2.1) Try.underlying53 rfl (key17 _ (key_len x))
          try simp only [Act.put, List.setIfInBounds_toArray, List.set_cons_zero, List.set_cons_succ]
          refine Reg.G_on (o := { dst := some 63, op := Op.binOp BinOp.eql 53 (Operand.tmp 60) (Operand.tmp 62) 53, type := 4, pos := "ref.go:39", after := #[{ on := 4, ground := Ground.data }, { on := 6, ground := Ground.data }], guard := Option.none }) (v := .bool true) (by rfl) ?_ (fun wS hSw => ?_) ?_
          · kernel_rfl
          · exact eql_yields rfl rfl rfl gd_key (hq _)
          try simp only [Act.put, List.setIfInBounds_toArray, List.set_cons_zero, List.set_cons_succ]
          refine Reg.G_on (o := { dst := some 64, op := Op.move (Operand.tmp 63), type := 4, pos := "ref.go:39", after := #[{ on := 7, ground := Ground.data }], guard := Option.none }) (v := ?_) (by rfl) ?_ (fun wS hSw => ?_) ?_
          rotate_left
          · kernel_rfl
          · (try dsimp only at hSw); go_simp; (try with_reducible rfl)
          try simp only [Act.put, List.setIfInBounds_toArray, List.set_cons_zero, List.set_cons_succ]
          refine Reg.G_off (o := { dst := some 65, op := Op.move (Operand.tmp 1), type := 3, pos := "ref.go:39", after := #[{ on := 8, ground := Ground.guard }], guard := some (8, false) }) (by rfl) ?_ ?_
          · kernel_rfl
          try simp only [Act.put, List.setIfInBounds_toArray, List.set_cons_zero, List.set_cons_succ]
          refine Reg.G_off (o := { dst := some 66, op := Op.binOp BinOp.leq 3 (Operand.tmp 65) (Operand.const (Value.int IntKind.i64 0)) 3, type := 4, pos := "ref.go:39", after := #[{ on := 9, ground := Ground.data }, { on := 8, ground := Ground.guard }], guard := some (8, false) }) (by rfl) ?_ ?_
          · kernel_rfl
          try simp only [Act.put, List.setIfInBounds_toArray, List.set_cons_zero, List.set_cons_succ]
          refine Reg.G_off (o := { dst := some 67, op := Op.move (Operand.tmp 66), type := 4, pos := "ref.go:39", after := #[{ on := 10, ground := Ground.data }, { on := 8, ground := Ground.chain }, { on := 8, ground := Ground.guard }], guard := some (8, false) }) (by rfl) ?_ ?_
          · kernel_rfl
          try simp only [Act.put, List.setIfInBounds_toArray, List.set_cons_zero, List.set_cons_succ]
          refine Reg.G_off (o := { dst := some 68, op := Op.fieldAddr 60 (Operand.tmp 7) 0, type := 0, pos := "ref.go:39", after := #[{ on := 11, ground := Ground.guard }], guard := some (11, true) }) (by rfl) ?_ ?_
          · kernel_rfl
          try simp only [Act.put, List.setIfInBounds_toArray, List.set_cons_zero, List.set_cons_succ]
          refine Reg.G_off (o := { dst := some 69, op := Op.load 3 (Operand.tmp 68), type := 3, pos := "ref.go:39", after := #[{ on := 12, ground := Ground.data }, { on := 11, ground := Ground.guard }], guard := some (11, true) }) (by rfl) ?_ ?_
          · kernel_rfl
          try simp only [Act.put, List.setIfInBounds_toArray, List.set_cons_zero, List.set_cons_succ]
          refine Reg.G_off (o := { dst := some 70, op := Op.binOp BinOp.eql 3 (Operand.tmp 69) (Operand.const (Value.int IntKind.i64 1)) 3, type := 4, pos := "ref.go:39", after := #[{ on := 13, ground := Ground.data }, { on := 11, ground := Ground.guard }], guard := some (11, true) }) (by rfl) ?_ ?_
          · kernel_rfl
          try simp only [Act.put, List.setIfInBounds_toArray, List.set_cons_zero, List.set_cons_succ]
          refine Reg.G_off (o := { dst := some 71, op := Op.pick (Operand.tmp 67) (Operand.tmp 70) (Operand.const (Value.bool false)), type := 4, pos := "ref.go:39", after := #[{ on := 11, ground := Ground.data }, { on := 14, ground := Ground.data }, { on := 8, ground := Ground.guard }], guard := some (8, false) }) (by rfl) ?_ ?_
          · kernel_rfl
          try simp only [Act.put, List.setIfInBounds_toArray, List.set_cons_zero, List.set_cons_succ]
          refine Reg.G_on (o := { dst := some 72, op := Op.pick (Operand.tmp 64) (Operand.const (Value.bool true)) (Operand.tmp 71), type := 4, pos := "ref.go:39", after := #[{ on := 8, ground := Ground.data }, { on := 15, ground := Ground.data }], guard := Option.none }) (v := ?_) (by rfl) ?_ (fun wS hSw => ?_) ?_
          rotate_left
          · kernel_rfl
          · (try dsimp only at hSw); go_simp; (try with_reducible rfl)
          try simp only [Act.put, List.setIfInBounds_toArray, List.set_cons_zero, List.set_cons_succ]
          refine Reg.G_on (o := { dst := some 12, op := Op.assign (Operand.tmp 72), type := 4, pos := "ref.go:39", after := #[{ on := 16, ground := Ground.data }, { on := 11, ground := Ground.chain }, { on := 0, ground := Ground.phase }, { on := 1, ground := Ground.phase }, { on := 2, ground := Ground.phase }, { on := 3, ground := Ground.phase }, { on := 4, ground := Ground.phase }, { on := 5, ground := Ground.phase }, { on := 6, ground := Ground.phase }, { on := 7, ground := Ground.phase }, { on := 8, ground := Ground.phase }, { on := 9, ground := Ground.phase }, { on := 10, ground := Ground.phase }, { on := 11, ground := Ground.phase }, { on := 12, ground := Ground.phase }, { on := 13, ground := Ground.phase }, { on := 14, ground := Ground.phase }, { on := 15, ground := Ground.phase }, { on := 16, ground := Ground.phase }], guard := Option.none }) (v := ?_) (by rfl) ?_ (fun wS hSw => ?_) ?_
          rotate_left
          · kernel_rfl
          · (try dsimp only at hSw); go_simp; (try with_reducible rfl)
          try simp only [Act.put, List.setIfInBounds_toArray, List.set_cons_zero, List.set_cons_succ]
          refine Reg.G_done ?_
          clear hHeld
          go_wp2_with (first | ((with_reducible refine gate_dst (N := 84) rfl ?_); refine wpList_load_mid rfl 60 (.tmp 83) rfl g (i * 23) rfl (cells y) _ hrng2 Try.underlying60 rfl (size23 y) ?_) | ((with_reducible refine gate_dst (N := 85) rfl ?_); refine build1L (x := y) rfl rfl rfl ?_) | (at_builtin; refine wp_append rfl (.tmp 80) (.tmp 85) 56 rfl rfl rfl hrun ?_))
          rw [hwi]
          exact ⟨⟨i + 1, out ++ [y], goes, rfl, rfl, hlt2.out, hs2, HX.out.1, HX.out.2.1, HX.out.2.2⟩, meas _ _ hlt2.out⟩
      | false =>
        have hd2 : decide (y.key = x.key) = false := hp
        rw [hd2] at hq
        have hpf := pp_f3 (d := d) (x := x) (y := y) hp HOP.out
        have hs2 := Lib.hid (hstep.trans (rgo_no hpf))
        clear hstep
        have HO := hO.drew
        obtain ⟨v7, w7, hrun, r7, g7, s7⟩ := HO.append (fun k hk => hk.2) y (by have := hol.out; have := HL.out; omega) 56
        have hown := HO.own
        have hbx7 := blk_grown (w := wr.drew) hbx g7 (fun e => by have := (hown _ e.symm).1.1; omega)
        have HX : Hid (Row w7 (New (w.heap.size + 1) w7) v7 (out ++ [y]) ∧ w7.heap[w.heap.size]? = some (.cells (cells x).toArray 60 (0, 0)) ∧ Below w.heap.size w w7) := Lib.hid ⟨Row.news r7 (blk_lt hbx) (Nat.le_of_lt s7), hbx7, bb.drew.grown g7 (show w.heap.size ≤ wr.drew.heap.size from bb.size) (fun k hk => by have := (hown k hk).1.1; omega)⟩
        obtain ⟨A6, c6, rfl, _, _⟩ := HO.slice
        clear r7 g7 s7 hown hO HO bb hbx7
        go_wp2_with fail
        try have hd9 := HDX.out
        refine Reg.wp_plan (S := fun w' => w'.rangeAt g (i * 23 + 5) (nums .u8 y.key) ∧ w'.heap[w.heap.size]? = some (.cells (cells x).toArray 60 (0, 0)) ∧ w'.cell? ⟨w.heap.size, 0, none⟩ = some (.int .i64 q)) 18 (.fl 0 (.fl 1 (.fl 2 (.fl 3 (.fl 4 (.fl 5 (.fl 6 (.fl 7 (.fl 8 (.fl 9 (.fl 10 (.fl 11 (.fl 12 (.fl 13 (.fl 14 (.fl 15 (.fl 16 (.fl 17 .done)))))))))))))))))) (by kernel_rfl) (by kernel_rfl) (by kernel_rfl) (by kernel_rfl) (fun _ _ _ d _ h => by cases d <;> exact h) ?_ (fun hHeld => ?_)
        · exact ⟨hrng, hbx, hob⟩
        refine Reg.G_on (o := { dst := some 56, op := Op.move (Operand.tmp 0), type := 56, pos := "ref.go:39", after := #[], guard := Option.none }) (v := ?_) (by rfl) ?_ (fun wS hSw => ?_) ?_
        rotate_left
        · kernel_rfl
        · (try dsimp only at hSw); go_simp; (try with_reducible rfl)
        try simp only [Act.put, List.setIfInBounds_toArray, List.set_cons_zero, List.set_cons_succ]
        refine Reg.G_on (o := { dst := some 57, op := Op.move (Operand.tmp 11), type := 3, pos := "ref.go:39", after := #[], guard := Option.none }) (v := ?_) (by rfl) ?_ (fun wS hSw => ?_) ?_
        rotate_left
        · kernel_rfl
        · (try dsimp only at hSw); go_simp; (try with_reducible rfl)
        try simp only [Act.put, List.setIfInBounds_toArray, List.set_cons_zero, List.set_cons_succ]
        refine Reg.G_on (o := { dst := some 58, op := Op.indexAddr 56 (Operand.tmp 56) (Operand.tmp 57), type := 0, pos := "ref.go:39", after := #[{ on := 0, ground := Ground.data }, { on := 1, ground := Ground.data }], guard := Option.none }) (v := ?_) (by rfl) ?_ (fun wS hSw => ?_) ?_
        rotate_left
        · kernel_rfl
        · (try dsimp only at hSw); go_simp; (try with_reducible rfl)
        try simp only [Act.put, List.setIfInBounds_toArray, List.set_cons_zero, List.set_cons_succ]
        refine Reg.G_on (o := { dst := some 59, op := Op.fieldAddr 60 (Operand.tmp 58) 5, type := 0, pos := "ref.go:39", after := #[{ on := 2, ground := Ground.data }], guard := Option.none }) (v := ?_) (by rfl) ?_ (fun wS hSw => ?_) ?_
        rotate_left
        · kernel_rfl
        · (try dsimp only at hSw); go_simp; (try with_reducible rfl)
        try simp only [Act.put, List.setIfInBounds_toArray, List.set_cons_zero, List.set_cons_succ]
        refine Reg.G_on (o := { dst := some 60, op := Op.load 53 (Operand.tmp 59), type := 53, pos := "ref.go:39", after := #[{ on := 3, ground := Ground.data }], guard := Option.none }) (v := .agg (nums .u8 y.key).toArray) (by rfl) ?_ (fun wS hSw => ?_) ?_
        · kernel_rfl
        · exact load_yields rfl rfl hSw.1 Try.underlying53 rfl (key17 _ (key_len y))
        try simp only [Act.put, List.setIfInBounds_toArray, List.set_cons_zero, List.set_cons_succ]
        refine Reg.G_on (o := { dst := some 61, op := Op.fieldAddr 60 (Operand.tmp 7) 5, type := 0, pos := "ref.go:39", after := #[], guard := Option.none }) (v := ?_) (by rfl) ?_ (fun wS hSw => ?_) ?_
        rotate_left
        · kernel_rfl
        · (try dsimp only at hSw); go_simp; (try with_reducible rfl)
        try simp only [Act.put, List.setIfInBounds_toArray, List.set_cons_zero, List.set_cons_succ]
        refine Reg.G_on (o := { dst := some 62, op := Op.load 53 (Operand.tmp 61), type := 53, pos := "ref.go:39", after := #[{ on := 5, ground := Ground.data }], guard := Option.none }) (v := .agg (nums .u8 x.key).toArray) (by rfl) ?_ (fun wS hSw => ?_) ?_
        · kernel_rfl
        · exact load_yields rfl rfl (box_key hSw.2.1) Try.underlying53 rfl (key17 _ (key_len x))
        try simp only [Act.put, List.setIfInBounds_toArray, List.set_cons_zero, List.set_cons_succ]
        refine Reg.G_on (o := { dst := some 63, op := Op.binOp BinOp.eql 53 (Operand.tmp 60) (Operand.tmp 62) 53, type := 4, pos := "ref.go:39", after := #[{ on := 4, ground := Ground.data }, { on := 6, ground := Ground.data }], guard := Option.none }) (v := .bool false) (by rfl) ?_ (fun wS hSw => ?_) ?_
        · kernel_rfl
        · exact eql_yields rfl rfl rfl gd_key (hq _)
        try simp only [Act.put, List.setIfInBounds_toArray, List.set_cons_zero, List.set_cons_succ]
        refine Reg.G_on (o := { dst := some 64, op := Op.move (Operand.tmp 63), type := 4, pos := "ref.go:39", after := #[{ on := 7, ground := Ground.data }], guard := Option.none }) (v := ?_) (by rfl) ?_ (fun wS hSw => ?_) ?_
        rotate_left
        · kernel_rfl
        · (try dsimp only at hSw); go_simp; (try with_reducible rfl)
        try simp only [Act.put, List.setIfInBounds_toArray, List.set_cons_zero, List.set_cons_succ]
        refine Reg.G_on (o := { dst := some 65, op := Op.move (Operand.tmp 1), type := 3, pos := "ref.go:39", after := #[{ on := 8, ground := Ground.guard }], guard := some (8, false) }) (v := ?_) (by rfl) ?_ (fun wS hSw => ?_) ?_
        rotate_left
        · kernel_rfl
        · (try dsimp only at hSw); go_simp; (try with_reducible rfl)
        try simp only [Act.put, List.setIfInBounds_toArray, List.set_cons_zero, List.set_cons_succ]
        refine Reg.G_on (o := { dst := some 66, op := Op.binOp BinOp.leq 3 (Operand.tmp 65) (Operand.const (Value.int IntKind.i64 0)) 3, type := 4, pos := "ref.go:39", after := #[{ on := 9, ground := Ground.data }, { on := 8, ground := Ground.guard }], guard := some (8, false) }) (v := ?_) (by rfl) ?_ (fun wS hSw => ?_) ?_
        rotate_left
        · kernel_rfl
        · (try dsimp only at hSw); go_simp; (try with_reducible rfl)
        try simp only [Act.put, List.setIfInBounds_toArray, List.set_cons_zero, List.set_cons_succ]
        refine Reg.G_on (o := { dst := some 67, op := Op.move (Operand.tmp 66), type := 4, pos := "ref.go:39", after := #[{ on := 10, ground := Ground.data }, { on := 8, ground := Ground.chain }, { on := 8, ground := Ground.guard }], guard := some (8, false) }) (v := ?_) (by rfl) ?_ (fun wS hSw => ?_) ?_
        rotate_left
        · kernel_rfl
        · (try dsimp only at hSw); go_simp; (try with_reducible rfl)
        try simp only [Act.put, List.setIfInBounds_toArray, List.set_cons_zero, List.set_cons_succ]
        refine Reg.G_on (o := { dst := some 68, op := Op.fieldAddr 60 (Operand.tmp 7) 0, type := 0, pos := "ref.go:39", after := #[{ on := 11, ground := Ground.guard }], guard := some (11, true) }) (v := ?_) (by rfl) ?_ (fun wS hSw => ?_) ?_
        rotate_left
        · kernel_rfl
        · (try dsimp only at hSw); go_simp; (try with_reducible rfl)
        try simp only [Act.put, List.setIfInBounds_toArray, List.set_cons_zero, List.set_cons_succ]
        refine Reg.G_on (o := { dst := some 69, op := Op.load 3 (Operand.tmp 68), type := 3, pos := "ref.go:39", after := #[{ on := 12, ground := Ground.data }, { on := 11, ground := Ground.guard }], guard := some (11, true) }) (v := ?_) (by rfl) ?_ (fun wS hSw => ?_) ?_
        rotate_left
        · kernel_rfl
        · (try dsimp only at hSw); go_simp; (try with_reducible rfl)
        try simp only [Act.put, List.setIfInBounds_toArray, List.set_cons_zero, List.set_cons_succ]
        refine Reg.G_on (o := { dst := some 70, op := Op.binOp BinOp.eql 3 (Operand.tmp 69) (Operand.const (Value.int IntKind.i64 1)) 3, type := 4, pos := "ref.go:39", after := #[{ on := 13, ground := Ground.data }, { on := 11, ground := Ground.guard }], guard := some (11, true) }) (v := ?_) (by rfl) ?_ (fun wS hSw => ?_) ?_
        rotate_left
        · kernel_rfl
        · (try dsimp only at hSw); go_simp; (try with_reducible rfl)
        try simp only [Act.put, List.setIfInBounds_toArray, List.set_cons_zero, List.set_cons_succ]
        refine Reg.G_on (o := { dst := some 71, op := Op.pick (Operand.tmp 67) (Operand.tmp 70) (Operand.const (Value.bool false)), type := 4, pos := "ref.go:39", after := #[{ on := 11, ground := Ground.data }, { on := 14, ground := Ground.data }, { on := 8, ground := Ground.guard }], guard := some (8, false) }) (v := ?_) (by rfl) ?_ (fun wS hSw => ?_) ?_
        rotate_left
        · kernel_rfl
        · (try dsimp only at hSw); go_simp; (try with_reducible rfl)
        try simp only [Act.put, List.setIfInBounds_toArray, List.set_cons_zero, List.set_cons_succ]
        refine Reg.G_on (o := { dst := some 72, op := Op.pick (Operand.tmp 64) (Operand.const (Value.bool true)) (Operand.tmp 71), type := 4, pos := "ref.go:39", after := #[{ on := 8, ground := Ground.data }, { on := 15, ground := Ground.data }], guard := Option.none }) (v := ?_) (by rfl) ?_ (fun wS hSw => ?_) ?_
        rotate_left
        · kernel_rfl
        · (try dsimp only at hSw); go_simp; (try with_reducible rfl)
        try simp only [Act.put, List.setIfInBounds_toArray, List.set_cons_zero, List.set_cons_succ]
        refine Reg.G_on (o := { dst := some 12, op := Op.assign (Operand.tmp 72), type := 4, pos := "ref.go:39", after := #[{ on := 16, ground := Ground.data }, { on := 11, ground := Ground.chain }, { on := 0, ground := Ground.phase }, { on := 1, ground := Ground.phase }, { on := 2, ground := Ground.phase }, { on := 3, ground := Ground.phase }, { on := 4, ground := Ground.phase }, { on := 5, ground := Ground.phase }, { on := 6, ground := Ground.phase }, { on := 7, ground := Ground.phase }, { on := 8, ground := Ground.phase }, { on := 9, ground := Ground.phase }, { on := 10, ground := Ground.phase }, { on := 11, ground := Ground.phase }, { on := 12, ground := Ground.phase }, { on := 13, ground := Ground.phase }, { on := 14, ground := Ground.phase }, { on := 15, ground := Ground.phase }, { on := 16, ground := Ground.phase }], guard := Option.none }) (v := ?_) (by rfl) ?_ (fun wS hSw => ?_) ?_
        rotate_left
        · kernel_rfl
        · (try dsimp only at hSw); go_simp; (try with_reducible rfl)
        try simp only [Act.put, List.setIfInBounds_toArray, List.set_cons_zero, List.set_cons_succ]
        refine Reg.G_done ?_
        clear hHeld
        go_wp2_with (first | ((with_reducible refine gate_dst (N := 84) rfl ?_); refine wpList_load_mid rfl 60 (.tmp 83) rfl g (i * 23) rfl (cells y) _ hrng2 Try.underlying60 rfl (size23 y) ?_) | ((with_reducible refine gate_dst (N := 85) rfl ?_); refine build1L (x := y) rfl rfl rfl ?_) | (at_builtin; refine wp_append rfl (.tmp 80) (.tmp 85) 56 rfl rfl rfl hrun ?_))
        rw [hwi]
        exact ⟨⟨i + 1, out ++ [y], goes, rfl, rfl, hlt2.out, hs2, HX.out.1, HX.out.2.1, HX.out.2.2⟩, meas _ _ hlt2.out⟩
    · have hlt1 : ¬ (i : Int) < (xs.length : Int) := by omega
      have hres : Hid ((rg (pp d x) G xs).1 = out) := Lib.hid (by rw [← List.take_of_length_le (show xs.length ≤ i by omega), hst.out])
      have hol2 : Hid (out.length ≤ xs.length) := Lib.hid (by rw [← hres.out]; exact (rg_bound (pp d x) G HG0.out.1 xs).1)
      clear hlt hi hst
      have HX : Hid (Row wr (fun k => F k ∨ New w.heap.size wr k) u9 (hput (mx0 d) (mx0 s) xs x) ∧ Below w.heap.size w wr) := Lib.hid ⟨by
        rw [HRES.out, hres.out, if_neg HOP.out, List.append_nil]
        exact hO.mono (fun k hk => .inr ⟨by have := hk.1; omega, hk.2⟩), bb⟩
      clear hO bb
      go_wp2
      go_ret
      exact ⟨_, rfl, HX.out.1, HX.out.2⟩
set_option maxHeartbeats 2000000 in
set_option maxRecDepth 20000 in
theorem put_y3 {w : World} {F : Nat → Prop} {v : Value} {xs : List Smp} (h : Row w F v xs) (d s : Int) (x : Smp) (hlen : (xs.length + 1) * 80 ≤ 140737488355328) (hne : ¬ (d ≤ 0 ∧ s ≤ 0 ∧ x.op = 1)) (hd : d ≤ 0) (ho : ¬ x.op = 1) (hs : ¬ s ≤ 0) (hl : ¬ s ≤ (xs.length : Int)) :
    Calls Try.prog 33 #[v, .int .i64 d, .int .i64 s, .agg (cells x).toArray] w fun e w' => ∃ v', e = .returned v' ∧ Row w' (fun k => F k ∨ New w.heap.size w' k) v' (hput (mx0 d) (mx0 s) xs x) ∧ Below w.heap.size w w' := by
  have nb0 := heap_alloc_new w (.cells (cells x).toArray 60)
  have bb0 : Below w.heap.size w (w.alloc (.cells (cells x).toArray 60)) := (Below.refl _ _).alloc (Nat.le_refl _) _
  have o0 : (w.alloc (.cells (cells x).toArray 60)).cell? ⟨w.heap.size, 0, none⟩ = some (.int .i64 x.op) := blk_cell nb0 0
  have HOPc : Hid ((cells x).toArray[0]? = some (.int .i64 x.op)) := Lib.hid rfl
  have HRES := Lib.hid (hput_rg d s xs x hne)
  have HL := Lib.hid hlen
  have HR := Lib.hid h
  have hG0 : 0 ≤ g0 d s xs x ∧ g0 d s xs x ≤ 9223372036854775807 := by
    unfold g0
    repeat' split
    all_goals omega
  obtain ⟨G, hG⟩ : ∃ G, g0 d s xs x = G := ⟨_, rfl⟩
  rw [hG] at HRES hG0
  have HG0 := Lib.hid hG0
  have HG : Hid (G = (xs.length : Int)) := Lib.hid (by rw [← hG]; unfold g0; rw [if_pos ho])
  have hs2 : 0 < s := by omega
  have hd1 : ¬ 0 < d := by omega
  have HOP := Lib.hid ho
  have q1 : (x.op == 1) = false := beq_eq_false_iff_ne.2 ho
  have q2 : (x.op != 1) = true := bne_iff_ne.2 ho
  generalize hq0 : x.op = q at o0 q1 q2 HOPc
  obtain ⟨A, c, rfl, _, hA⟩ := h.slice
  clear h hlen hne hA hG hG0 ho hq0
  go_enter Try.func33, Try.ntmps33
  go_wp2
  have nb := nb0
  have bb := bb0
  clear nb0 bb0 o0
  go_loopw [9, 10, 11, 12] (fun v9 v10 v11 _ wr => ∃ (i : Nat) (out : List Smp) (goes : Int), v11 = .int .i64 (i : Int) ∧ v10 = .int .i64 goes ∧ i ≤ xs.length ∧ Hid (rg (pp d x) G (xs.take i) = (out, goes)) ∧ Row wr (New (w.heap.size + 1) wr) v9 out ∧ wr.heap[w.heap.size]? = some (.cells (cells x).toArray 60 (0, 0)) ∧ Below w.heap.size w wr) (fun _ _ v11 _ _ => xs.length - (intOf v11).toNat)
  case atStart => exact ⟨0, [], (xs.length : Int), rfl, rfl, Nat.zero_le _, Lib.hid (by rw [List.take_zero]; unfold rg; rw [List.foldl_nil, HG.out]), Row.nil _ _, nb, bb⟩
  case round =>
    clear bb nb
    obtain ⟨i, out, goes, rfl, rfl, hi, hst, hO, hbx, bb⟩ := hrel
    have hgb : Hid (0 ≤ goes ∧ goes ≤ 9223372036854775807) := Lib.hid (by have h := rg_bound (pp d x) G HG0.out.1 (xs.take i); rw [hst.out] at h; have := HG0.out; dsimp only at h; omega)
    have hob : wr.cell? ⟨w.heap.size, 0, none⟩ = some (.int .i64 q) := by rw [blk_cell hbx]; exact HOPc.out
    by_cases hlt : i < xs.length
    · have h0 : (0 : Int) ≤ (i : Int) := by omega
      have hlt1 : (i : Int) < (xs.length : Int) := by omega
      obtain ⟨g, rfl⟩ := Row.addr HR.out hlt
      have hR := HR.out.below bb
      have hrng := row_key hR hlt
      have hrng2 := hR.range hlt
      have hol : Hid (out.length + 1 ≤ xs.length) := Lib.hid (by
        have := (rg_bound (pp d x) G HG0.out.1 (xs.take i)).1
        rw [hst.out, List.length_take] at this
        dsimp only at this
        omega)
      have hwi : wrap64 ((i : Int) + 1) = ((i + 1 : Nat) : Int) := by have := HL.out; unfold wrap64; omega
      have hlt2 := Lib.hid hlt
      have hstep := rg_step (pp d x) G xs i hlt
      rw [hst.out] at hstep
      generalize xs[i] = y at hrng hrng2 hstep
      have hq := fun W => keys_eql y.key x.key (smp_key y) (smp_key x) W
      clear hlt hi hR hst
      cases hp : itk x.key y with
      | true =>
        have hd2 : decide (y.key = x.key) = true := hp
        rw [hd2] at hq
        by_cases hg : 0 < goes
        · have hs2 := Lib.hid (hstep.trans (rgo_go (pp_t hp) hg))
          have hwg : wrap64 (goes - 1) = goes - 1 := by have := hgb.out; unfold wrap64; omega
          clear hstep
          go_wp2_with fail
          try have hd9 := HDX.out
          refine Reg.wp_plan (S := fun w' => w'.rangeAt g (i * 23 + 5) (nums .u8 y.key) ∧ w'.heap[w.heap.size]? = some (.cells (cells x).toArray 60 (0, 0)) ∧ w'.cell? ⟨w.heap.size, 0, none⟩ = some (.int .i64 q)) 18 (.fl 0 (.fl 1 (.fl 2 (.fl 3 (.fl 4 (.fl 5 (.fl 6 (.fl 7 (.fl 8 (.fl 9 (.fl 10 (.fl 11 (.fl 12 (.fl 13 (.fl 14 (.fl 15 (.fl 16 (.fl 17 .done)))))))))))))))))) (by kernel_rfl) (by kernel_rfl) (by kernel_rfl) (by kernel_rfl) (fun _ _ _ d _ h => by cases d <;> exact h) ?_ (fun hHeld => ?_)
          · exact ⟨hrng, hbx, hob⟩
          refine Reg.G_on (o := { dst := some 56, op := Op.move (Operand.tmp 0), type := 56, pos := "ref.go:39", after := #[], guard := Option.none }) (v := ?_) (by rfl) ?_ (fun wS hSw => ?_) ?_
          rotate_left
          · kernel_rfl
          · (try dsimp only at hSw); go_simp; (try with_reducible rfl)
          try simp only [Act.put, List.setIfInBounds_toArray, List.set_cons_zero, List.set_cons_succ]
          refine Reg.G_on (o := { dst := some 57, op := Op.move (Operand.tmp 11), type := 3, pos := "ref.go:39", after := #[], guard := Option.none }) (v := ?_) (by rfl) ?_ (fun wS hSw => ?_) ?_
          rotate_left
          · kernel_rfl
          · (try dsimp only at hSw); go_simp; (try with_reducible rfl)
          try simp only [Act.put, List.setIfInBounds_toArray, List.set_cons_zero, List.set_cons_succ]
          refine Reg.G_on (o := { dst := some 58, op := Op.indexAddr 56 (Operand.tmp 56) (Operand.tmp 57), type := 0, pos := "ref.go:39", after := #[{ on := 0, ground := Ground.data }, { on := 1, ground := Ground.data }], guard := Option.none }) (v := ?_) (by rfl) ?_ (fun wS hSw => ?_) ?_
          rotate_left
          · kernel_rfl
          · (try dsimp only at hSw); go_simp; (try with_reducible rfl)
          try simp only [Act.put, List.setIfInBounds_toArray, List.set_cons_zero, List.set_cons_succ]
          refine Reg.G_on (o := { dst := some 59, op := Op.fieldAddr 60 (Operand.tmp 58) 5, type := 0, pos := "ref.go:39", after := #[{ on := 2, ground := Ground.data }], guard := Option.none }) (v := ?_) (by rfl) ?_ (fun wS hSw => ?_) ?_
          rotate_left
          · kernel_rfl
          · (try dsimp only at hSw); go_simp; (try with_reducible rfl)
          try simp only [Act.put, List.setIfInBounds_toArray, List.set_cons_zero, List.set_cons_succ]
          refine Reg.G_on (o := { dst := some 60, op := Op.load 53 (Operand.tmp 59), type := 53, pos := "ref.go:39", after := #[{ on := 3, ground := Ground.data }], guard := Option.none }) (v := .agg (nums .u8 y.key).toArray) (by rfl) ?_ (fun wS hSw => ?_) ?_
          · kernel_rfl
          · exact load_yields rfl rfl hSw.1 Try.underlying53 rfl (key17 _ (key_len y))
          try simp only [Act.put, List.setIfInBounds_toArray, List.set_cons_zero, List.set_cons_succ]
          refine Reg.G_on (o := { dst := some 61, op := Op.fieldAddr 60 (Operand.tmp 7) 5, type := 0, pos := "ref.go:39", after := #[], guard := Option.none }) (v := ?_) (by rfl) ?_ (fun wS hSw => ?_) ?_
          rotate_left
          · kernel_rfl
          · (try dsimp only at hSw); go_simp; (try with_reducible rfl)
          try simp only [Act.put, List.setIfInBounds_toArray, List.set_cons_zero, List.set_cons_succ]
          refine Reg.G_on (o := { dst := some 62, op := Op.load 53 (Operand.tmp 61), type := 53, pos := "ref.go:39", after := #[{ on := 5, ground := Ground.data }], guard := Option.none }) (v := .agg (nums .u8 x.key).toArray) (by rfl) ?_ (fun wS hSw => ?_) ?_
          · kernel_rfl
          · exact load_yields rfl rfl (box_key hSw.2.1) Try.underlying53 rfl (key17 _ (key_len x))
          try simp only [Act.put, List.setIfInBounds_toArray, List.set_cons_zero, List.set_cons_succ]
          refine Reg.G_on (o := { dst := some 63, op := Op.binOp BinOp.eql 53 (Operand.tmp 60) (Operand.tmp 62) 53, type := 4, pos := "ref.go:39", after := #[{ on := 4, ground := Ground.data }, { on := 6, ground := Ground.data }], guard := Option.none }) (v := .bool true) (by rfl) ?_ (fun wS hSw => ?_) ?_
          · kernel_rfl
          · exact eql_yields rfl rfl rfl gd_key (hq _)
          try simp only [Act.put, List.setIfInBounds_toArray, List.set_cons_zero, List.set_cons_succ]
          refine Reg.G_on (o := { dst := some 64, op := Op.move (Operand.tmp 63), type := 4, pos := "ref.go:39", after := #[{ on := 7, ground := Ground.data }], guard := Option.none }) (v := ?_) (by rfl) ?_ (fun wS hSw => ?_) ?_
          rotate_left
          · kernel_rfl
          · (try dsimp only at hSw); go_simp; (try with_reducible rfl)
          try simp only [Act.put, List.setIfInBounds_toArray, List.set_cons_zero, List.set_cons_succ]
          refine Reg.G_off (o := { dst := some 65, op := Op.move (Operand.tmp 1), type := 3, pos := "ref.go:39", after := #[{ on := 8, ground := Ground.guard }], guard := some (8, false) }) (by rfl) ?_ ?_
          · kernel_rfl
          try simp only [Act.put, List.setIfInBounds_toArray, List.set_cons_zero, List.set_cons_succ]
          refine Reg.G_off (o := { dst := some 66, op := Op.binOp BinOp.leq 3 (Operand.tmp 65) (Operand.const (Value.int IntKind.i64 0)) 3, type := 4, pos := "ref.go:39", after := #[{ on := 9, ground := Ground.data }, { on := 8, ground := Ground.guard }], guard := some (8, false) }) (by rfl) ?_ ?_
          · kernel_rfl
          try simp only [Act.put, List.setIfInBounds_toArray, List.set_cons_zero, List.set_cons_succ]
          refine Reg.G_off (o := { dst := some 67, op := Op.move (Operand.tmp 66), type := 4, pos := "ref.go:39", after := #[{ on := 10, ground := Ground.data }, { on := 8, ground := Ground.chain }, { on := 8, ground := Ground.guard }], guard := some (8, false) }) (by rfl) ?_ ?_
          · kernel_rfl
          try simp only [Act.put, List.setIfInBounds_toArray, List.set_cons_zero, List.set_cons_succ]
          refine Reg.G_off (o := { dst := some 68, op := Op.fieldAddr 60 (Operand.tmp 7) 0, type := 0, pos := "ref.go:39", after := #[{ on := 11, ground := Ground.guard }], guard := some (11, true) }) (by rfl) ?_ ?_
          · kernel_rfl
          try simp only [Act.put, List.setIfInBounds_toArray, List.set_cons_zero, List.set_cons_succ]
          refine Reg.G_off (o := { dst := some 69, op := Op.load 3 (Operand.tmp 68), type := 3, pos := "ref.go:39", after := #[{ on := 12, ground := Ground.data }, { on := 11, ground := Ground.guard }], guard := some (11, true) }) (by rfl) ?_ ?_
          · kernel_rfl
          try simp only [Act.put, List.setIfInBounds_toArray, List.set_cons_zero, List.set_cons_succ]
          refine Reg.G_off (o := { dst := some 70, op := Op.binOp BinOp.eql 3 (Operand.tmp 69) (Operand.const (Value.int IntKind.i64 1)) 3, type := 4, pos := "ref.go:39", after := #[{ on := 13, ground := Ground.data }, { on := 11, ground := Ground.guard }], guard := some (11, true) }) (by rfl) ?_ ?_
          · kernel_rfl
          try simp only [Act.put, List.setIfInBounds_toArray, List.set_cons_zero, List.set_cons_succ]
          refine Reg.G_off (o := { dst := some 71, op := Op.pick (Operand.tmp 67) (Operand.tmp 70) (Operand.const (Value.bool false)), type := 4, pos := "ref.go:39", after := #[{ on := 11, ground := Ground.data }, { on := 14, ground := Ground.data }, { on := 8, ground := Ground.guard }], guard := some (8, false) }) (by rfl) ?_ ?_
          · kernel_rfl
          try simp only [Act.put, List.setIfInBounds_toArray, List.set_cons_zero, List.set_cons_succ]
          refine Reg.G_on (o := { dst := some 72, op := Op.pick (Operand.tmp 64) (Operand.const (Value.bool true)) (Operand.tmp 71), type := 4, pos := "ref.go:39", after := #[{ on := 8, ground := Ground.data }, { on := 15, ground := Ground.data }], guard := Option.none }) (v := ?_) (by rfl) ?_ (fun wS hSw => ?_) ?_
          rotate_left
          · kernel_rfl
          · (try dsimp only at hSw); go_simp; (try with_reducible rfl)
          try simp only [Act.put, List.setIfInBounds_toArray, List.set_cons_zero, List.set_cons_succ]
          refine Reg.G_on (o := { dst := some 12, op := Op.assign (Operand.tmp 72), type := 4, pos := "ref.go:39", after := #[{ on := 16, ground := Ground.data }, { on := 11, ground := Ground.chain }, { on := 0, ground := Ground.phase }, { on := 1, ground := Ground.phase }, { on := 2, ground := Ground.phase }, { on := 3, ground := Ground.phase }, { on := 4, ground := Ground.phase }, { on := 5, ground := Ground.phase }, { on := 6, ground := Ground.phase }, { on := 7, ground := Ground.phase }, { on := 8, ground := Ground.phase }, { on := 9, ground := Ground.phase }, { on := 10, ground := Ground.phase }, { on := 11, ground := Ground.phase }, { on := 12, ground := Ground.phase }, { on := 13, ground := Ground.phase }, { on := 14, ground := Ground.phase }, { on := 15, ground := Ground.phase }, { on := 16, ground := Ground.phase }], guard := Option.none }) (v := ?_) (by rfl) ?_ (fun wS hSw => ?_) ?_
          rotate_left
          · kernel_rfl
          · (try dsimp only at hSw); go_simp; (try with_reducible rfl)
          try simp only [Act.put, List.setIfInBounds_toArray, List.set_cons_zero, List.set_cons_succ]
          refine Reg.G_done ?_
          clear hHeld
          go_wp2
          rw [hwi, hwg]
          exact ⟨⟨i + 1, out, goes - 1, rfl, rfl, hlt2.out, hs2, hO, hbx, bb.drew⟩, meas _ _ hlt2.out⟩
        · have hs2 := Lib.hid (hstep.trans (rgo_zero hg))
          clear hstep
          have HO := hO.drew
          obtain ⟨v7, w7, hrun, r7, g7, s7⟩ := HO.append (fun k hk => hk.2) y (by have := hol.out; have := HL.out; omega) 56
          have hown := HO.own
          have hbx7 := blk_grown (w := wr.drew) hbx g7 (fun e => by have := (hown _ e.symm).1.1; omega)
          have HX : Hid (Row w7 (New (w.heap.size + 1) w7) v7 (out ++ [y]) ∧ w7.heap[w.heap.size]? = some (.cells (cells x).toArray 60 (0, 0)) ∧ Below w.heap.size w w7) := Lib.hid ⟨Row.news r7 (blk_lt hbx) (Nat.le_of_lt s7), hbx7, bb.drew.grown g7 (show w.heap.size ≤ wr.drew.heap.size from bb.size) (fun k hk => by have := (hown k hk).1.1; omega)⟩
          obtain ⟨A6, c6, rfl, _, _⟩ := HO.slice
          clear r7 g7 s7 hown hO HO bb hbx7
          go_wp2_with fail
          try have hd9 := HDX.out
          refine Reg.wp_plan (S := fun w' => w'.rangeAt g (i * 23 + 5) (nums .u8 y.key) ∧ w'.heap[w.heap.size]? = some (.cells (cells x).toArray 60 (0, 0)) ∧ w'.cell? ⟨w.heap.size, 0, none⟩ = some (.int .i64 q)) 18 (.fl 0 (.fl 1 (.fl 2 (.fl 3 (.fl 4 (.fl 5 (.fl 6 (.fl 7 (.fl 8 (.fl 9 (.fl 10 (.fl 11 (.fl 12 (.fl 13 (.fl 14 (.fl 15 (.fl 16 (.fl 17 .done)))))))))))))))))) (by kernel_rfl) (by kernel_rfl) (by kernel_rfl) (by kernel_rfl) (fun _ _ _ d _ h => by cases d <;> exact h) ?_ (fun hHeld => ?_)
          · exact ⟨hrng, hbx, hob⟩
          refine Reg.G_on (o := { dst := some 56, op := Op.move (Operand.tmp 0), type := 56, pos := "ref.go:39", after := #[], guard := Option.none }) (v := ?_) (by rfl) ?_ (fun wS hSw => ?_) ?_
          rotate_left
          · kernel_rfl
          · (try dsimp only at hSw); go_simp; (try with_reducible rfl)
          try simp only [Act.put, List.setIfInBounds_toArray, List.set_cons_zero, List.set_cons_succ]
          refine Reg.G_on (o := { dst := some 57, op := Op.move (Operand.tmp 11), type := 3, pos := "ref.go:39", after := #[], guard := Option.none }) (v := ?_) (by rfl) ?_ (fun wS hSw => ?_) ?_
          rotate_left
          · kernel_rfl
          · (try dsimp only at hSw); go_simp; (try with_reducible rfl)
          try simp only [Act.put, List.setIfInBounds_toArray, List.set_cons_zero, List.set_cons_succ]
          refine Reg.G_on (o := { dst := some 58, op := Op.indexAddr 56 (Operand.tmp 56) (Operand.tmp 57), type := 0, pos := "ref.go:39", after := #[{ on := 0, ground := Ground.data }, { on := 1, ground := Ground.data }], guard := Option.none }) (v := ?_) (by rfl) ?_ (fun wS hSw => ?_) ?_
          rotate_left
          · kernel_rfl
          · (try dsimp only at hSw); go_simp; (try with_reducible rfl)
          try simp only [Act.put, List.setIfInBounds_toArray, List.set_cons_zero, List.set_cons_succ]
          refine Reg.G_on (o := { dst := some 59, op := Op.fieldAddr 60 (Operand.tmp 58) 5, type := 0, pos := "ref.go:39", after := #[{ on := 2, ground := Ground.data }], guard := Option.none }) (v := ?_) (by rfl) ?_ (fun wS hSw => ?_) ?_
          rotate_left
          · kernel_rfl
          · (try dsimp only at hSw); go_simp; (try with_reducible rfl)
          try simp only [Act.put, List.setIfInBounds_toArray, List.set_cons_zero, List.set_cons_succ]
          refine Reg.G_on (o := { dst := some 60, op := Op.load 53 (Operand.tmp 59), type := 53, pos := "ref.go:39", after := #[{ on := 3, ground := Ground.data }], guard := Option.none }) (v := .agg (nums .u8 y.key).toArray) (by rfl) ?_ (fun wS hSw => ?_) ?_
          · kernel_rfl
          · exact load_yields rfl rfl hSw.1 Try.underlying53 rfl (key17 _ (key_len y))
          try simp only [Act.put, List.setIfInBounds_toArray, List.set_cons_zero, List.set_cons_succ]
          refine Reg.G_on (o := { dst := some 61, op := Op.fieldAddr 60 (Operand.tmp 7) 5, type := 0, pos := "ref.go:39", after := #[], guard := Option.none }) (v := ?_) (by rfl) ?_ (fun wS hSw => ?_) ?_
          rotate_left
          · kernel_rfl
          · (try dsimp only at hSw); go_simp; (try with_reducible rfl)
          try simp only [Act.put, List.setIfInBounds_toArray, List.set_cons_zero, List.set_cons_succ]
          refine Reg.G_on (o := { dst := some 62, op := Op.load 53 (Operand.tmp 61), type := 53, pos := "ref.go:39", after := #[{ on := 5, ground := Ground.data }], guard := Option.none }) (v := .agg (nums .u8 x.key).toArray) (by rfl) ?_ (fun wS hSw => ?_) ?_
          · kernel_rfl
          · exact load_yields rfl rfl (box_key hSw.2.1) Try.underlying53 rfl (key17 _ (key_len x))
          try simp only [Act.put, List.setIfInBounds_toArray, List.set_cons_zero, List.set_cons_succ]
          refine Reg.G_on (o := { dst := some 63, op := Op.binOp BinOp.eql 53 (Operand.tmp 60) (Operand.tmp 62) 53, type := 4, pos := "ref.go:39", after := #[{ on := 4, ground := Ground.data }, { on := 6, ground := Ground.data }], guard := Option.none }) (v := .bool true) (by rfl) ?_ (fun wS hSw => ?_) ?_
          · kernel_rfl
          · exact eql_yields rfl rfl rfl gd_key (hq _)
          try simp only [Act.put, List.setIfInBounds_toArray, List.set_cons_zero, List.set_cons_succ]
          refine Reg.G_on (o := { dst := some 64, op := Op.move (Operand.tmp 63), type := 4, pos := "ref.go:39", after := #[{ on := 7, ground := Ground.data }], guard := Option.none }) (v := ?_) (by rfl) ?_ (fun wS hSw => ?_) ?_
          rotate_left
          · kernel_rfl
          · (try dsimp only at hSw); go_simp; (try with_reducible rfl)
          try simp only [Act.put, List.setIfInBounds_toArray, List.set_cons_zero, List.set_cons_succ]
          refine Reg.G_off (o := { dst := some 65, op := Op.move (Operand.tmp 1), type := 3, pos := "ref.go:39", after := #[{ on := 8, ground := Ground.guard }], guard := some (8, false) }) (by rfl) ?_ ?_
          · kernel_rfl
          try simp only [Act.put, List.setIfInBounds_toArray, List.set_cons_zero, List.set_cons_succ]
          refine Reg.G_off (o := { dst := some 66, op := Op.binOp BinOp.leq 3 (Operand.tmp 65) (Operand.const (Value.int IntKind.i64 0)) 3, type := 4, pos := "ref.go:39", after := #[{ on := 9, ground := Ground.data }, { on := 8, ground := Ground.guard }], guard := some (8, false) }) (by rfl) ?_ ?_
          · kernel_rfl
          try simp only [Act.put, List.setIfInBounds_toArray, List.set_cons_zero, List.set_cons_succ]
          refine Reg.G_off (o := { dst := some 67, op := Op.move (Operand.tmp 66), type := 4, pos := "ref.go:39", after := #[{ on := 10, ground := Ground.data }, { on := 8, ground := Ground.chain }, { on := 8, ground := Ground.guard }], guard := some (8, false) }) (by rfl) ?_ ?_
          · kernel_rfl
          try simp only [Act.put, List.setIfInBounds_toArray, List.set_cons_zero, List.set_cons_succ]
          refine Reg.G_off (o := { dst := some 68, op := Op.fieldAddr 60 (Operand.tmp 7) 0, type := 0, pos := "ref.go:39", after := #[{ on := 11, ground := Ground.guard }], guard := some (11, true) }) (by rfl) ?_ ?_
          · kernel_rfl
          try simp only [Act.put, List.setIfInBounds_toArray, List.set_cons_zero, List.set_cons_succ]
          refine Reg.G_off (o := { dst := some 69, op := Op.load 3 (Operand.tmp 68), type := 3, pos := "ref.go:39", after := #[{ on := 12, ground := Ground.data }, { on := 11, ground := Ground.guard }], guard := some (11, true) }) (by rfl) ?_ ?_
          · kernel_rfl
          try simp only [Act.put, List.setIfInBounds_toArray, List.set_cons_zero, List.set_cons_succ]
          refine Reg.G_off (o := { dst := some 70, op := Op.binOp BinOp.eql 3 (Operand.tmp 69) (Operand.const (Value.int IntKind.i64 1)) 3, type := 4, pos := "ref.go:39", after := #[{ on := 13, ground := Ground.data }, { on := 11, ground := Ground.guard }], guard := some (11, true) }) (by rfl) ?_ ?_
          · kernel_rfl
          try simp only [Act.put, List.setIfInBounds_toArray, List.set_cons_zero, List.set_cons_succ]
          refine Reg.G_off (o := { dst := some 71, op := Op.pick (Operand.tmp 67) (Operand.tmp 70) (Operand.const (Value.bool false)), type := 4, pos := "ref.go:39", after := #[{ on := 11, ground := Ground.data }, { on := 14, ground := Ground.data }, { on := 8, ground := Ground.guard }], guard := some (8, false) }) (by rfl) ?_ ?_
          · kernel_rfl
          try simp only [Act.put, List.setIfInBounds_toArray, List.set_cons_zero, List.set_cons_succ]
          refine Reg.G_on (o := { dst := some 72, op := Op.pick (Operand.tmp 64) (Operand.const (Value.bool true)) (Operand.tmp 71), type := 4, pos := "ref.go:39", after := #[{ on := 8, ground := Ground.data }, { on := 15, ground := Ground.data }], guard := Option.none }) (v := ?_) (by rfl) ?_ (fun wS hSw => ?_) ?_
          rotate_left
          · kernel_rfl
          · (try dsimp only at hSw); go_simp; (try with_reducible rfl)
          try simp only [Act.put, List.setIfInBounds_toArray, List.set_cons_zero, List.set_cons_succ]
          refine Reg.G_on (o := { dst := some 12, op := Op.assign (Operand.tmp 72), type := 4, pos := "ref.go:39", after := #[{ on := 16, ground := Ground.data }, { on := 11, ground := Ground.chain }, { on := 0, ground := Ground.phase }, { on := 1, ground := Ground.phase }, { on := 2, ground := Ground.phase }, { on := 3, ground := Ground.phase }, { on := 4, ground := Ground.phase }, { on := 5, ground := Ground.phase }, { on := 6, ground := Ground.phase }, { on := 7, ground := Ground.phase }, { on := 8, ground := Ground.phase }, { on := 9, ground := Ground.phase }, { on := 10, ground := Ground.phase }, { on := 11, ground := Ground.phase }, { on := 12, ground := Ground.phase }, { on := 13, ground := Ground.phase }, { on := 14, ground := Ground.phase }, { on := 15, ground := Ground.phase }, { on := 16, ground := Ground.phase }], guard := Option.none }) (v := ?_) (by rfl) ?_ (fun wS hSw => ?_) ?_
          rotate_left
          · kernel_rfl
          · (try dsimp only at hSw); go_simp; (try with_reducible rfl)
          try simp only [Act.put, List.setIfInBounds_toArray, List.set_cons_zero, List.set_cons_succ]
          refine Reg.G_done ?_
          clear hHeld
          go_wp2_with (first | ((with_reducible refine gate_dst (N := 84) rfl ?_); refine wpList_load_mid rfl 60 (.tmp 83) rfl g (i * 23) rfl (cells y) _ hrng2 Try.underlying60 rfl (size23 y) ?_) | ((with_reducible refine gate_dst (N := 85) rfl ?_); refine build1L (x := y) rfl rfl rfl ?_) | (at_builtin; refine wp_append rfl (.tmp 80) (.tmp 85) 56 rfl rfl rfl hrun ?_))
          rw [hwi]
          exact ⟨⟨i + 1, out ++ [y], goes, rfl, rfl, hlt2.out, hs2, HX.out.1, HX.out.2.1, HX.out.2.2⟩, meas _ _ hlt2.out⟩
      | false =>
        have hd2 : decide (y.key = x.key) = false := hp
        rw [hd2] at hq
        have hpf := pp_f3 (d := d) (x := x) (y := y) hp HOP.out
        have hs2 := Lib.hid (hstep.trans (rgo_no hpf))
        clear hstep
        have HO := hO.drew
        obtain ⟨v7, w7, hrun, r7, g7, s7⟩ := HO.append (fun k hk => hk.2) y (by have := hol.out; have := HL.out; omega) 56
        have hown := HO.own
        have hbx7 := blk_grown (w := wr.drew) hbx g7 (fun e => by have := (hown _ e.symm).1.1; omega)
        have HX : Hid (Row w7 (New (w.heap.size + 1) w7) v7 (out ++ [y]) ∧ w7.heap[w.heap.size]? = some (.cells (cells x).toArray 60 (0, 0)) ∧ Below w.heap.size w w7) := Lib.hid ⟨Row.news r7 (blk_lt hbx) (Nat.le_of_lt s7), hbx7, bb.drew.grown g7 (show w.heap.size ≤ wr.drew.heap.size from bb.size) (fun k hk => by have := (hown k hk).1.1; omega)⟩
        obtain ⟨A6, c6, rfl, _, _⟩ := HO.slice
        clear r7 g7 s7 hown hO HO bb hbx7
        go_wp2_with fail
        try have hd9 := HDX.out
        refine Reg.wp_plan (S := fun w' => w'.rangeAt g (i * 23 + 5) (nums .u8 y.key) ∧ w'.heap[w.heap.size]? = some (.cells (cells x).toArray 60 (0, 0)) ∧ w'.cell? ⟨w.heap.size, 0, none⟩ = some (.int .i64 q)) 18 (.fl 0 (.fl 1 (.fl 2 (.fl 3 (.fl 4 (.fl 5 (.fl 6 (.fl 7 (.fl 8 (.fl 9 (.fl 10 (.fl 11 (.fl 12 (.fl 13 (.fl 14 (.fl 15 (.fl 16 (.fl 17 .done)))))))))))))))))) (by kernel_rfl) (by kernel_rfl) (by kernel_rfl) (by kernel_rfl) (fun _ _ _ d _ h => by cases d <;> exact h) ?_ (fun hHeld => ?_)
        · exact ⟨hrng, hbx, hob⟩
        refine Reg.G_on (o := { dst := some 56, op := Op.move (Operand.tmp 0), type := 56, pos := "ref.go:39", after := #[], guard := Option.none }) (v := ?_) (by rfl) ?_ (fun wS hSw => ?_) ?_
        rotate_left
        · kernel_rfl
        · (try dsimp only at hSw); go_simp; (try with_reducible rfl)
        try simp only [Act.put, List.setIfInBounds_toArray, List.set_cons_zero, List.set_cons_succ]
        refine Reg.G_on (o := { dst := some 57, op := Op.move (Operand.tmp 11), type := 3, pos := "ref.go:39", after := #[], guard := Option.none }) (v := ?_) (by rfl) ?_ (fun wS hSw => ?_) ?_
        rotate_left
        · kernel_rfl
        · (try dsimp only at hSw); go_simp; (try with_reducible rfl)
        try simp only [Act.put, List.setIfInBounds_toArray, List.set_cons_zero, List.set_cons_succ]
        refine Reg.G_on (o := { dst := some 58, op := Op.indexAddr 56 (Operand.tmp 56) (Operand.tmp 57), type := 0, pos := "ref.go:39", after := #[{ on := 0, ground := Ground.data }, { on := 1, ground := Ground.data }], guard := Option.none }) (v := ?_) (by rfl) ?_ (fun wS hSw => ?_) ?_
        rotate_left
        · kernel_rfl
        · (try dsimp only at hSw); go_simp; (try with_reducible rfl)
        try simp only [Act.put, List.setIfInBounds_toArray, List.set_cons_zero, List.set_cons_succ]
        refine Reg.G_on (o := { dst := some 59, op := Op.fieldAddr 60 (Operand.tmp 58) 5, type := 0, pos := "ref.go:39", after := #[{ on := 2, ground := Ground.data }], guard := Option.none }) (v := ?_) (by rfl) ?_ (fun wS hSw => ?_) ?_
        rotate_left
        · kernel_rfl
        · (try dsimp only at hSw); go_simp; (try with_reducible rfl)
        try simp only [Act.put, List.setIfInBounds_toArray, List.set_cons_zero, List.set_cons_succ]
        refine Reg.G_on (o := { dst := some 60, op := Op.load 53 (Operand.tmp 59), type := 53, pos := "ref.go:39", after := #[{ on := 3, ground := Ground.data }], guard := Option.none }) (v := .agg (nums .u8 y.key).toArray) (by rfl) ?_ (fun wS hSw => ?_) ?_
        · kernel_rfl
        · exact load_yields rfl rfl hSw.1 Try.underlying53 rfl (key17 _ (key_len y))
        try simp only [Act.put, List.setIfInBounds_toArray, List.set_cons_zero, List.set_cons_succ]
        refine Reg.G_on (o := { dst := some 61, op := Op.fieldAddr 60 (Operand.tmp 7) 5, type := 0, pos := "ref.go:39", after := #[], guard := Option.none }) (v := ?_) (by rfl) ?_ (fun wS hSw => ?_) ?_
        rotate_left
        · kernel_rfl
        · (try dsimp only at hSw); go_simp; (try with_reducible rfl)
        try simp only [Act.put, List.setIfInBounds_toArray, List.set_cons_zero, List.set_cons_succ]
        refine Reg.G_on (o := { dst := some 62, op := Op.load 53 (Operand.tmp 61), type := 53, pos := "ref.go:39", after := #[{ on := 5, ground := Ground.data }], guard := Option.none }) (v := .agg (nums .u8 x.key).toArray) (by rfl) ?_ (fun wS hSw => ?_) ?_
        · kernel_rfl
        · exact load_yields rfl rfl (box_key hSw.2.1) Try.underlying53 rfl (key17 _ (key_len x))
        try simp only [Act.put, List.setIfInBounds_toArray, List.set_cons_zero, List.set_cons_succ]
        refine Reg.G_on (o := { dst := some 63, op := Op.binOp BinOp.eql 53 (Operand.tmp 60) (Operand.tmp 62) 53, type := 4, pos := "ref.go:39", after := #[{ on := 4, ground := Ground.data }, { on := 6, ground := Ground.data }], guard := Option.none }) (v := .bool false) (by rfl) ?_ (fun wS hSw => ?_) ?_
        · kernel_rfl
        · exact eql_yields rfl rfl rfl gd_key (hq _)
        try simp only [Act.put, List.setIfInBounds_toArray, List.set_cons_zero, List.set_cons_succ]
        refine Reg.G_on (o := { dst := some 64, op := Op.move (Operand.tmp 63), type := 4, pos := "ref.go:39", after := #[{ on := 7, ground := Ground.data }], guard := Option.none }) (v := ?_) (by rfl) ?_ (fun wS hSw => ?_) ?_
        rotate_left
        · kernel_rfl
        · (try dsimp only at hSw); go_simp; (try with_reducible rfl)
        try simp only [Act.put, List.setIfInBounds_toArray, List.set_cons_zero, List.set_cons_succ]
        refine Reg.G_on (o := { dst := some 65, op := Op.move (Operand.tmp 1), type := 3, pos := "ref.go:39", after := #[{ on := 8, ground := Ground.guard }], guard := some (8, false) }) (v := ?_) (by rfl) ?_ (fun wS hSw => ?_) ?_
        rotate_left
        · kernel_rfl
        · (try dsimp only at hSw); go_simp; (try with_reducible rfl)
        try simp only [Act.put, List.setIfInBounds_toArray, List.set_cons_zero, List.set_cons_succ]
        refine Reg.G_on (o := { dst := some 66, op := Op.binOp BinOp.leq 3 (Operand.tmp 65) (Operand.const (Value.int IntKind.i64 0)) 3, type := 4, pos := "ref.go:39", after := #[{ on := 9, ground := Ground.data }, { on := 8, ground := Ground.guard }], guard := some (8, false) }) (v := ?_) (by rfl) ?_ (fun wS hSw => ?_) ?_
        rotate_left
        · kernel_rfl
        · (try dsimp only at hSw); go_simp; (try with_reducible rfl)
        try simp only [Act.put, List.setIfInBounds_toArray, List.set_cons_zero, List.set_cons_succ]
        refine Reg.G_on (o := { dst := some 67, op := Op.move (Operand.tmp 66), type := 4, pos := "ref.go:39", after := #[{ on := 10, ground := Ground.data }, { on := 8, ground := Ground.chain }, { on := 8, ground := Ground.guard }], guard := some (8, false) }) (v := ?_) (by rfl) ?_ (fun wS hSw => ?_) ?_
        rotate_left
        · kernel_rfl
        · (try dsimp only at hSw); go_simp; (try with_reducible rfl)
        try simp only [Act.put, List.setIfInBounds_toArray, List.set_cons_zero, List.set_cons_succ]
        refine Reg.G_on (o := { dst := some 68, op := Op.fieldAddr 60 (Operand.tmp 7) 0, type := 0, pos := "ref.go:39", after := #[{ on := 11, ground := Ground.guard }], guard := some (11, true) }) (v := ?_) (by rfl) ?_ (fun wS hSw => ?_) ?_
        rotate_left
        · kernel_rfl
        · (try dsimp only at hSw); go_simp; (try with_reducible rfl)
        try simp only [Act.put, List.setIfInBounds_toArray, List.set_cons_zero, List.set_cons_succ]
        refine Reg.G_on (o := { dst := some 69, op := Op.load 3 (Operand.tmp 68), type := 3, pos := "ref.go:39", after := #[{ on := 12, ground := Ground.data }, { on := 11, ground := Ground.guard }], guard := some (11, true) }) (v := ?_) (by rfl) ?_ (fun wS hSw => ?_) ?_
        rotate_left
        · kernel_rfl
        · (try dsimp only at hSw); go_simp; (try with_reducible rfl)
        try simp only [Act.put, List.setIfInBounds_toArray, List.set_cons_zero, List.set_cons_succ]
        refine Reg.G_on (o := { dst := some 70, op := Op.binOp BinOp.eql 3 (Operand.tmp 69) (Operand.const (Value.int IntKind.i64 1)) 3, type := 4, pos := "ref.go:39", after := #[{ on := 13, ground := Ground.data }, { on := 11, ground := Ground.guard }], guard := some (11, true) }) (v := ?_) (by rfl) ?_ (fun wS hSw => ?_) ?_
        rotate_left
        · kernel_rfl
        · (try dsimp only at hSw); go_simp; (try with_reducible rfl)
        try simp only [Act.put, List.setIfInBounds_toArray, List.set_cons_zero, List.set_cons_succ]
        refine Reg.G_on (o := { dst := some 71, op := Op.pick (Operand.tmp 67) (Operand.tmp 70) (Operand.const (Value.bool false)), type := 4, pos := "ref.go:39", after := #[{ on := 11, ground := Ground.data }, { on := 14, ground := Ground.data }, { on := 8, ground := Ground.guard }], guard := some (8, false) }) (v := ?_) (by rfl) ?_ (fun wS hSw => ?_) ?_
        rotate_left
        · kernel_rfl
        · (try dsimp only at hSw); go_simp; (try with_reducible rfl)
        try simp only [Act.put, List.setIfInBounds_toArray, List.set_cons_zero, List.set_cons_succ]
        refine Reg.G_on (o := { dst := some 72, op := Op.pick (Operand.tmp 64) (Operand.const (Value.bool true)) (Operand.tmp 71), type := 4, pos := "ref.go:39", after := #[{ on := 8, ground := Ground.data }, { on := 15, ground := Ground.data }], guard := Option.none }) (v := ?_) (by rfl) ?_ (fun wS hSw => ?_) ?_
        rotate_left
        · kernel_rfl
        · (try dsimp only at hSw); go_simp; (try with_reducible rfl)
        try simp only [Act.put, List.setIfInBounds_toArray, List.set_cons_zero, List.set_cons_succ]
        refine Reg.G_on (o := { dst := some 12, op := Op.assign (Operand.tmp 72), type := 4, pos := "ref.go:39", after := #[{ on := 16, ground := Ground.data }, { on := 11, ground := Ground.chain }, { on := 0, ground := Ground.phase }, { on := 1, ground := Ground.phase }, { on := 2, ground := Ground.phase }, { on := 3, ground := Ground.phase }, { on := 4, ground := Ground.phase }, { on := 5, ground := Ground.phase }, { on := 6, ground := Ground.phase }, { on := 7, ground := Ground.phase }, { on := 8, ground := Ground.phase }, { on := 9, ground := Ground.phase }, { on := 10, ground := Ground.phase }, { on := 11, ground := Ground.phase }, { on := 12, ground := Ground.phase }, { on := 13, ground := Ground.phase }, { on := 14, ground := Ground.phase }, { on := 15, ground := Ground.phase }, { on := 16, ground := Ground.phase }], guard := Option.none }) (v := ?_) (by rfl) ?_ (fun wS hSw => ?_) ?_
        rotate_left
        · kernel_rfl
        · (try dsimp only at hSw); go_simp; (try with_reducible rfl)
        try simp only [Act.put, List.setIfInBounds_toArray, List.set_cons_zero, List.set_cons_succ]
        refine Reg.G_done ?_
        clear hHeld
        go_wp2_with (first | ((with_reducible refine gate_dst (N := 84) rfl ?_); refine wpList_load_mid rfl 60 (.tmp 83) rfl g (i * 23) rfl (cells y) _ hrng2 Try.underlying60 rfl (size23 y) ?_) | ((with_reducible refine gate_dst (N := 85) rfl ?_); refine build1L (x := y) rfl rfl rfl ?_) | (at_builtin; refine wp_append rfl (.tmp 80) (.tmp 85) 56 rfl rfl rfl hrun ?_))
        rw [hwi]
        exact ⟨⟨i + 1, out ++ [y], goes, rfl, rfl, hlt2.out, hs2, HX.out.1, HX.out.2.1, HX.out.2.2⟩, meas _ _ hlt2.out⟩
    · have hlt1 : ¬ (i : Int) < (xs.length : Int) := by omega
      have hres : Hid ((rg (pp d x) G xs).1 = out) := Lib.hid (by rw [← List.take_of_length_le (show xs.length ≤ i by omega), hst.out])
      have hol2 : Hid (out.length ≤ xs.length) := Lib.hid (by rw [← hres.out]; exact (rg_bound (pp d x) G HG0.out.1 xs).1)
      clear hlt hi hst
      have HX : Hid (Row wr (fun k => F k ∨ New w.heap.size wr k) u9 (hput (mx0 d) (mx0 s) xs x) ∧ Below w.heap.size w wr) := Lib.hid ⟨by
        rw [HRES.out, hres.out, if_neg HOP.out, List.append_nil]
        exact hO.mono (fun k hk => .inr ⟨by have := hk.1; omega, hk.2⟩), bb⟩
      clear hO bb
      go_wp2
      go_ret
      exact ⟨_, rfl, HX.out.1, HX.out.2⟩
end Go.Proofs.Ytimalojaiaofkaa.His
