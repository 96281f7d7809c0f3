import Derived.Test.YtimalojaiaofkaaSqRingSteps2
set_option linter.unusedVariables false
set_option linter.unusedSimpArgs false
namespace Go.Proofs.Ytimalojaiaofkaa.His
open Go.RowKit Base Sp Flat Go.Proofs.YtimalojaiaofkaaW.PrintWords Go.Shelf Smp
theorem row_key {w : World} {F : Nat → Prop} {g n c : Nat} {xs : List Smp} (h : Row w F (.slice (some ⟨g, 0, none⟩) n c) xs) {i : Nat} (hi : i < xs.length) : w.rangeAt g (i * 23 + 5) (nums .u8 xs[i].key) := fun j u hj => by
  have hj' : j < 17 := by
    have := (List.getElem?_eq_some_iff.1 hj).1
    rwa [nums_length, key_len] at this
  rw [Nat.add_assoc]
  refine h.range hi (5 + j) u ?_
  unfold cells head
  rw [List.getElem?_append_right (by simp)]
  simp only [List.length_cons, List.length_nil]
  rw [show 5 + j - (0 + 1 + 1 + 1 + 1 + 1) = j from by omega, List.getElem?_append_left (by rw [nums_length, key_len]; exact hj')]
  exact hj
theorem Row.addr {w : World} {F : Nat → Prop} {A : Option Addr} {n c : Nat} {xs : List Smp} (h : Row w F (.slice A n c) xs) {i : Nat} (hi : i < xs.length) : ∃ g, A = some ⟨g, 0, none⟩ := by
  rcases h with ⟨e, hx⟩ | ⟨g, cap, rest, e, _⟩
  · subst hx; exact absurd hi (Nat.not_lt_zero _)
  · injection e with e1 _ _; exact ⟨g, e1⟩
section
variable {P : Program} {op : Oper} {a : Act} {W : World}
/-- A comparison of two aggregates whose result is known, as one operation. -/
theorem eql_yields {b : BinOp} {t t2 : TypeId} {x y : Operand} (ho : op.op = .binOp b t x y t2) {xs ys : Array Value} (hx : a.eval x = .agg xs) (hy : a.eval y = .agg ys) (hm : P.eqGuardType P.depth t = false) {r : Value}
    (hr : (binOp b t (.agg xs) (.agg ys)).run P W = .ok r W) : (execOp a.eval op).run P W = .ok (.value r) W := by
  unfold execOp
  simp only [ho, hx, hy, Sem.run_bind, run_eqGuard_agg W b t x y xs ys hm, Result.andThen_ok, hr, Sem.run_pure]
end
set_option maxHeartbeats 1000000 in
set_option maxRecDepth 20000 in
theorem rof {w : World} {F : Nat → Prop} {v : Value} {xs : List Smp} (h : Row w F v xs) (k : List Int) (hk : GKey k) :
    Calls Try.prog 38 #[v, .agg (nums .u8 k).toArray] w fun e w' => e = .returned (.int .i64 (cnt k xs : Int)) ∧ Below w.heap.size w w' := by
  have b1 : Below w.heap.size w (w.alloc (.cells (nums .u8 k).toArray 53)) := (Below.refl _ _).alloc (Nat.le_refl _) _
  have kb := heap_alloc_new w (.cells (nums .u8 k).toArray 53)
  have hR1 := h.alloc (.cells (nums .u8 k).toArray 53)
  have HK := Lib.hid hk
  have hm := h.small
  have hmm : maxLen = 9223372036854775807 := rfl
  have HL : Hid (xs.length ≤ 9223372036854775807) := Lib.hid (by omega)
  obtain ⟨A, c, rfl, _, hA⟩ := h.slice
  clear h hA hk hm hmm
  go_enter Try.func38, Try.ntmps38
  go_wp2
  go_loopw [5, 6] (fun v4 v5 wr => ∃ i : Nat, v5 = .int .i64 (i : Int) ∧ v4 = .int .i64 (cnt k (xs.take i) : Int) ∧ i ≤ xs.length ∧ Row wr F (.slice A xs.length c) xs ∧ wr.heap[w.heap.size]? = some (.cells (nums .u8 k).toArray 53 (0, 0)) ∧ Below w.heap.size w wr) (fun _ v5 _ => xs.length - (intOf v5).toNat)
  case atStart => exact ⟨0, rfl, rfl, Nat.zero_le _, hR1, kb, b1⟩
  case round =>
    clear hR1 kb b1
    obtain ⟨i, rfl, rfl, hi, hR, hk, bb⟩ := hrel
    have hcn := cnt_le k xs i
    by_cases hlt : i < xs.length
    · have h0 : (0 : Int) ≤ (i : Int) := by omega
      have hlt1 : (i : Int) < (xs.length : Int) := by omega
      obtain ⟨g, rfl⟩ := Row.addr hR hlt
      have hrng := row_key hR hlt
      have hstep := cnt_step k xs i hlt
      have hwi : wrap64 ((i : Int) + 1) = ((i + 1 : Nat) : Int) := by have := HL.out; unfold wrap64; omega
      have hwc : wrap64 ((cnt k (xs.take i) : Int) + 1) = ((cnt k (xs.take i) + 1 : Nat) : Int) := by have := HL.out; unfold wrap64; omega
      have hlt2 := Lib.hid hlt
      generalize xs[i] = x at hrng hstep
      have hq := fun W => keys_eql x.key k (smp_key x) HK.out W
      have r10 : wr.rangeAt w.heap.size 0 (nums .u8 k) := fun j u hj => by rw [blk_cell hk, Nat.zero_add, List.getElem?_toArray]; exact hj
      generalize hC : cnt k (xs.take i) = C at *
      have HH := Lib.hid (And.intro bb (And.intro hR hk))
      clear hC hcn hlt hi bb hR hk
      cases hp : itk k x with
      | true =>
        have hd : decide (x.key = k) = true := hp
        rw [hp, if_pos rfl] at hstep
        rw [hd] at hq
        have hs2 := Lib.hid hstep
        clear hp hd hstep
        go_wp2_with fail
        refine Reg.wp_plan (S := fun w' => w'.rangeAt g (i * 23 + 5) (nums .u8 x.key) ∧ w'.rangeAt w.heap.size 0 (nums .u8 k)) 7 (.fl 0 (.fl 1 (.fl 2 (.fl 3 (.fl 4 (.fl 5 (.fl 6 .done))))))) (by kernel_rfl) (by kernel_rfl) (by kernel_rfl) (by kernel_rfl) (fun _ _ _ d _ h => by cases d <;> exact h) ?_ (fun hHeld => ?_)
        · exact ⟨hrng, r10⟩
        refine Reg.G_on (o := { dst := some 13, op := Op.move (Operand.tmp 0), type := 56, pos := "ref.go:13", after := #[], guard := Option.none }) (v := ?_) (by rfl) ?_ (fun wS hSw => ?_) ?_
        rotate_left
        · kernel_rfl
        · (try dsimp only at hSw); go_simp; (try with_reducible rfl)
        try simp only [Act.put, List.setIfInBounds_toArray, List.set_cons_zero, List.set_cons_succ]
        refine Reg.G_on (o := { dst := some 14, op := Op.move (Operand.tmp 6), type := 3, pos := "ref.go:13", after := #[], guard := Option.none }) (v := ?_) (by rfl) ?_ (fun wS hSw => ?_) ?_
        rotate_left
        · kernel_rfl
        · (try dsimp only at hSw); go_simp; (try with_reducible rfl)
        try simp only [Act.put, List.setIfInBounds_toArray, List.set_cons_zero, List.set_cons_succ]
        refine Reg.G_on (o := { dst := some 15, op := Op.indexAddr 56 (Operand.tmp 13) (Operand.tmp 14), type := 0, pos := "ref.go:13", after := #[{ on := 0, ground := Ground.data }, { on := 1, ground := Ground.data }], guard := Option.none }) (v := ?_) (by rfl) ?_ (fun wS hSw => ?_) ?_
        rotate_left
        · kernel_rfl
        · (try dsimp only at hSw); go_simp; (try with_reducible rfl)
        try simp only [Act.put, List.setIfInBounds_toArray, List.set_cons_zero, List.set_cons_succ]
        refine Reg.G_on (o := { dst := some 16, op := Op.fieldAddr 60 (Operand.tmp 15) 5, type := 0, pos := "ref.go:13", after := #[{ on := 2, ground := Ground.data }], guard := Option.none }) (v := ?_) (by rfl) ?_ (fun wS hSw => ?_) ?_
        rotate_left
        · kernel_rfl
        · (try dsimp only at hSw); go_simp; (try with_reducible rfl)
        try simp only [Act.put, List.setIfInBounds_toArray, List.set_cons_zero, List.set_cons_succ]
        refine Reg.G_on (o := { dst := some 17, op := Op.load 53 (Operand.tmp 16), type := 53, pos := "ref.go:13", after := #[{ on := 3, ground := Ground.data }], guard := Option.none }) (v := .agg (nums .u8 x.key).toArray) (by rfl) ?_ (fun wS hSw => ?_) ?_
        · kernel_rfl
        · exact load_yields rfl rfl hSw.1 Try.underlying53 rfl (key17 _ (key_len x))
        try simp only [Act.put, List.setIfInBounds_toArray, List.set_cons_zero, List.set_cons_succ]
        refine Reg.G_on (o := { dst := some 18, op := Op.load 53 (Operand.tmp 3), type := 53, pos := "ref.go:13", after := #[], guard := Option.none }) (v := .agg (nums .u8 k).toArray) (by rfl) ?_ (fun wS hSw => ?_) ?_
        · kernel_rfl
        · exact load_yields rfl rfl hSw.2 Try.underlying53 rfl (key17 _ HK.out.1)
        try simp only [Act.put, List.setIfInBounds_toArray, List.set_cons_zero, List.set_cons_succ]
        refine Reg.G_on (o := { dst := some 19, op := Op.binOp BinOp.eql 53 (Operand.tmp 17) (Operand.tmp 18) 53, type := 4, pos := "ref.go:13", after := #[{ on := 4, ground := Ground.data }, { on := 5, ground := Ground.data }], guard := Option.none }) (v := .bool true) (by rfl) ?_ (fun wS hSw => ?_) ?_
        · kernel_rfl
        · exact eql_yields rfl rfl rfl gd_key (hq _)
        try simp only [Act.put, List.setIfInBounds_toArray, List.set_cons_zero, List.set_cons_succ]
        refine Reg.G_done ?_
        clear hHeld
        go_wp2
        rw [hwi, hwc]
        exact ⟨⟨i + 1, rfl, by rw [hs2.out], hlt2.out, HH.out.2.1, HH.out.2.2, HH.out.1.drew⟩, meas _ _ hlt2.out⟩
      | false =>
        have hd : decide (x.key = k) = false := hp
        rw [hp, if_neg (by decide)] at hstep
        rw [hd] at hq
        have hs2 := Lib.hid hstep
        clear hp hd hstep
        go_wp2_with fail
        refine Reg.wp_plan (S := fun w' => w'.rangeAt g (i * 23 + 5) (nums .u8 x.key) ∧ w'.rangeAt w.heap.size 0 (nums .u8 k)) 7 (.fl 0 (.fl 1 (.fl 2 (.fl 3 (.fl 4 (.fl 5 (.fl 6 .done))))))) (by kernel_rfl) (by kernel_rfl) (by kernel_rfl) (by kernel_rfl) (fun _ _ _ d _ h => by cases d <;> exact h) ?_ (fun hHeld => ?_)
        · exact ⟨hrng, r10⟩
        refine Reg.G_on (o := { dst := some 13, op := Op.move (Operand.tmp 0), type := 56, pos := "ref.go:13", after := #[], guard := Option.none }) (v := ?_) (by rfl) ?_ (fun wS hSw => ?_) ?_
        rotate_left
        · kernel_rfl
        · (try dsimp only at hSw); go_simp; (try with_reducible rfl)
        try simp only [Act.put, List.setIfInBounds_toArray, List.set_cons_zero, List.set_cons_succ]
        refine Reg.G_on (o := { dst := some 14, op := Op.move (Operand.tmp 6), type := 3, pos := "ref.go:13", after := #[], guard := Option.none }) (v := ?_) (by rfl) ?_ (fun wS hSw => ?_) ?_
        rotate_left
        · kernel_rfl
        · (try dsimp only at hSw); go_simp; (try with_reducible rfl)
        try simp only [Act.put, List.setIfInBounds_toArray, List.set_cons_zero, List.set_cons_succ]
        refine Reg.G_on (o := { dst := some 15, op := Op.indexAddr 56 (Operand.tmp 13) (Operand.tmp 14), type := 0, pos := "ref.go:13", after := #[{ on := 0, ground := Ground.data }, { on := 1, ground := Ground.data }], guard := Option.none }) (v := ?_) (by rfl) ?_ (fun wS hSw => ?_) ?_
        rotate_left
        · kernel_rfl
        · (try dsimp only at hSw); go_simp; (try with_reducible rfl)
        try simp only [Act.put, List.setIfInBounds_toArray, List.set_cons_zero, List.set_cons_succ]
        refine Reg.G_on (o := { dst := some 16, op := Op.fieldAddr 60 (Operand.tmp 15) 5, type := 0, pos := "ref.go:13", after := #[{ on := 2, ground := Ground.data }], guard := Option.none }) (v := ?_) (by rfl) ?_ (fun wS hSw => ?_) ?_
        rotate_left
        · kernel_rfl
        · (try dsimp only at hSw); go_simp; (try with_reducible rfl)
        try simp only [Act.put, List.setIfInBounds_toArray, List.set_cons_zero, List.set_cons_succ]
        refine Reg.G_on (o := { dst := some 17, op := Op.load 53 (Operand.tmp 16), type := 53, pos := "ref.go:13", after := #[{ on := 3, ground := Ground.data }], guard := Option.none }) (v := .agg (nums .u8 x.key).toArray) (by rfl) ?_ (fun wS hSw => ?_) ?_
        · kernel_rfl
        · exact load_yields rfl rfl hSw.1 Try.underlying53 rfl (key17 _ (key_len x))
        try simp only [Act.put, List.setIfInBounds_toArray, List.set_cons_zero, List.set_cons_succ]
        refine Reg.G_on (o := { dst := some 18, op := Op.load 53 (Operand.tmp 3), type := 53, pos := "ref.go:13", after := #[], guard := Option.none }) (v := .agg (nums .u8 k).toArray) (by rfl) ?_ (fun wS hSw => ?_) ?_
        · kernel_rfl
        · exact load_yields rfl rfl hSw.2 Try.underlying53 rfl (key17 _ HK.out.1)
        try simp only [Act.put, List.setIfInBounds_toArray, List.set_cons_zero, List.set_cons_succ]
        refine Reg.G_on (o := { dst := some 19, op := Op.binOp BinOp.eql 53 (Operand.tmp 17) (Operand.tmp 18) 53, type := 4, pos := "ref.go:13", after := #[{ on := 4, ground := Ground.data }, { on := 5, ground := Ground.data }], guard := Option.none }) (v := .bool false) (by rfl) ?_ (fun wS hSw => ?_) ?_
        · kernel_rfl
        · exact eql_yields rfl rfl rfl gd_key (hq _)
        try simp only [Act.put, List.setIfInBounds_toArray, List.set_cons_zero, List.set_cons_succ]
        refine Reg.G_done ?_
        clear hHeld
        go_wp2
        rw [hwi]
        exact ⟨⟨i + 1, rfl, by rw [hs2.out]; rfl, hlt2.out, HH.out.2.1, HH.out.2.2, HH.out.1.drew⟩, meas _ _ hlt2.out⟩
    · have hlt1 : ¬ (i : Int) < (xs.length : Int) := by omega
      have hres : Hid (cnt k (xs.take i) = cnt k xs) := Lib.hid (by rw [List.take_of_length_le (by omega)])
      clear hlt hi hcn hk hR
      go_wp2
      go_ret
      exact ⟨by rw [hres.out]; rfl, bb⟩
set_option maxHeartbeats 1000000 in
set_option maxRecDepth 20000 in
theorem rsame {w : World} {F G : Nat → Prop} {v u : Value} {xs ys : List Smp} (h : Row w F v xs) (h' : Row w G u ys) :
    Calls Try.prog 34 #[v, u] w fun e w' => e = .returned (.bool (decide (xs = ys))) ∧ Below w.heap.size w w' := by
  have b1 := Below.refl w.heap.size w
  have hm := h.small
  have hmm : maxLen = 9223372036854775807 := rfl
  have HL : Hid (xs.length ≤ 9223372036854775807) := Lib.hid (by omega)
  obtain ⟨A, c, rfl, _, hA⟩ := h.slice
  obtain ⟨B, c', rfl, _, hB⟩ := h'.slice
  clear hA hB hm hmm
  by_cases hl : xs.length = ys.length
  · have hlq : ((xs.length : Int) != (ys.length : Int)) = false := bne_eq_false_iff_eq.2 (by omega)
    have HE := Lib.hid hl
    go_enter Try.func34, Try.ntmps34
    go_wp2
    go_loopw [5] (fun v5 wr => ∃ i : Nat, v5 = .int .i64 (i : Int) ∧ i ≤ xs.length ∧ Hid (xs.take i = ys.take i) ∧ Row wr F (.slice A xs.length c) xs ∧ Row wr G (.slice B ys.length c') ys ∧ Below w.heap.size w wr) (fun v5 _ => xs.length - (intOf v5).toNat)
    case atStart => exact ⟨0, rfl, Nat.zero_le _, Lib.hid rfl, h, h', b1⟩
    case round =>
      clear h h' b1
      obtain ⟨i, rfl, hi, ht, hR, hR', bb⟩ := hrel
      by_cases hlt : i < xs.length
      · have h0 : (0 : Int) ≤ (i : Int) := by omega
        have hlt1 : (i : Int) < (xs.length : Int) := by omega
        have hlt' : i < ys.length := by omega
        have hlt3 : (i : Int) < (ys.length : Int) := by omega
        obtain ⟨g, rfl⟩ := Row.addr hR hlt
        obtain ⟨g', rfl⟩ := Row.addr hR' hlt'
        have q1 := hR.range hlt
        have q2 := hR'.range hlt'
        have hwi : wrap64 ((i : Int) + 1) = ((i + 1 : Nat) : Int) := by have := HL.out; unfold wrap64; omega
        have hlt2 := Lib.hid hlt
        have hstep : xs[i] = ys[i] → xs.take (i + 1) = ys.take (i + 1) := fun e => by rw [List.take_succ_eq_append_getElem hlt, List.take_succ_eq_append_getElem hlt', ht.out]; exact congrArg (fun z => ys.take i ++ [z]) e
        have hno : xs[i] ≠ ys[i] → xs ≠ ys := fun e hh => e (by simp only [hh])
        generalize xs[i] = x at q1 hstep hno
        generalize ys[i] = y at q2 hstep hno
        have hq := fun W => smp_neq x y W
        have HH := Lib.hid (And.intro bb (And.intro hR hR'))
        clear hlt hi bb hR hR' hl hlt' ht
        by_cases he : x = y
        · have hs2 := Lib.hid (hstep he)
          rw [decide_eq_true he] at hq
          clear hstep hno he
          go_wp2_with fail
          refine Reg.wp_plan (S := fun w' => w'.rangeAt g (i * 23) (cells x) ∧ w'.rangeAt g' (i * 23) (cells y)) 9 (.fl 0 (.fl 1 (.fl 2 (.fl 3 (.fl 4 (.fl 5 (.fl 6 (.fl 7 (.fl 8 .done))))))))) (by kernel_rfl) (by kernel_rfl) (by kernel_rfl) (by kernel_rfl) (fun _ _ _ d _ h => by cases d <;> exact h) ?_ (fun hHeld => ?_)
          · exact ⟨q1, q2⟩
          refine Reg.G_on (o := { dst := some 17, op := Op.move (Operand.tmp 0), type := 56, pos := "ref.go:69", after := #[], guard := Option.none }) (v := ?_) (by rfl) ?_ (fun wS hSw => ?_) ?_
          rotate_left
          · kernel_rfl
          · (try dsimp only at hSw); go_simp; (try with_reducible rfl)
          try simp only [Act.put, List.setIfInBounds_toArray, List.set_cons_zero, List.set_cons_succ]
          refine Reg.G_on (o := { dst := some 18, op := Op.move (Operand.tmp 5), type := 3, pos := "ref.go:69", after := #[], guard := Option.none }) (v := ?_) (by rfl) ?_ (fun wS hSw => ?_) ?_
          rotate_left
          · kernel_rfl
          · (try dsimp only at hSw); go_simp; (try with_reducible rfl)
          try simp only [Act.put, List.setIfInBounds_toArray, List.set_cons_zero, List.set_cons_succ]
          refine Reg.G_on (o := { dst := some 19, op := Op.indexAddr 56 (Operand.tmp 17) (Operand.tmp 18), type := 0, pos := "ref.go:69", after := #[{ on := 0, ground := Ground.data }, { on := 1, ground := Ground.data }], guard := Option.none }) (v := ?_) (by rfl) ?_ (fun wS hSw => ?_) ?_
          rotate_left
          · kernel_rfl
          · (try dsimp only at hSw); go_simp; (try with_reducible rfl)
          try simp only [Act.put, List.setIfInBounds_toArray, List.set_cons_zero, List.set_cons_succ]
          refine Reg.G_on (o := { dst := some 20, op := Op.load 60 (Operand.tmp 19), type := 60, pos := "ref.go:69", after := #[{ on := 2, ground := Ground.data }], guard := Option.none }) (v := .agg (cells x).toArray) (by rfl) ?_ (fun wS hSw => ?_) ?_
          · kernel_rfl
          · exact load_yields rfl rfl hSw.1 Try.underlying60 rfl (size23 x)
          try simp only [Act.put, List.setIfInBounds_toArray, List.set_cons_zero, List.set_cons_succ]
          refine Reg.G_on (o := { dst := some 21, op := Op.move (Operand.tmp 1), type := 56, pos := "ref.go:69", after := #[], guard := Option.none }) (v := ?_) (by rfl) ?_ (fun wS hSw => ?_) ?_
          rotate_left
          · kernel_rfl
          · (try dsimp only at hSw); go_simp; (try with_reducible rfl)
          try simp only [Act.put, List.setIfInBounds_toArray, List.set_cons_zero, List.set_cons_succ]
          refine Reg.G_on (o := { dst := some 22, op := Op.move (Operand.tmp 5), type := 3, pos := "ref.go:69", after := #[], guard := Option.none }) (v := ?_) (by rfl) ?_ (fun wS hSw => ?_) ?_
          rotate_left
          · kernel_rfl
          · (try dsimp only at hSw); go_simp; (try with_reducible rfl)
          try simp only [Act.put, List.setIfInBounds_toArray, List.set_cons_zero, List.set_cons_succ]
          refine Reg.G_on (o := { dst := some 23, op := Op.indexAddr 56 (Operand.tmp 21) (Operand.tmp 22), type := 0, pos := "ref.go:69", after := #[{ on := 4, ground := Ground.data }, { on := 5, ground := Ground.data }], guard := Option.none }) (v := ?_) (by rfl) ?_ (fun wS hSw => ?_) ?_
          rotate_left
          · kernel_rfl
          · (try dsimp only at hSw); go_simp; (try with_reducible rfl)
          try simp only [Act.put, List.setIfInBounds_toArray, List.set_cons_zero, List.set_cons_succ]
          refine Reg.G_on (o := { dst := some 24, op := Op.load 60 (Operand.tmp 23), type := 60, pos := "ref.go:69", after := #[{ on := 6, ground := Ground.data }], guard := Option.none }) (v := .agg (cells y).toArray) (by rfl) ?_ (fun wS hSw => ?_) ?_
          · kernel_rfl
          · exact load_yields rfl rfl hSw.2 Try.underlying60 rfl (size23 y)
          try simp only [Act.put, List.setIfInBounds_toArray, List.set_cons_zero, List.set_cons_succ]
          refine Reg.G_on (o := { dst := some 25, op := Op.binOp BinOp.neq 60 (Operand.tmp 20) (Operand.tmp 24) 60, type := 4, pos := "ref.go:69", after := #[{ on := 3, ground := Ground.data }, { on := 7, ground := Ground.data }], guard := Option.none }) (v := .bool (!true)) (by rfl) ?_ (fun wS hSw => ?_) ?_
          · kernel_rfl
          · exact eql_yields rfl rfl rfl gd_smp (hq _)
          try simp only [Act.put, List.setIfInBounds_toArray, List.set_cons_zero, List.set_cons_succ]
          refine Reg.G_done ?_
          clear hHeld
          go_wp2
          rw [hwi]
          exact ⟨⟨i + 1, rfl, hlt2.out, hs2, HH.out.2.1, HH.out.2.2, HH.out.1.drew⟩, meas _ _ hlt2.out⟩
        · have hs2 : Hid (decide (xs = ys) = false) := Lib.hid (decide_eq_false (hno he))
          rw [decide_eq_false he] at hq
          clear hstep hno he
          go_wp2_with fail
          refine Reg.wp_plan (S := fun w' => w'.rangeAt g (i * 23) (cells x) ∧ w'.rangeAt g' (i * 23) (cells y)) 9 (.fl 0 (.fl 1 (.fl 2 (.fl 3 (.fl 4 (.fl 5 (.fl 6 (.fl 7 (.fl 8 .done))))))))) (by kernel_rfl) (by kernel_rfl) (by kernel_rfl) (by kernel_rfl) (fun _ _ _ d _ h => by cases d <;> exact h) ?_ (fun hHeld => ?_)
          · exact ⟨q1, q2⟩
          refine Reg.G_on (o := { dst := some 17, op := Op.move (Operand.tmp 0), type := 56, pos := "ref.go:69", after := #[], guard := Option.none }) (v := ?_) (by rfl) ?_ (fun wS hSw => ?_) ?_
          rotate_left
          · kernel_rfl
          · (try dsimp only at hSw); go_simp; (try with_reducible rfl)
          try simp only [Act.put, List.setIfInBounds_toArray, List.set_cons_zero, List.set_cons_succ]
          refine Reg.G_on (o := { dst := some 18, op := Op.move (Operand.tmp 5), type := 3, pos := "ref.go:69", after := #[], guard := Option.none }) (v := ?_) (by rfl) ?_ (fun wS hSw => ?_) ?_
          rotate_left
          · kernel_rfl
          · (try dsimp only at hSw); go_simp; (try with_reducible rfl)
          try simp only [Act.put, List.setIfInBounds_toArray, List.set_cons_zero, List.set_cons_succ]
          refine Reg.G_on (o := { dst := some 19, op := Op.indexAddr 56 (Operand.tmp 17) (Operand.tmp 18), type := 0, pos := "ref.go:69", after := #[{ on := 0, ground := Ground.data }, { on := 1, ground := Ground.data }], guard := Option.none }) (v := ?_) (by rfl) ?_ (fun wS hSw => ?_) ?_
          rotate_left
          · kernel_rfl
          · (try dsimp only at hSw); go_simp; (try with_reducible rfl)
          try simp only [Act.put, List.setIfInBounds_toArray, List.set_cons_zero, List.set_cons_succ]
          refine Reg.G_on (o := { dst := some 20, op := Op.load 60 (Operand.tmp 19), type := 60, pos := "ref.go:69", after := #[{ on := 2, ground := Ground.data }], guard := Option.none }) (v := .agg (cells x).toArray) (by rfl) ?_ (fun wS hSw => ?_) ?_
          · kernel_rfl
          · exact load_yields rfl rfl hSw.1 Try.underlying60 rfl (size23 x)
          try simp only [Act.put, List.setIfInBounds_toArray, List.set_cons_zero, List.set_cons_succ]
          refine Reg.G_on (o := { dst := some 21, op := Op.move (Operand.tmp 1), type := 56, pos := "ref.go:69", after := #[], guard := Option.none }) (v := ?_) (by rfl) ?_ (fun wS hSw => ?_) ?_
          rotate_left
          · kernel_rfl
          · (try dsimp only at hSw); go_simp; (try with_reducible rfl)
          try simp only [Act.put, List.setIfInBounds_toArray, List.set_cons_zero, List.set_cons_succ]
          refine Reg.G_on (o := { dst := some 22, op := Op.move (Operand.tmp 5), type := 3, pos := "ref.go:69", after := #[], guard := Option.none }) (v := ?_) (by rfl) ?_ (fun wS hSw => ?_) ?_
          rotate_left
          · kernel_rfl
          · (try dsimp only at hSw); go_simp; (try with_reducible rfl)
          try simp only [Act.put, List.setIfInBounds_toArray, List.set_cons_zero, List.set_cons_succ]
          refine Reg.G_on (o := { dst := some 23, op := Op.indexAddr 56 (Operand.tmp 21) (Operand.tmp 22), type := 0, pos := "ref.go:69", after := #[{ on := 4, ground := Ground.data }, { on := 5, ground := Ground.data }], guard := Option.none }) (v := ?_) (by rfl) ?_ (fun wS hSw => ?_) ?_
          rotate_left
          · kernel_rfl
          · (try dsimp only at hSw); go_simp; (try with_reducible rfl)
          try simp only [Act.put, List.setIfInBounds_toArray, List.set_cons_zero, List.set_cons_succ]
          refine Reg.G_on (o := { dst := some 24, op := Op.load 60 (Operand.tmp 23), type := 60, pos := "ref.go:69", after := #[{ on := 6, ground := Ground.data }], guard := Option.none }) (v := .agg (cells y).toArray) (by rfl) ?_ (fun wS hSw => ?_) ?_
          · kernel_rfl
          · exact load_yields rfl rfl hSw.2 Try.underlying60 rfl (size23 y)
          try simp only [Act.put, List.setIfInBounds_toArray, List.set_cons_zero, List.set_cons_succ]
          refine Reg.G_on (o := { dst := some 25, op := Op.binOp BinOp.neq 60 (Operand.tmp 20) (Operand.tmp 24) 60, type := 4, pos := "ref.go:69", after := #[{ on := 3, ground := Ground.data }, { on := 7, ground := Ground.data }], guard := Option.none }) (v := .bool (!false)) (by rfl) ?_ (fun wS hSw => ?_) ?_
          · kernel_rfl
          · exact eql_yields rfl rfl rfl gd_smp (hq _)
          try simp only [Act.put, List.setIfInBounds_toArray, List.set_cons_zero, List.set_cons_succ]
          refine Reg.G_done ?_
          clear hHeld
          go_wp2
          go_ret
          exact ⟨by rw [hs2.out]; rfl, HH.out.1.drew⟩
      · have hlt1 : ¬ (i : Int) < (xs.length : Int) := by omega
        have hres : Hid (decide (xs = ys) = true) := Lib.hid (decide_eq_true (by
          have := ht.out
          rwa [List.take_of_length_le (by omega), List.take_of_length_le (by have := HE.out; omega)] at this))
        clear hlt hi hl ht hR hR'
        go_wp2
        go_ret
        exact ⟨by rw [hres.out]; rfl, bb⟩
  · have hlq : ((xs.length : Int) != (ys.length : Int)) = true := bne_iff_ne.2 (by omega)
    have hres : Hid (decide (xs = ys) = false) := Lib.hid (decide_eq_false (fun e => hl (by rw [e])))
    clear h h' hl
    go_enter Try.func34, Try.ntmps34
    go_wp2
    go_ret
    exact ⟨by rw [hres.out]; rfl, b1⟩
end Go.Proofs.Ytimalojaiaofkaa.His
namespace Go.Proofs.Ytimalojaiaofkaa.His
open Go.RowKit Base Sp Flat Go.Proofs.YtimalojaiaofkaaW.PrintWords Go.Shelf Smp
section
variable {ops : Array Oper} {rest : List Oper} {o : Oper} {a : Act} {W : World} {Q : Exit → Act → World → Prop}
theorem build1L {x : Smp} {y : Operand} (hgd : o.guard = none) (ho : o.op = .buildSlice 56 1 #[(0, y)]) (hy : a.eval y = .agg (cells x).toArray)
    (h : wpList Try.prog ops Q rest (a.put o.dst (.slice (some ⟨W.heap.size, 0, none⟩) 1 1)) (W.alloc (.cells (cells x).toArray 60))) : wpList Try.prog ops Q (o :: rest) a W :=
  wpList_plain hgd fun _ hK => build1 ho hy (hK _ _ h)
end
/-- A row of the call's own: behind block B. -/
abbrev New (B : Nat) (w : World) : Nat → Prop := fun k => B ≤ k ∧ k < w.heap.size
theorem Row.news {B : Nat} {W w1 : World} {v1 : Value} {xs : List Smp} (h : Row w1 (fun k => New B W k ∨ (W.heap.size ≤ k ∧ k < w1.heap.size)) v1 xs) (hB : B ≤ W.heap.size) (hs : W.heap.size ≤ w1.heap.size) : Row w1 (New B w1) v1 xs :=
  h.mono (fun k hk => hk.elim (fun hh => ⟨hh.1, by have := hh.2; omega⟩) (fun hh => ⟨by have := hh.1; omega, hh.2⟩))
/-- Expire: what is kept then. -/
def hexp (now f : Int) (xs : List Smp) : List Smp := if 0 < f then xs.filter fun x => !Clock.over now x.frame f else xs
theorem hexp_step (now f : Int) (xs : List Smp) (i : Nat) (hi : i < xs.length) : hexp now f (xs.take (i + 1)) = if 0 < f ∧ Clock.over now xs[i].frame f = true then hexp now f (xs.take i) else hexp now f (xs.take i) ++ [xs[i]] := by
  unfold hexp
  rw [List.take_succ_eq_append_getElem hi]
  by_cases h : 0 < f
  · rw [if_pos h, if_pos h, List.filter_append]
    by_cases ho : Clock.over now xs[i].frame f = true
    · rw [if_pos ⟨h, ho⟩, List.filter_cons_of_neg (by simp [ho])]
      simp
    · rw [if_neg (fun hh => ho hh.2), List.filter_cons_of_pos (by simp [ho])]
      rfl
  · rw [if_neg h, if_neg h, if_neg (fun hh => h hh.1)]
theorem hexp_le (now f : Int) (xs : List Smp) : (hexp now f xs).length ≤ xs.length := by
  unfold hexp
  split
  · exact List.length_filter_le _ _
  · exact Nat.le_refl _
set_option maxHeartbeats 1000000 in
set_option maxRecDepth 20000 in
theorem rexp {w : World} {F : Nat → Prop} {v : Value} {xs : List Smp} (h : Row w F v xs) (now f : Int) (hlen : xs.length * 80 ≤ 140737488355328) (hn : now < 18446744073709551616) (f0 : -9223372036854775808 ≤ f) (f1 : f < 9223372036854775808) :
    Calls Try.prog 32 #[v, .int .u64 now, .int .i64 f] w fun e w' => ∃ v', e = .returned v' ∧ Row w' (New w.heap.size w') v' (hexp now f xs) ∧ Below w.heap.size w w' := by
  have b1 := Below.refl w.heap.size w
  have HL := Lib.hid hlen
  have HF := Lib.hid (And.intro hn (And.intro f0 f1))
  have HR := Lib.hid h
  obtain ⟨A, c, rfl, _, hA⟩ := h.slice
  clear hA h hlen hn f0 f1
  go_enter Try.func32, Try.ntmps32
  go_wp2
  go_loopw [7, 8] (fun v7 v8 wr => ∃ (i : Nat) (out : List Smp), v8 = .int .i64 (i : Int) ∧ i ≤ xs.length ∧ Hid (out = hexp now f (xs.take i)) ∧ Row wr (New w.heap.size wr) v7 out ∧ Below w.heap.size w wr) (fun _ v8 _ => xs.length - (intOf v8).toNat)
  case atStart => exact ⟨0, [], rfl, Nat.zero_le _, Lib.hid (by unfold hexp; split <;> rfl), Row.nil _ _, b1⟩
  case round =>
    clear b1
    obtain ⟨i, out, rfl, hi, ho, hO, bb⟩ := hrel
    by_cases hlt : i < xs.length
    · have h0 : (0 : Int) ≤ (i : Int) := by omega
      have hlt1 : (i : Int) < (xs.length : Int) := by omega
      obtain ⟨g, rfl⟩ := Row.addr HR.out hlt
      have hR := HR.out.below bb
      have hrng := hR.range hlt
      have hol : Hid (out.length + 1 ≤ xs.length) := Lib.hid (by
        have := hexp_le now f (xs.take i)
        rw [← ho.out, List.length_take] at this
        omega)
      have hwi : wrap64 ((i : Int) + 1) = ((i + 1 : Nat) : Int) := by have := HL.out; unfold wrap64; omega
      have hlt2 := Lib.hid hlt
      have hstep := hexp_step now f xs i hlt
      rw [← ho.out] at hstep
      generalize xs[i] = x at hrng hstep
      have cf : wr.cell? ⟨g, i * 23 + 2, none⟩ = some (.int .u64 x.frame) := hrng 2 _ rfl
      have hx := wf_u64 x.good.2.2.1
      have C := Clock.over_ref now x.frame f wr HF.out.1 hx.1 HF.out.2.1 HF.out.2.2
      clear hlt hi hR ho hx
      by_cases hf : 0 < f
      · have hf1 : ¬ f ≤ 0 := by omega
        cases hov : Clock.over now x.frame f with
        | true =>
          rw [hov] at C
          rw [if_pos ⟨hf, hov⟩] at hstep
          have hs2 := Lib.hid hstep
          clear hstep hov
          go_wp2_with fail
          refine C.mono ?_
          rintro e w5 ⟨rfl, rfl⟩
          go_wp2
          rw [hwi]
          exact ⟨⟨i + 1, out, rfl, hlt2.out, Lib.hid hs2.out.symm, hO, bb⟩, meas _ _ hlt2.out⟩
        | false =>
          rw [hov] at C
          rw [if_neg (fun hh => by rw [hov] at hh; exact absurd hh.2 (by decide))] at hstep
          have hs2 := Lib.hid hstep
          clear hstep hov
          have HO := hO.drew
          obtain ⟨v7, w7, hrun, r7, g7, s7⟩ := hO.append (fun k hk => hk.2) x (by have := hol.out; have := HL.out; omega) 56
          have hown := hO.own
          have HX : Hid (Row w7 (New w.heap.size w7) v7 (out ++ [x]) ∧ Below w.heap.size w w7) := Lib.hid ⟨Row.news r7 bb.size (Nat.le_of_lt s7), bb.grown g7 bb.size (fun k hk => (hown k hk).1.1)⟩
          obtain ⟨A6, c6, rfl, _, _⟩ := hO.slice
          clear r7 g7 s7 hown hO HO bb
          go_wp2_with fail
          refine C.mono ?_
          rintro e w5 ⟨rfl, rfl⟩
          go_wp2_with (first | ((with_reducible refine gate_dst (N := 32) rfl ?_); refine wpList_load_mid rfl 60 (.tmp 31) rfl g (i * 23) rfl (cells x) _ hrng Try.underlying60 rfl (size23 x) ?_) | ((with_reducible refine gate_dst (N := 33) rfl ?_); refine build1L (x := x) rfl rfl rfl ?_) | (at_builtin; refine wp_append rfl (.tmp 28) (.tmp 33) 56 rfl rfl rfl hrun ?_))
          rw [hwi]
          exact ⟨⟨i + 1, out ++ [x], rfl, hlt2.out, Lib.hid hs2.out.symm, HX.out.1, HX.out.2⟩, meas _ _ hlt2.out⟩
      · have hf1 : f ≤ 0 := by omega
        rw [if_neg (fun hh => hf hh.1)] at hstep
        have hs2 := Lib.hid hstep
        clear hstep C
        have HO := hO.drew
        obtain ⟨v7, w7, hrun, r7, g7, s7⟩ := hO.append (fun k hk => hk.2) x (by have := hol.out; have := HL.out; omega) 56
        have hown := hO.own
        have HX : Hid (Row w7 (New w.heap.size w7) v7 (out ++ [x]) ∧ Below w.heap.size w w7) := Lib.hid ⟨Row.news r7 bb.size (Nat.le_of_lt s7), bb.grown g7 bb.size (fun k hk => (hown k hk).1.1)⟩
        obtain ⟨A6, c6, rfl, _, _⟩ := hO.slice
        clear r7 g7 s7 hown hO HO bb
        go_wp2_with (first | ((with_reducible refine gate_dst (N := 32) rfl ?_); refine wpList_load_mid rfl 60 (.tmp 31) rfl g (i * 23) rfl (cells x) _ hrng Try.underlying60 rfl (size23 x) ?_) | ((with_reducible refine gate_dst (N := 33) rfl ?_); refine build1L (x := x) rfl rfl rfl ?_) | (at_builtin; refine wp_append rfl (.tmp 28) (.tmp 33) 56 rfl rfl rfl hrun ?_))
        rw [hwi]
        exact ⟨⟨i + 1, out ++ [x], rfl, hlt2.out, Lib.hid hs2.out.symm, HX.out.1, HX.out.2⟩, meas _ _ hlt2.out⟩
    · have hlt1 : ¬ (i : Int) < (xs.length : Int) := by omega
      have hres : Hid (out = hexp now f xs) := Lib.hid (by rw [ho.out, List.take_of_length_le (by omega)])
      clear hlt hi ho
      go_wp2
      go_ret
      exact ⟨_, rfl, hres.out ▸ hO, bb⟩
end Go.Proofs.Ytimalojaiaofkaa.His
namespace Go.Proofs.Ytimalojaiaofkaa.His
open Go.RowKit Base Sp Flat Go.Proofs.YtimalojaiaofkaaW.PrintWords Go.Shelf Smp
/-- The reference's loop: so many may go. -/
def rgo (p : Smp → Bool) (st : List Smp × Int) (x : Smp) : List Smp × Int := if p x = true ∧ 0 < st.2 then (st.1, st.2 - 1) else (st.1 ++ [x], st.2)
def rg (p : Smp → Bool) (g : Int) (xs : List Smp) : List Smp × Int := xs.foldl (rgo p) ([], g)
theorem rg_step (p : Smp → Bool) (g : Int) (xs : List Smp) (i : Nat) (hi : i < xs.length) : rg p g (xs.take (i + 1)) = rgo p (rg p g (xs.take i)) xs[i] := by
  unfold rg
  rw [List.take_succ_eq_append_getElem hi, List.foldl_append]
  rfl
theorem rg_bound (p : Smp → Bool) (g : Int) (hg : 0 ≤ g) (xs : List Smp) : (rg p g xs).1.length ≤ xs.length ∧ 0 ≤ (rg p g xs).2 ∧ (rg p g xs).2 ≤ g := by
  unfold rg
  have key : ∀ (xs : List Smp) (st : List Smp × Int), 0 ≤ st.2 → st.2 ≤ g → (xs.foldl (rgo p) st).1.length ≤ st.1.length + xs.length ∧ 0 ≤ (xs.foldl (rgo p) st).2 ∧ (xs.foldl (rgo p) st).2 ≤ g := by
    intro xs
    induction xs with
    | nil => intro st h0 h1; exact ⟨Nat.le_refl _, h0, h1⟩
    | cons x xs ih =>
      intro st h0 h1
      rw [List.foldl_cons, List.length_cons]
      by_cases hc : p x = true ∧ 0 < st.2
      · have e : rgo p st x = (st.1, st.2 - 1) := if_pos hc
        rw [e]
        have := ih (st.1, st.2 - 1) (by show 0 ≤ st.2 - 1; have := hc.2; omega) (by show st.2 - 1 ≤ g; omega)
        exact ⟨by have := this.1; dsimp only at this; omega, this.2⟩
      · have e : rgo p st x = (st.1 ++ [x], st.2) := if_neg hc
        rw [e]
        have := ih (st.1 ++ [x], st.2) h0 h1
        exact ⟨by have := this.1; rw [List.length_append, List.length_singleton] at this; omega, this.2⟩
  have := key xs ([], g) hg (Int.le_refl _)
  simpa using this
theorem rg_zero (p : Smp → Bool) (xs : List Smp) (acc : List Smp) : xs.foldl (rgo p) (acc, 0) = (acc ++ xs, 0) := by
  induction xs generalizing acc with
  | nil => simp
  | cons x xs ih =>
    have e : rgo p (acc, 0) x = (acc ++ [x], 0) := if_neg (fun h => absurd (show (0 : Int) < 0 from h.2) (by decide))
    rw [List.foldl_cons, e, ih, List.append_assoc]
    rfl
theorem rg_all (p : Smp → Bool) (xs : List Smp) (acc : List Smp) (g : Int) (hg : (xs.length : Int) ≤ g) : (xs.foldl (rgo p) (acc, g)).1 = acc ++ xs.filter fun x => !p x := by
  induction xs generalizing acc g with
  | nil => simp
  | cons x xs ih =>
    rw [List.length_cons] at hg
    rw [List.foldl_cons]
    by_cases hp : p x = true
    · have e : rgo p (acc, g) x = (acc, g - 1) := if_pos ⟨hp, by show 0 < g; omega⟩
      rw [e, ih _ _ (by omega), List.filter_cons_of_neg (by simp [hp])]
    · have e : rgo p (acc, g) x = (acc ++ [x], g) := if_neg (fun h => hp h.1)
      rw [e, ih _ _ (by omega), List.filter_cons_of_pos (by simp [hp]), List.append_assoc]
      rfl
/-- Without the first, by recursion. -/
def dr (p : Smp → Bool) : List Smp → List Smp
  | [] => []
  | x :: r => if p x = true then r else x :: dr p r
theorem fi_shift (p : Smp → Bool) : ∀ (xs : List Smp) (i : Nat), fi p xs (i + 1) = if fi p xs i = -1 then -1 else fi p xs i + 1
  | [], _ => rfl
  | x :: r, i => by
    rw [fi, fi]
    by_cases h : p x = true
    · rw [if_pos h, if_pos h, if_neg (by omega)]; omega
    · rw [if_neg h, if_neg h]; exact fi_shift p r (i + 1)
theorem fi_low (p : Smp → Bool) (xs : List Smp) (i : Nat) : fi p xs i = -1 ∨ (i : Int) ≤ fi p xs i := by
  by_cases h : fi p xs i = -1
  · exact .inl h
  · obtain ⟨k, _, e, _⟩ := fi_some p xs i h
    exact .inr (by omega)
theorem dropf_dr (p : Smp → Bool) (xs : List Smp) : dropf p xs = dr p xs := by
  induction xs with
  | nil => rfl
  | cons x r ih =>
    unfold dropf at ih ⊢
    rw [dr, fi]
    by_cases h : p x = true
    · rw [if_pos h, if_pos h, if_neg (by decide)]
      rfl
    · rw [if_neg h, if_neg h, fi_shift]
      rcases fi_low p r 0 with hn | hn
      · simp only [if_pos hn, if_true]
        rw [if_pos hn] at ih
        rw [← ih]
      · have hn1 : ¬ fi p r 0 = -1 := by omega
        have hn2 : ¬ fi p r 0 + 1 = -1 := by omega
        simp only [if_neg hn1, if_neg hn2]
        rw [if_neg hn1] at ih
        rw [← ih]
        have e : (fi p r 0 + 1).toNat = (fi p r 0).toNat + 1 := by omega
        rw [e]
        rfl
theorem rg_one (p : Smp → Bool) (xs : List Smp) (acc : List Smp) : (xs.foldl (rgo p) (acc, 1)).1 = acc ++ dr p xs := by
  induction xs generalizing acc with
  | nil => simp [dr]
  | cons x xs ih =>
    rw [List.foldl_cons, dr]
    by_cases hp : p x = true
    · have e : rgo p (acc, 1) x = (acc, 0) := if_pos ⟨hp, show (0 : Int) < 1 by decide⟩
      rw [e, rg_zero, if_pos hp]
    · have e : rgo p (acc, 1) x = (acc ++ [x], 1) := if_neg (fun h => hp h.1)
      rw [e, ih, if_neg hp, List.append_assoc]
      rfl
/-- How many may go. -/
def g0 (d s : Int) (xs : List Smp) (x : Smp) : Int := if x.op ≠ 1 then xs.length else if d ≤ 0 ∧ 0 < s ∧ s ≤ xs.length then 1 else if 0 < d ∧ d ≤ cnt x.key xs then 1 else 0
/-- Which may go. -/
def pp (d : Int) (x : Smp) (y : Smp) : Bool := itk x.key y || (decide (d ≤ 0) && decide (x.op = 1))
theorem hput_rg (d s : Int) (xs : List Smp) (x : Smp) (h : ¬ (d ≤ 0 ∧ s ≤ 0 ∧ x.op = 1)) : hput (mx0 d) (mx0 s) xs x = (rg (pp d x) (g0 d s xs x) xs).1 ++ (if x.op = 1 then [x] else []) := by
  by_cases ho : x.op = 1
  · have no : ¬ x.op ≠ 1 := fun hh => hh ho
    by_cases hd : 0 < d
    · have e1 : mx0 d = d := by unfold mx0; rw [if_neg (by omega)]
      have hp : pp d x = itk x.key := by funext y; unfold pp; rw [decide_eq_false (show ¬ d ≤ 0 by omega)]; simp
      have n1 : ¬ (d ≤ 0 ∧ 0 < s ∧ s ≤ (xs.length : Int)) := fun hh => by omega
      have n2 : ∀ q : Prop, ¬ (d = 0 ∧ q) := fun q hh => by have := hh.1; omega
      unfold hput g0
      simp only [e1, hp, if_neg no, if_neg n1, if_neg (n2 _), if_pos ho]
      by_cases hc : d ≤ (cnt x.key xs : Int)
      · simp only [if_pos (And.intro hd hc)]
        unfold rg
        rw [dropf_dr, rg_one, List.nil_append]
      · have n3 : ¬ (0 < d ∧ d ≤ (cnt x.key xs : Int)) := fun hh => hc hh.2
        simp only [if_neg n3]
        unfold rg
        rw [rg_zero, List.nil_append]
    · have e1 : mx0 d = 0 := by unfold mx0; split <;> omega
      have hs : 0 < s := by
        apply Classical.byContradiction
        intro hs
        exact h ⟨by omega, by omega, ho⟩
      have e2 : mx0 s = s := by unfold mx0; rw [if_neg (by omega)]
      have hp : pp d x = fun _ => true := by funext y; unfold pp; rw [decide_eq_true (show d ≤ 0 by omega), decide_eq_true ho]; simp
      have n1 : ∀ q : Prop, ¬ ((0 : Int) < 0 ∧ q) := fun q hh => absurd hh.1 (by decide)
      have n2 : ¬ ((0 : Int) = 0 ∧ s = 0) := fun hh => by have := hh.2; omega
      have n4 : ¬ (0 < d ∧ d ≤ (cnt x.key xs : Int)) := fun hh => hd hh.1
      unfold hput g0
      simp only [e1, e2, hp, if_neg no, if_neg (n1 _), if_neg n2, if_neg n4, if_pos ho]
      by_cases hl : s ≤ (xs.length : Int)
      · have y1 : d ≤ 0 ∧ 0 < s ∧ s ≤ (xs.length : Int) := ⟨by omega, hs, hl⟩
        have y2 : (0 : Int) = 0 ∧ s ≤ (xs.length : Int) := ⟨rfl, hl⟩
        simp only [if_pos y1, if_pos y2]
        unfold rg
        rw [dropf_dr, rg_one, List.nil_append, if_neg (show ¬ (True ∧ s = 0) from fun hh => by have := hh.2; omega), if_pos (show True ∧ s ≤ (xs.length : Int) from ⟨trivial, hl⟩)]
      · have y1 : ¬ (d ≤ 0 ∧ 0 < s ∧ s ≤ (xs.length : Int)) := fun hh => hl hh.2.2
        have y2 : ¬ ((0 : Int) = 0 ∧ s ≤ (xs.length : Int)) := fun hh => hl hh.2
        simp only [if_neg y1, if_neg y2]
        unfold rg
        rw [rg_zero, List.nil_append, if_neg (show ¬ (True ∧ s = 0) from fun hh => by have := hh.2; omega), if_neg (show ¬ (True ∧ s ≤ (xs.length : Int)) from fun hh => hl hh.2)]
  · have hp : pp d x = itk x.key := by funext y; unfold pp; rw [decide_eq_false ho]; simp
    unfold hput g0
    simp only [hp, if_pos ho, if_neg ho, ne_eq, not_false_eq_true, if_true, List.append_nil]
    unfold rg
    rw [rg_all _ _ _ _ (Int.le_refl _), List.nil_append]
theorem hput_le (d s : Int) (xs : List Smp) (x : Smp) : (hput d s xs x).length ≤ xs.length + 1 := by
  unfold hput
  have h1 := dropf_le (itk x.key) xs
  have h2 := dropf_le (fun _ => true) xs
  have h3 := List.length_filter_le (fun y => !itk x.key y) xs
  by_cases c1 : x.op ≠ 1
  · rw [if_pos c1]; omega
  · rw [if_neg c1]
    by_cases c2 : 0 < d ∧ d ≤ (cnt x.key xs : Int)
    · rw [if_pos c2, List.length_append, List.length_singleton]; omega
    · rw [if_neg c2]
      by_cases c3 : d = 0 ∧ s = 0
      · rw [if_pos c3]; omega
      · rw [if_neg c3]
        by_cases c4 : d = 0 ∧ s ≤ (xs.length : Int)
        · rw [if_pos c4, List.length_append, List.length_singleton]; omega
        · rw [if_neg c4, List.length_append, List.length_singleton]; omega
end Go.Proofs.Ytimalojaiaofkaa.His
namespace Go.Proofs.Ytimalojaiaofkaa.His
open Go.RowKit Base Sp Flat Go.Proofs.YtimalojaiaofkaaW.PrintWords Go.Shelf Smp
section
variable {P : Program} {ops : Array Oper} {rest : List Oper} {op : Oper} {a : Act} {w : World} {Q : Exit → Act → World → Prop}
/-- A guarded load of many cells. -/
theorem load_guarded (hw : Region.wanted op (yielded ops a.tmps) = true) (ty : TypeId) (x : Operand) (ho : op.op = .load ty x) (b o : Nat) (hx : a.eval x = .pointer (some ⟨b, o, none⟩)) (cs : List Value) (d : TypeDesc) (hc : w.rangeAt b o cs)
    (hu : P.underlying ty = some d) (hd : d.isRow = true) (hi : (P.info? ty).map (·.size) = some cs.length) (h : wpList P ops Q rest (a.put op.dst (.agg cs.toArray)) w) : wpList P ops Q (op :: rest) a w := by
  refine wpList_step fun K hK => ?_
  rw [if_pos hw]
  exact wp_load_mid ty x ho b o hx cs d hc hu hd hi (hK _ _ h)
end
theorem pp_t {d : Int} {x y : Smp} (h : itk x.key y = true) : pp d x y = true := by unfold pp; rw [h]; rfl
theorem pp_f1 {d : Int} {x y : Smp} (h : itk x.key y = false) (hd : ¬ d ≤ 0) : pp d x y = false := by unfold pp; rw [h, decide_eq_false hd]; rfl
theorem pp_f2 {d : Int} {x y : Smp} (h : itk x.key y = false) (hd : d ≤ 0) (ho : x.op = 1) : pp d x y = true := by unfold pp; rw [h, decide_eq_true hd, decide_eq_true ho]; rfl
theorem pp_f3 {d : Int} {x y : Smp} (h : itk x.key y = false) (ho : ¬ x.op = 1) : pp d x y = false := by unfold pp; rw [h, decide_eq_false ho]; simp
theorem rgo_go {p : Smp → Bool} {out : List Smp} {g : Int} {x : Smp} (h : p x = true) (hg : 0 < g) : rgo p (out, g) x = (out, g - 1) := if_pos ⟨h, hg⟩
theorem rgo_no {p : Smp → Bool} {out : List Smp} {g : Int} {x : Smp} (h : p x = false) : rgo p (out, g) x = (out ++ [x], g) := if_neg (fun hh => by rw [h] at hh; exact absurd hh.1 (by decide))
theorem rgo_zero {p : Smp → Bool} {out : List Smp} {g : Int} {x : Smp} (hg : ¬ 0 < g) : rgo p (out, g) x = (out ++ [x], g) := if_neg (fun hh => hg hh.2)
end Go.Proofs.Ytimalojaiaofkaa.His
