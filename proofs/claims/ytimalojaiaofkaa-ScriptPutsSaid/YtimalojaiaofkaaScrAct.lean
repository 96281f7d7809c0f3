import Derived.Test.YtimalojaiaofkaaScA
import Derived.Test.YtimalojaiaofkaaWdRPutScriptPuts
import Derived.Test.YtimalojaiaofkaaRegion
import Derived.Test.YtimalojaiaofkaaStep
import Derived.Test.YtimalojaiaofkaaScrP2
set_option linter.unusedVariables false
set_option linter.unusedSimpArgs false
namespace Go.Proofs.Ytimalojaiaofkaa.PScriptPuts
open Go.RowKit Go.Proofs.YtimalojaiaofkaaW.PrintWords Go.Proofs.YtimalojaiaofkaaW.PrintLast Go.Proofs.YtimalojaiaofkaaW.PrintMore Base Wd Scr
theorem ssized_of (s : Int) : broadsheetref01_Sized.f s = some (sz s) := by
  unfold broadsheetref01_Sized.f sz
  by_cases h1 : s = 1
  · simp [h1]
  · by_cases h2 : s = 2
    · simp [h2]
    · by_cases h4 : s = 4
      · simp [h4]
      · simp [h1, h2, h4]
theorem half_eq {s : Int} (h : sz s = true) : broadsheetref01_half.f 12 s = some (hf s) := by
  rcases sz_cases h with rfl | rfl | rfl | rfl <;> kernel_rfl
theorem rbits_eq (n s : Int) (h0 : -9223372036854775808 ≤ n) (h1 : n < 9223372036854775808) : broadsheetref01_Bits.f 12 n s = some (if sz s then bitv n s else (0, 4)) := by
  unfold broadsheetref01_Bits.f
  rw [ssized_of, Option.bind_some]
  cases h : sz s with
  | false => rfl
  | true =>
    rw [if_pos rfl, if_pos rfl, half_eq h, Option.bind_some]
    have hh : hf s * 2 = pw s ∧ 128 ≤ hf s ∧ hf s ≤ 9223372036854775808 := by
      rcases sz_cases h with rfl | rfl | rfl | rfl <;> decide
    have hmod : -hf s ≤ n → n < hf s → n % pw s = if 0 ≤ n then n else n + pw s := by
      intro h2 h3
      rcases sz_cases h with rfl | rfl | rfl | rfl
      · have h2 : -128 ≤ n := h2
        have h3 : n < 128 := h3
        show n % 256 = if 0 ≤ n then n else n + 256
        split <;> omega
      · have h2 : -32768 ≤ n := h2
        have h3 : n < 32768 := h3
        show n % 65536 = if 0 ≤ n then n else n + 65536
        split <;> omega
      · have h2 : -2147483648 ≤ n := h2
        have h3 : n < 2147483648 := h3
        show n % 4294967296 = if 0 ≤ n then n else n + 4294967296
        split <;> omega
      · show n % 18446744073709551616 = if 0 ≤ n then n else n + 18446744073709551616
        split <;> omega
    unfold bitv
    generalize n % pw s = l at *
    generalize hf s = f at *
    generalize pw s = p at *
    have hneg : n < 0 → IntKind.u64.wrap (wrap64 (-(wrap64 (n + 1)))) = -(n + 1) := by
      intro hn
      rw [u64_mod]
      unfold wrap64
      omega
    have hpos : 0 ≤ n → IntKind.u64.wrap n = n := by
      intro hn
      rw [u64_mod]
      omega
    by_cases hn : n ≥ 0
    · rw [if_pos hn, hpos hn]
      by_cases hf : n ≥ f
      · rw [if_pos hf, if_neg (by omega)]
        simp [broadsheetref01_Bits.j0]
      · rw [if_neg hf, if_neg (by omega), if_pos (by omega), hmod (by omega) (by omega), if_pos hn]
        simp only [broadsheetref01_Bits.j0]
        rw [if_neg (by decide), if_pos hn, hpos hn]
    · rw [if_neg hn, if_pos (by omega), hneg (by omega)]
      by_cases hf : -(n + 1) ≥ f
      · rw [show decide (-(n + 1) ≥ f) = true from decide_eq_true hf, if_neg (by omega)]
        simp [broadsheetref01_Bits.j0]
      · rw [show decide (-(n + 1) ≥ f) = false from decide_eq_false hf, if_pos (by omega), hmod (by omega) (by omega), if_neg hn]
        simp only [broadsheetref01_Bits.j0]
        rw [if_neg (by decide), if_neg hn, hneg (by omega)]
        congr 2
        rw [u64_mod, u64_mod, u64_mod]
        omega
theorem number_of (n s : Int) (h0 : 0 ≤ n) (h1 : n < 18446744073709551616) (w : World) : Calls Try.prog 64 #[.int .u64 n, .int .i64 s] w fun e w' => e = .returned (.string (nby n s)) ∧ Below w.heap.size w w' := by
  refine broadsheetref45_number.calls 12 n s _ w ?_
  unfold broadsheetref45_number.f
  rw [rput_eq n s 12 (by decide) h0 h1, Option.bind_some]
  rfl
theorem bits_of (n : Int) (h0 : -9223372036854775808 ≤ n) (h1 : n < 9223372036854775808) (w : World) : Calls Try.prog 88 #[.int .i64 n, .int .i64 4] w fun e w' => e = .returned (.tuple #[.int .u64 (bitv n 4).1, .int .i64 (bitv n 4).2]) ∧ Below w.heap.size w w' :=
  (broadsheetref01_Bits.calls 12 n 4 (bitv n 4).1 (bitv n 4).2 w (rbits_eq n 4 h0 h1)).mono fun _ _ hh => ⟨hh.1, drawn_below hh.2⟩
theorem ract_bad {k a E : Int} {s : ByteArray} (h : actE k a s = E) (hE : E ≠ 0) : ract k a s = (⟨#[]⟩, E) := by unfold ract; rw [h, if_pos hE]
theorem ract_good {k a : Int} {s : ByteArray} (h : actE k a s = 0) : ract k a s = (actB k a s, 0) := by unfold ract; rw [h, if_neg (fun h => h rfl)]
def broadsheetref45_act.f (k : Nat) (a0_0 : Int) (a0_1 : Int) (a0_2 : ByteArray) : Option (ByteArray × Int) :=
  if -9223372036854775808 ≤ a0_1 ∧ a0_1 < 9223372036854775808 ∧ a0_2.size ≤ 140737488355328 then some (ract a0_0 a0_1 a0_2) else none
theorem broadsheetref45_act.mono : ∀ a0 a1 a2 k, LeO (broadsheetref45_act.f k a0 a1 a2) (broadsheetref45_act.f (k + 1) a0 a1 a2) := fun _ _ _ _ => LeO.refl _
set_option maxHeartbeats 4000000 in
set_option maxRecDepth 20000 in
theorem ref_act_of (k a : Int) (s : ByteArray) (h0 : -9223372036854775808 ≤ a) (h1 : a < 9223372036854775808) (hz : s.size ≤ 140737488355328) (w : World) :
    Calls Try.prog 65 #[.agg #[.int .i64 k, .int .i64 a, .string s]] w fun e w' => e = .returned (.tuple #[.string (ract k a s).1, .int .i64 (ract k a s).2]) ∧ Below w.heap.size w w' := by
  have b0 : Below w.heap.size w (w.alloc (.cells #[.int .i64 k, .int .i64 a, .string s] 43)) := (Below.refl _ _).alloc (Nat.le_refl _) _
  have g0 : (w.alloc (.cells #[.int .i64 k, .int .i64 a, .string s] 43)).heap[w.heap.size]? = some (.cells #[.int .i64 k, .int .i64 a, .string s] 43 (0, 0)) := heap_alloc_new _ _
  by_cases hk : k ≠ 1 ∧ k ≠ 2
  · have HJ : Hid (ract k a s = (⟨#[]⟩, 4)) := Lib.hid (ract_bad (by unfold actE; rw [if_pos hk]) (by decide))
    have c1 : (k != 1) = true := by simpa using hk.1
    have c2 : (k != 2) = true := by simpa using hk.2
    clear hk
    go_enter Try.func65, Try.ntmps65
    go_wp2
    go_ret2
    exact ⟨by rw [HJ.out]; rfl, b0⟩
  · obtain ⟨W0, hW0⟩ : ∃ W0, W0 = w.alloc (.cells #[.int .i64 k, .int .i64 a, .string s] 43) := ⟨_, rfl⟩
    rw [← hW0] at b0 g0
    by_cases hk1 : k = 1
    · subst hk1
      have N1 := fun W => number_of 1 1 (by decide) (by decide) W
      have B1 := fun W => bits_of a h0 h1 W
      have hbr := bitv_range a
      have N2 := fun W => number_of (bitv a 4).1 4 hbr.1 (by omega) W
      have N3 := fun W => number_of (s.size : Int) 2 (by omega) (by omega) W
      have hs1 := nby_size 1 1 (by decide)
      have hs2 := nby_size (bitv a 4).1 4 (by decide)
      have hs3 := nby_size (s.size : Int) 2 (by decide)
      have hw : IntKind.u64.wrap (s.size : Int) = (s.size : Int) := wrapu64 (by omega) (by omega)
      go_enter Try.func65, Try.ntmps65
      go_wp2_with fail
      rw [← hW0]
      clear hW0
      refine (N1 _).mono ?_
      rintro e w1 ⟨rfl, b1⟩
      have bb1 := bstep b0 b1
      have g1 := (b1.block _ (blk_lt g0)).trans g0
      clear b0 b1 g0 N1
      have c1 : w1.cell? ⟨w.heap.size, 1, none⟩ = some (.int .i64 a) := blk_cell g1 1
      have c0 : w1.cell? ⟨w.heap.size, 0, none⟩ = some (.int .i64 1) := blk_cell g1 0
      go_wp2_with fail
      refine (B1 _).mono ?_
      rintro e w2 ⟨rfl, b2⟩
      have bb2 := bstep bb1 b2
      have g2 := (b2.block _ (blk_lt g1)).trans g1
      have c2 : w2.cell? ⟨w.heap.size, 2, none⟩ = some (.string s) := blk_cell g2 2
      clear b2 bb1 g1 c0 c1 B1
      by_cases he : (bitv a 4).2 = 0
      · have hsum1 : ¬ 9223372036854775807 < (nby 1 1).size + (nby (bitv a 4).1 4).size := by omega
        have hP : actP 1 a = nby 1 1 ++ nby (bitv a 4).1 4 := if_pos rfl
        have hps := actP_size 1 a
        by_cases hl : 65535 < s.size
        · have HJ : Hid (ract 1 a s = (⟨#[]⟩, 3)) := Lib.hid (ract_bad (by unfold actE; rw [if_neg (by decide), if_neg (fun h => h.2 he), if_pos hl]) (by decide))
          have hl2 : (65535 : Int) < (s.size : Int) := by omega
          clear hl hps hs1 hs2 hs3 hbr hP
          generalize bitv a 4 = V at *
          obtain ⟨V1, V2⟩ := V
          dsimp only at he hsum1 N2
          subst he
          go_wp2_with fail
          refine (N2 _).mono ?_
          rintro e w3 ⟨rfl, b3⟩
          have bb3 := bstep bb2 b3
          have g3 := (b3.block _ (blk_lt g2)).trans g2
          have c3 : w3.cell? ⟨w.heap.size, 2, none⟩ = some (.string s) := blk_cell g3 2
          clear b3 bb2 g2 c2
          go_wp2
          go_ret2
          exact ⟨by rw [HJ.out]; rfl, bb3⟩
        · have HJ : Hid (ract 1 a s = (actB 1 a s, 0)) := Lib.hid (ract_good (by unfold actE; rw [if_neg (by decide), if_neg (fun h => h.2 he), if_neg hl]))
          have hl2 : ¬ (65535 : Int) < (s.size : Int) := by omega
          have HB : Hid (actB 1 a s = nby 1 1 ++ nby (bitv a 4).1 4 ++ nby s.size 2 ++ s) := Lib.hid (by unfold actB; rw [hP])
          have hsum2 : ¬ 9223372036854775807 < (nby 1 1).size + (nby (bitv a 4).1 4).size + (nby s.size 2).size := by omega
          have hsum3 : ¬ 9223372036854775807 < (nby 1 1).size + (nby (bitv a 4).1 4).size + (nby s.size 2).size + s.size := by omega
          clear hl hps hs1 hs2 hs3 hbr hP
          generalize bitv a 4 = V at *
          obtain ⟨V1, V2⟩ := V
          dsimp only at he hsum1 hsum2 hsum3 N2 HB
          subst he
          go_wp2_with fail
          refine (N2 _).mono ?_
          rintro e w3 ⟨rfl, b3⟩
          have bb3 := bstep bb2 b3
          have g3 := (b3.block _ (blk_lt g2)).trans g2
          have c3 : w3.cell? ⟨w.heap.size, 2, none⟩ = some (.string s) := blk_cell g3 2
          have hlt3 := blk_lt g3
          clear b3 bb2 g2 c2 g3
          go_wp2
          refine Reg.wp_plan (S := fun w' => w'.cell? ⟨w.heap.size, 2, none⟩ = some (.string s)) 12 (.fl 0 (.fl 1 (.fl 2 (.fl 3 (.fl 4 (.fl 7 (.fl 8 (.one 5 (.fl 6 (.fl 9 (.fl 10 (.fl 11 .done)))))))))))) (by kernel_rfl) (by kernel_rfl) (by kernel_rfl) (by kernel_rfl) (fun _ _ _ d _ h => by cases d <;> exact h) ?_ (fun hHeld => ?_)
          · exact c3
          refine Reg.G_on (o := { dst := some 38, op := Op.move (Operand.tmp 4), type := 9, pos := "ref.go:42", after := #[], guard := Option.none }) (v := ?_) (by rfl) ?_ (fun wS hSw => ?_) ?_
          rotate_left
          · kernel_rfl
          · (try dsimp only at hSw); go_simp; (try with_reducible rfl)
          try simp only [Act.put, List.setIfInBounds_toArray, List.set_cons_zero, List.set_cons_succ]
          refine Reg.G_on (o := { dst := some 39, op := Op.fieldAddr 43 (Operand.tmp 1) 2, type := 0, pos := "ref.go:42", after := #[], guard := Option.none }) (v := ?_) (by rfl) ?_ (fun wS hSw => ?_) ?_
          rotate_left
          · kernel_rfl
          · (try dsimp only at hSw); go_simp; (try with_reducible rfl)
          try simp only [Act.put, List.setIfInBounds_toArray, List.set_cons_zero, List.set_cons_succ]
          refine Reg.G_on (o := { dst := some 40, op := Op.load 9 (Operand.tmp 39), type := 9, pos := "ref.go:42", after := #[{ on := 1, ground := Ground.data }], guard := Option.none }) (v := ?_) (by rfl) ?_ (fun wS hSw => ?_) ?_
          rotate_left
          · kernel_rfl
          · (try dsimp only at hSw); go_simp; (try with_reducible rfl)
          try simp only [Act.put, List.setIfInBounds_toArray, List.set_cons_zero, List.set_cons_succ]
          refine Reg.G_on (o := { dst := some 41, op := Op.call { callee := Callee.builtin Builtin.len, args := #[Operand.tmp 40], argTypes := #[9] }, type := 3, pos := "ref.go:42", after := #[{ on := 2, ground := Ground.data }], guard := Option.none }) (v := ?_) (by rfl) ?_ (fun wS hSw => ?_) ?_
          rotate_left
          · kernel_rfl
          · (try dsimp only at hSw); go_simp; (try with_reducible rfl)
          try simp only [Act.put, List.setIfInBounds_toArray, List.set_cons_zero, List.set_cons_succ]
          refine Reg.G_on (o := { dst := some 42, op := Op.convert 3 58 (Operand.tmp 41), type := 58, pos := "ref.go:42", after := #[{ on := 3, ground := Ground.data }], guard := Option.none }) (v := ?_) (by rfl) ?_ (fun wS hSw => ?_) ?_
          rotate_left
          · kernel_rfl
          · (try dsimp only at hSw); go_simp; (try with_reducible rfl)
          try simp only [Act.put, List.setIfInBounds_toArray, List.set_cons_zero, List.set_cons_succ]
          refine Reg.G_on (o := { dst := some 45, op := Op.fieldAddr 43 (Operand.tmp 1) 2, type := 0, pos := "ref.go:42", after := #[], guard := Option.none }) (v := ?_) (by rfl) ?_ (fun wS hSw => ?_) ?_
          rotate_left
          · kernel_rfl
          · (try dsimp only at hSw); go_simp; (try with_reducible rfl)
          try simp only [Act.put, List.setIfInBounds_toArray, List.set_cons_zero, List.set_cons_succ]
          refine Reg.G_on (o := { dst := some 46, op := Op.load 9 (Operand.tmp 45), type := 9, pos := "ref.go:42", after := #[{ on := 7, ground := Ground.data }], guard := Option.none }) (v := ?_) (by rfl) ?_ (fun wS hSw => ?_) ?_
          rotate_left
          · kernel_rfl
          · (try dsimp only at hSw); go_simp; (try with_reducible rfl)
          try simp only [Act.put, List.setIfInBounds_toArray, List.set_cons_zero, List.set_cons_succ]
          refine Reg.G_step (o := { dst := some 43, op := Op.call { callee := Callee.value (Operand.func 64), args := #[Operand.tmp 42, Operand.const (Value.int IntKind.i64 2)], argTypes := #[58, 3] }, type := 9, pos := "ref.go:42", after := #[{ on := 4, ground := Ground.data }], guard := Option.none }) (by rfl) ?_ (fun K hK => ?_)
          · kernel_rfl
          go_simp
          refine (N3 _).mono ?_
          rintro e w' ⟨rfl, hb⟩
          refine hK.out _ _ ?_ (fun hHeld => ?_)
          · exact cbel hb hHeld hlt3
          clear hK K
          try simp only [Act.put, List.setIfInBounds_toArray, List.set_cons_zero, List.set_cons_succ]
          have bb4 := bstep bb3 ((Below.refl w3.heap.size w3).drew.trans hb)
          refine Reg.G_on (o := { dst := some 44, op := Op.binOp BinOp.add 9 (Operand.tmp 38) (Operand.tmp 43) 9, type := 9, pos := "ref.go:42", after := #[{ on := 0, ground := Ground.data }, { on := 5, ground := Ground.data }], guard := Option.none }) (v := ?_) (by rfl) ?_ (fun wS hSw => ?_) ?_
          rotate_left
          · kernel_rfl
          · (try dsimp only at hSw); go_simp; (try with_reducible rfl)
          try simp only [Act.put, List.setIfInBounds_toArray, List.set_cons_zero, List.set_cons_succ]
          refine Reg.G_on (o := { dst := some 47, op := Op.binOp BinOp.add 9 (Operand.tmp 44) (Operand.tmp 46) 9, type := 9, pos := "ref.go:42", after := #[{ on := 6, ground := Ground.data }, { on := 8, ground := Ground.data }], guard := Option.none }) (v := ?_) (by rfl) ?_ (fun wS hSw => ?_) ?_
          rotate_left
          · kernel_rfl
          · (try dsimp only at hSw); go_simp; (try with_reducible rfl)
          try simp only [Act.put, List.setIfInBounds_toArray, List.set_cons_zero, List.set_cons_succ]
          refine Reg.G_on (o := { dst := some 2, op := Op.assign (Operand.tmp 47), type := 9, pos := "ref.go:42", after := #[{ on := 9, ground := Ground.data }, { on := 5, ground := Ground.chain }, { on := 0, ground := Ground.phase }, { on := 1, ground := Ground.phase }, { on := 2, ground := Ground.phase }, { on := 3, ground := Ground.phase }, { on := 4, ground := Ground.phase }, { on := 5, ground := Ground.phase }, { on := 6, ground := Ground.phase }, { on := 7, ground := Ground.phase }, { on := 8, ground := Ground.phase }, { on := 9, ground := Ground.phase }], guard := Option.none }) (v := ?_) (by rfl) ?_ (fun wS hSw => ?_) ?_
          rotate_left
          · kernel_rfl
          · (try dsimp only at hSw); go_simp; (try with_reducible rfl)
          try simp only [Act.put, List.setIfInBounds_toArray, List.set_cons_zero, List.set_cons_succ]
          refine Reg.G_on (o := { dst := some 3, op := Op.assign (Operand.const (Value.int IntKind.i64 0)), type := 24, pos := "ref.go:42", after := #[{ on := 10, ground := Ground.chain }, { on := 0, ground := Ground.phase }, { on := 1, ground := Ground.phase }, { on := 2, ground := Ground.phase }, { on := 3, ground := Ground.phase }, { on := 4, ground := Ground.phase }, { on := 5, ground := Ground.phase }, { on := 6, ground := Ground.phase }, { on := 7, ground := Ground.phase }, { on := 8, ground := Ground.phase }, { on := 9, ground := Ground.phase }, { on := 10, ground := Ground.phase }], guard := Option.none }) (v := ?_) (by rfl) ?_ (fun wS hSw => ?_) ?_
          rotate_left
          · kernel_rfl
          · (try dsimp only at hSw); go_simp; (try with_reducible rfl)
          try simp only [Act.put, List.setIfInBounds_toArray, List.set_cons_zero, List.set_cons_succ]
          refine Reg.G_done ?_
          go_wp2
          go_ret2
          exact ⟨by rw [HJ.out, HB.out]; rfl, bb4⟩
      · have HJ : Hid (ract 1 a s = (⟨#[]⟩, 7)) := Lib.hid (ract_bad (by unfold actE; rw [if_neg (by decide), if_pos ⟨rfl, he⟩]) (by decide))
        have hq : ((bitv a 4).2 != 0) = true := by simpa using he
        generalize bitv a 4 = V at *
        obtain ⟨V1, V2⟩ := V
        dsimp only at hq he
        go_wp2
        go_ret2
        exact ⟨by rw [HJ.out]; rfl, bb2⟩
    · have hk2 : k = 2 := by omega
      subst hk2
      have N1 := fun W => number_of 2 1 (by decide) (by decide) W
      have N3 := fun W => number_of (s.size : Int) 2 (by omega) (by omega) W
      have hs1 := nby_size 2 1 (by decide)
      have hs3 := nby_size (s.size : Int) 2 (by decide)
      have hw : IntKind.u64.wrap (s.size : Int) = (s.size : Int) := wrapu64 (by omega) (by omega)
      have hP : actP 2 a = nby 2 1 := if_neg (by decide)
      by_cases hl : 65535 < s.size
      · have HJ : Hid (ract 2 a s = (⟨#[]⟩, 3)) := Lib.hid (ract_bad (by unfold actE; rw [if_neg (by decide), if_neg (fun h => absurd h.1 (by decide)), if_pos hl]) (by decide))
        have hl2 : (65535 : Int) < (s.size : Int) := by omega
        clear hl hs1 hs3 hP
        go_enter Try.func65, Try.ntmps65
        go_wp2_with fail
        rw [← hW0]
        clear hW0
        refine (N1 _).mono ?_
        rintro e w1 ⟨rfl, b1⟩
        have bb1 := bstep b0 b1
        have g1 := (b1.block _ (blk_lt g0)).trans g0
        have c0 : w1.cell? ⟨w.heap.size, 0, none⟩ = some (.int .i64 2) := blk_cell g1 0
        have c2 : w1.cell? ⟨w.heap.size, 2, none⟩ = some (.string s) := blk_cell g1 2
        go_wp2
        go_ret2
        exact ⟨by rw [HJ.out]; rfl, bb1⟩
      · have HJ : Hid (ract 2 a s = (nby 2 1 ++ nby s.size 2 ++ s, 0)) := Lib.hid ((ract_good (by unfold actE; rw [if_neg (by decide), if_neg (fun h => absurd h.1 (by decide)), if_neg hl])).trans (by unfold actB; rw [hP]))
        have hl2 : ¬ (65535 : Int) < (s.size : Int) := by omega
        have hsum2 : ¬ 9223372036854775807 < (nby 2 1).size + (nby s.size 2).size := by omega
        have hsum3 : ¬ 9223372036854775807 < (nby 2 1).size + (nby s.size 2).size + s.size := by omega
        clear hl hs1 hs3 hP
        go_enter Try.func65, Try.ntmps65
        go_wp2_with fail
        rw [← hW0]
        clear hW0
        refine (N1 _).mono ?_
        rintro e w1 ⟨rfl, b1⟩
        have bb1 := bstep b0 b1
        have g1 := (b1.block _ (blk_lt g0)).trans g0
        have c0 : w1.cell? ⟨w.heap.size, 0, none⟩ = some (.int .i64 2) := blk_cell g1 0
        have c2 : w1.cell? ⟨w.heap.size, 2, none⟩ = some (.string s) := blk_cell g1 2
        have hlt1 := blk_lt g1
        clear b1 b0 g0 g1
        go_wp2
        refine Reg.wp_plan (S := fun w' => w'.cell? ⟨w.heap.size, 2, none⟩ = some (.string s)) 12 (.fl 0 (.fl 1 (.fl 2 (.fl 3 (.fl 4 (.fl 7 (.fl 8 (.one 5 (.fl 6 (.fl 9 (.fl 10 (.fl 11 .done)))))))))))) (by kernel_rfl) (by kernel_rfl) (by kernel_rfl) (by kernel_rfl) (fun _ _ _ d _ h => by cases d <;> exact h) ?_ (fun hHeld => ?_)
        · exact c2
        refine Reg.G_on (o := { dst := some 38, op := Op.move (Operand.tmp 4), type := 9, pos := "ref.go:42", after := #[], guard := Option.none }) (v := ?_) (by rfl) ?_ (fun wS hSw => ?_) ?_
        rotate_left
        · kernel_rfl
        · (try dsimp only at hSw); go_simp; (try with_reducible rfl)
        try simp only [Act.put, List.setIfInBounds_toArray, List.set_cons_zero, List.set_cons_succ]
        refine Reg.G_on (o := { dst := some 39, op := Op.fieldAddr 43 (Operand.tmp 1) 2, type := 0, pos := "ref.go:42", after := #[], guard := Option.none }) (v := ?_) (by rfl) ?_ (fun wS hSw => ?_) ?_
        rotate_left
        · kernel_rfl
        · (try dsimp only at hSw); go_simp; (try with_reducible rfl)
        try simp only [Act.put, List.setIfInBounds_toArray, List.set_cons_zero, List.set_cons_succ]
        refine Reg.G_on (o := { dst := some 40, op := Op.load 9 (Operand.tmp 39), type := 9, pos := "ref.go:42", after := #[{ on := 1, ground := Ground.data }], guard := Option.none }) (v := ?_) (by rfl) ?_ (fun wS hSw => ?_) ?_
        rotate_left
        · kernel_rfl
        · (try dsimp only at hSw); go_simp; (try with_reducible rfl)
        try simp only [Act.put, List.setIfInBounds_toArray, List.set_cons_zero, List.set_cons_succ]
        refine Reg.G_on (o := { dst := some 41, op := Op.call { callee := Callee.builtin Builtin.len, args := #[Operand.tmp 40], argTypes := #[9] }, type := 3, pos := "ref.go:42", after := #[{ on := 2, ground := Ground.data }], guard := Option.none }) (v := ?_) (by rfl) ?_ (fun wS hSw => ?_) ?_
        rotate_left
        · kernel_rfl
        · (try dsimp only at hSw); go_simp; (try with_reducible rfl)
        try simp only [Act.put, List.setIfInBounds_toArray, List.set_cons_zero, List.set_cons_succ]
        refine Reg.G_on (o := { dst := some 42, op := Op.convert 3 58 (Operand.tmp 41), type := 58, pos := "ref.go:42", after := #[{ on := 3, ground := Ground.data }], guard := Option.none }) (v := ?_) (by rfl) ?_ (fun wS hSw => ?_) ?_
        rotate_left
        · kernel_rfl
        · (try dsimp only at hSw); go_simp; (try with_reducible rfl)
        try simp only [Act.put, List.setIfInBounds_toArray, List.set_cons_zero, List.set_cons_succ]
        refine Reg.G_on (o := { dst := some 45, op := Op.fieldAddr 43 (Operand.tmp 1) 2, type := 0, pos := "ref.go:42", after := #[], guard := Option.none }) (v := ?_) (by rfl) ?_ (fun wS hSw => ?_) ?_
        rotate_left
        · kernel_rfl
        · (try dsimp only at hSw); go_simp; (try with_reducible rfl)
        try simp only [Act.put, List.setIfInBounds_toArray, List.set_cons_zero, List.set_cons_succ]
        refine Reg.G_on (o := { dst := some 46, op := Op.load 9 (Operand.tmp 45), type := 9, pos := "ref.go:42", after := #[{ on := 7, ground := Ground.data }], guard := Option.none }) (v := ?_) (by rfl) ?_ (fun wS hSw => ?_) ?_
        rotate_left
        · kernel_rfl
        · (try dsimp only at hSw); go_simp; (try with_reducible rfl)
        try simp only [Act.put, List.setIfInBounds_toArray, List.set_cons_zero, List.set_cons_succ]
        refine Reg.G_step (o := { dst := some 43, op := Op.call { callee := Callee.value (Operand.func 64), args := #[Operand.tmp 42, Operand.const (Value.int IntKind.i64 2)], argTypes := #[58, 3] }, type := 9, pos := "ref.go:42", after := #[{ on := 4, ground := Ground.data }], guard := Option.none }) (by rfl) ?_ (fun K hK => ?_)
        · kernel_rfl
        go_simp
        refine (N3 _).mono ?_
        rintro e w' ⟨rfl, hb⟩
        refine hK.out _ _ ?_ (fun hHeld => ?_)
        · exact cbel hb hHeld hlt1
        clear hK K
        try simp only [Act.put, List.setIfInBounds_toArray, List.set_cons_zero, List.set_cons_succ]
        have bb4 := bstep bb1 ((Below.refl w1.heap.size w1).drew.trans hb)
        refine Reg.G_on (o := { dst := some 44, op := Op.binOp BinOp.add 9 (Operand.tmp 38) (Operand.tmp 43) 9, type := 9, pos := "ref.go:42", after := #[{ on := 0, ground := Ground.data }, { on := 5, ground := Ground.data }], guard := Option.none }) (v := ?_) (by rfl) ?_ (fun wS hSw => ?_) ?_
        rotate_left
        · kernel_rfl
        · (try dsimp only at hSw); go_simp; (try with_reducible rfl)
        try simp only [Act.put, List.setIfInBounds_toArray, List.set_cons_zero, List.set_cons_succ]
        refine Reg.G_on (o := { dst := some 47, op := Op.binOp BinOp.add 9 (Operand.tmp 44) (Operand.tmp 46) 9, type := 9, pos := "ref.go:42", after := #[{ on := 6, ground := Ground.data }, { on := 8, ground := Ground.data }], guard := Option.none }) (v := ?_) (by rfl) ?_ (fun wS hSw => ?_) ?_
        rotate_left
        · kernel_rfl
        · (try dsimp only at hSw); go_simp; (try with_reducible rfl)
        try simp only [Act.put, List.setIfInBounds_toArray, List.set_cons_zero, List.set_cons_succ]
        refine Reg.G_on (o := { dst := some 2, op := Op.assign (Operand.tmp 47), type := 9, pos := "ref.go:42", after := #[{ on := 9, ground := Ground.data }, { on := 5, ground := Ground.chain }, { on := 0, ground := Ground.phase }, { on := 1, ground := Ground.phase }, { on := 2, ground := Ground.phase }, { on := 3, ground := Ground.phase }, { on := 4, ground := Ground.phase }, { on := 5, ground := Ground.phase }, { on := 6, ground := Ground.phase }, { on := 7, ground := Ground.phase }, { on := 8, ground := Ground.phase }, { on := 9, ground := Ground.phase }], guard := Option.none }) (v := ?_) (by rfl) ?_ (fun wS hSw => ?_) ?_
        rotate_left
        · kernel_rfl
        · (try dsimp only at hSw); go_simp; (try with_reducible rfl)
        try simp only [Act.put, List.setIfInBounds_toArray, List.set_cons_zero, List.set_cons_succ]
        refine Reg.G_on (o := { dst := some 3, op := Op.assign (Operand.const (Value.int IntKind.i64 0)), type := 24, pos := "ref.go:42", after := #[{ on := 10, ground := Ground.chain }, { on := 0, ground := Ground.phase }, { on := 1, ground := Ground.phase }, { on := 2, ground := Ground.phase }, { on := 3, ground := Ground.phase }, { on := 4, ground := Ground.phase }, { on := 5, ground := Ground.phase }, { on := 6, ground := Ground.phase }, { on := 7, ground := Ground.phase }, { on := 8, ground := Ground.phase }, { on := 9, ground := Ground.phase }, { on := 10, ground := Ground.phase }], guard := Option.none }) (v := ?_) (by rfl) ?_ (fun wS hSw => ?_) ?_
        rotate_left
        · kernel_rfl
        · (try dsimp only at hSw); go_simp; (try with_reducible rfl)
        try simp only [Act.put, List.setIfInBounds_toArray, List.set_cons_zero, List.set_cons_succ]
        refine Reg.G_done ?_
        go_wp2
        go_ret2
        exact ⟨by rw [HJ.out]; rfl, bb4⟩
theorem broadsheetref45_act.calls (k : Nat) (a0_0 : Int) (a0_1 : Int) (a0_2 : ByteArray) (r1 : ByteArray) (r2 : Int) (w : World) (h : broadsheetref45_act.f k a0_0 a0_1 a0_2 = some (r1, r2)) :
    Calls Try.prog 65 #[.agg #[.int .i64 a0_0, .int .i64 a0_1, .string a0_2]] w fun e w' => e = .returned (.tuple #[.string r1, .int .i64 r2]) ∧ Below w.heap.size w w' := by
  unfold broadsheetref45_act.f at h
  by_cases hc : -9223372036854775808 ≤ a0_1 ∧ a0_1 < 9223372036854775808 ∧ a0_2.size ≤ 140737488355328
  · rw [if_pos hc] at h
    have h2 := Option.some.inj h
    have := ref_act_of a0_0 a0_1 a0_2 hc.1 hc.2.1 hc.2.2 w
    rw [h2] at this
    exact this
  · rw [if_neg hc] at h
    cases h
end Go.Proofs.Ytimalojaiaofkaa.PScriptPuts
