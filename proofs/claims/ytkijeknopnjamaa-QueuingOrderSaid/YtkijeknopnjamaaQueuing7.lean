import Derived.Test.YtkijeknopnjamaaQueuing6
set_option linter.unusedVariables false
set_option linter.unusedSimpArgs false
namespace Go.Proofs.Ytkijeknopnjamaa.Queuing
open Go.RowKit Base Sp Flat Go.Proofs.YtkijeknopnjamaaW.PrintWords
/-- What was sent: first what is gone, then what waits. -/
def Ord (k : Nat) (q s x got : Int) (l all pre : List ByteArray) : Prop := all = pre ++ l ∧ (pre.length : Int) = got + x ∧ 0 ≤ got ∧ s ≤ q ∧ all.length ≤ k
theorem code_cases (z d q s x : Int) (l : List ByteArray) (m : ByteArray) :
    (code z q s m = 0 ∧ s < q ∧ sl z d q s l m = nl d l m ∧ ss z q s m = s + 1 ∧ sx z d q s x l m = nx d l x) ∨ ((code z q s m == 0) = false ∧ sl z d q s l m = l ∧ ss z q s m = s ∧ sx z d q s x l m = x) := by
  unfold code sl ss sx
  by_cases h1 : z < (m.size : Int)
  · exact .inr ⟨by rw [if_pos h1]; rfl, by rw [if_pos h1], by rw [if_pos h1], by rw [if_pos h1]⟩
  · by_cases h2 : q ≤ s
    · exact .inr ⟨by rw [if_neg h1, if_pos h2]; rfl, by rw [if_neg h1, if_pos h2], by rw [if_neg h1, if_pos h2], by rw [if_neg h1, if_pos h2]⟩
    · exact .inl ⟨by rw [if_neg h1, if_neg h2], by omega, by rw [if_neg h1, if_neg h2], by rw [if_neg h1, if_neg h2], by rw [if_neg h1, if_neg h2]⟩
theorem Ord.put {k : Nat} {d q s x got : Int} {l all pre : List ByteArray} (m : ByteArray) (h : Ord k q s x got l all pre) (hs : s < q) : ∃ pre', Ord (k + 1) q (s + 1) (nx d l x) got (nl d l m) (all ++ [m]) pre' := by
  obtain ⟨h1, h2, h3, h4, h5⟩ := h
  unfold nx nl
  split
  · exact ⟨pre, by rw [h1, List.append_assoc], h2, h3, by omega, by simp; omega⟩
  · cases l with
    | nil => exact ⟨pre ++ [m], by rw [h1]; simp, by simp; omega, h3, by omega, by simp; omega⟩
    | cons a r => exact ⟨pre ++ [a], by rw [h1]; simp, by simp; omega, h3, by omega, by simp; omega⟩
theorem Ord.more {k : Nat} {q s x got : Int} {l all pre : List ByteArray} (h : Ord k q s x got l all pre) : Ord (k + 1) q s x got l all pre := by
  obtain ⟨h1, h2, h3, h4, h5⟩ := h
  exact ⟨h1, h2, h3, h4, by omega⟩
theorem Ord.take {k : Nat} {q s x got : Int} {l all pre : List ByteArray} {m : ByteArray} (h : Ord k q s x got (m :: l) all pre) : Ord (k + 1) q s x (got + 1) l all (pre ++ [m]) ∧ all.length = pre.length + 1 + l.length ∧ ∀ h, all[pre.length]'h = m := by
  obtain ⟨h1, h2, h3, h4, h5⟩ := h
  subst h1
  refine ⟨⟨by simp, by simp; omega, by omega, h4, by omega⟩, by simp; omega, fun h => by simp⟩
theorem Ord.frame {k : Nat} {q s x got : Int} {l all pre : List ByteArray} (h : Ord k q s x got l all pre) (hq : 0 ≤ q) : Ord (k + 1) q 0 x got l all pre := by
  obtain ⟨h1, h2, h3, h4, h5⟩ := h
  exact ⟨h1, h2, h3, hq, by omega⟩
theorem Ord.count {k : Nat} {q s x got : Int} {l all pre : List ByteArray} (h : Ord k q s x got l all pre) : (all.length : Int) = got + l.length + x := by
  obtain ⟨h1, h2, h3, h4, h5⟩ := h
  subst h1
  simp
  omega
theorem mx_neg {n : Int} (h : n < 0) : mx n = 0 := if_pos h
theorem mx_pos {n : Int} (h : ¬ n < 0) : mx n = n := if_neg h
theorem max_mx (n : Int) : max n 0 = mx n := by unfold mx; split <;> omega
set_option maxRecDepth 20000 in
set_option maxHeartbeats 4000000 in
theorem order (z d q : Int) (A : Option Addr) (c : Nat) (l : List (Int × ByteArray)) (w : World) (hC : Kd.C kq w A l.length l) (hq : q < 9223372036854775808) :
    Calls Try.prog 9 #[.agg #[.int .i64 z, .int .i64 d, .int .i64 q], .slice A l.length c] w fun e w' => e = .returned (.bool true) ∧ Below w.heap.size w w' := by
  by_cases hbig : 300 < l.length
  · go_enter Try.func9, Try.ntmps9
    go_wp2_with fail
    refine (awake _).mono ?_
    rintro e w' ⟨rfl, hb⟩
    go_wp2
    go_ret
    exact ⟨rfl, ((Below.refl _ _).alloc (Nat.le_refl _) _).trans (hb.mono (by simp))⟩
  · have HQ := Lib.hid (mxle q hq)
    have hd0 := mxge d
    have hq0 := mxge q
    clear hq
    obtain ⟨W0, hW0⟩ : ∃ W0, W0 = w.alloc (.cells #[.int .i64 z, .int .i64 d, .int .i64 q] 56) := ⟨_, rfl⟩
    have b0 : Below w.heap.size w W0 := by rw [hW0]; exact (Below.refl _ _).alloc (Nat.le_refl _) _
    have s0 : w.heap.size + 1 ≤ W0.heap.size := by rw [hW0]; simp
    have e0 : W0.cell? ⟨w.heap.size, 0, none⟩ = some (.int .i64 z) := by rw [hW0]; simp
    have e1 : W0.cell? ⟨w.heap.size, 1, none⟩ = some (.int .i64 d) := by rw [hW0]; simp
    have e2 : W0.cell? ⟨w.heap.size, 2, none⟩ = some (.int .i64 q) := by rw [hW0]; simp
    have a1 := e1
    have a2 := e2
    go_enter Try.func9, Try.ntmps9
    go_wp2_with fail
    rw [← hW0]
    clear hW0
    refine (new_at z d q W0 _ _ (Below.refl _ _) (Nat.le_refl _)).mono ?_
    rintro e w1 ⟨rfl, q1, b1, m1, s1⟩
    clear e0 e1 e2 m1
    generalize hpb : W0.heap.size = pb at *
    have hpb' := Nat.le_of_eq hpb.symm
    clear hpb
    go_wp2
    go_loopw [6, 8, 9] (fun v g i wr => ∃ (k : Nat) (ms all pre : List ByteArray) (s x got : Int) (F G : Nat → Prop), k ≤ l.length ∧ i = .int .i64 (k : Int) ∧ g = .int .i64 got ∧ QP wr F pb (mx z) (mx d) (mx q) ms s x ∧ Own Kd.string 9 wr G v all ∧
      Nums k (mx d) (mx q) ms s x ∧ Hid (Ord k (mx q) s x got ms all pre) ∧ (∀ k, F k → ¬ G k) ∧ (∀ k, G k → k < wr.heap.size) ∧ (∀ k, F k → pb ≤ k) ∧ (∀ k, G k → pb ≤ k) ∧ Below pb W0 wr) (fun _ _ i _ => (l.length - (intOf i).toNat))
    case atStart => exact ⟨0, [], [], [], 0, 0, 0, _, (fun _ => False), by omega, rfl, rfl, q1, Own.nil _ _ _ _, ⟨by simpa using hd0, by simp, by omega, by omega, by omega, by omega⟩, Lib.hid ⟨rfl, rfl, by omega, hq0, by simp⟩, fun k hk he => he, fun k hk => hk.elim, fun k hk => by omega, fun k hk => hk.elim, b1⟩
    case round =>
      obtain ⟨k, ms, all, pre, s, x, got, F, G, hk, rfl, rfl, hp, ho, N1, O1, dis, lG, fF, fG, hb⟩ := hrel
      have k0 : (0 : Int) ≤ (k : Int) := by omega
      obtain ⟨A6, c6, rfl, _, _⟩ := ho.rd.get
      have hbw : Below w.heap.size w wr := b0.trans (hb.mono (by omega))
      have hsz := Nat.le_trans hpb' hb.size
      by_cases hlt : k < l.length
      · have k2 : (k : Int) < (l.length : Int) := by omega
        obtain ⟨ad, rfl, c0, c1⟩ := step_cells (Kd.C_below hC hbw) k hlt
        obtain ⟨_, e', c0', _⟩ := step_cells hC k hlt
        obtain rfl := Option.some.inj e'
        have hal := World.block_lt_of_cell? w _ c0'
        clear c0'
        generalize l[k] = yy at *
        obtain ⟨yk, m⟩ := yy
        dsimp only at c0 c1
        have n1 := N1.s0
        have n2 := N1.x0
        have n3 := N1.xk
        have n4 := N1.lk
        have hall := O1.out.2.2.2.2
        by_cases h1 : yk = 1
        · subst h1
          have P1 := send F pb (mx z) (mx d) (mx q) m ms s x wr hp n1 HQ.out (by omega) n2 (by omega)
          have M1 := N1.send (z := mx z) (m := m) (by omega) hd0
          have hfa : (ad.add (k * 2)).block < wr.heap.size := World.block_lt_of_cell? wr _ c0
          have hFa : ¬ F (ad.add (k * 2)).block := fun h => by have := fF _ h; omega
          rcases code_cases (mx z) (mx d) (mx q) s x ms m with ⟨hc, hs', ec1, ec2, ec3⟩ | ⟨hc, ec1, ec2, ec3⟩
          · rw [hc, ec1, ec2, ec3] at P1
            rw [ec1, ec2, ec3] at M1
            obtain ⟨pre5, O5⟩ := O1.out.put m hs'
            generalize nl (mx d) ms m = ms5 at *
            generalize nx (mx d) ms x = x5 at *
            have HP := Lib.hid P1
            clear P1 hc ec1 ec2 ec3
            go_wp2_with fail
            refine HP.out.mono ?_
            rintro e wa ⟨rfl, ⟨F5, qa, gA⟩, mA⟩
            have bA := mA.below hb hsz fF
            have hoA := ho.same flat_string (fun k hk => mA.block k (lG k hk) (fun hf => dis k hf hk))
            have lGA : ∀ k, G k → k < wa.heap.size := fun k hk => Nat.lt_of_lt_of_le (lG k hk) mA.size
            have szA := mA.size
            have c1' := mA.cell c1 hFa
            obtain ⟨v1, w1, hrun, ho1, hg1, hs1⟩ := hoA.append (P := Try.prog) flat_string 67 67 (.string ⟨#[]⟩) 16 Try.underlying67 (by kernel_rfl) rfl (by decide) (by decide) m [.string m] rfl lGA (by omega)
            have HR := Lib.hid hrun
            have b5 : Below pb W0 w1 := bA.grown hg1 (by omega) (fun k hk => fG k (hoA.base k hk))
            have disA : ∀ k, F5 k → ¬ G k := fun k hf hg => by
              rcases gA k hf with h | h
              · exact dis k h hg
              · have := lG k hg
                omega
            have Q5 : QP w1 F5 pb _ _ _ _ _ _ := qa.same (fun k hk => hg1.block k (qa.lt k hk) (hoA.away (disA k hk))) hg1.size
            have fF5 : ∀ k, F5 k → pb ≤ k := fun k hf => (gA k hf).elim (fF k) (fun h => by omega)
            have fG5 : ∀ k, (G k ∨ (wa.heap.size ≤ k ∧ k < w1.heap.size)) → pb ≤ k := fun k hf => hf.elim (fG k) (fun h => by omega)
            have lG5 : ∀ k, (G k ∨ (wa.heap.size ≤ k ∧ k < w1.heap.size)) → k < w1.heap.size := fun k hf => hf.elim (fun h => by have := lGA k h; omega) (fun h => h.2)
            have dis5 : ∀ k, F5 k → ¬ (G k ∨ (wa.heap.size ≤ k ∧ k < w1.heap.size)) := fun k hf hg => hg.elim (disA k hf) (fun h => by have := qa.lt k hf; omega)
            obtain ⟨A7, c7, rfl, _, _⟩ := ho1.rd.get
            have ho5 := ho1
            have N5 := M1
            clear hrun hg1 hoA ho ho1 mA hp hb qa gA M1
            generalize all ++ [m] = all5 at *
            go_wp2_with (at_builtin; refine wp_append rfl _ _ _ rfl rfl rfl HR.out ?_)
            have hct := Lib.hid O5.count
            have hsq : (s + 1) ≤ mx q := O5.2.2.2.1
            have hal5 : (all5).length ≤ k + 1 := O5.2.2.2.2
            have hg0 : 0 ≤ got := O5.2.2.1
            have hx0 := N5.x0
            have hld := N5.ld
            have hu : IntKind.u64.wrap (got + ((ms5).length : Int)) = got + ((ms5).length : Int) := wrapu64 (by omega) (by have := hct.out; omega)
            have hu0 : IntKind.i64.wrap (got + ((ms5).length : Int)) = got + ((ms5).length : Int) := wrapi64 (by omega) (by have := hct.out; omega)
            have hu2 : IntKind.u64.wrap (got + ((ms5).length : Int) + x5) = ((all5).length : Int) := by rw [wrapu64 (by omega) (by have := hct.out; omega)]; exact hct.out.symm
            have hu3 : IntKind.u64.wrap ((all5).length : Int) = ((all5).length : Int) := wrapu64 (by omega) (by omega)
            have e1 := cbel b5 a1 (Nat.lt_of_succ_le s0)
            have e2 := cbel b5 a2 (Nat.lt_of_succ_le s0)
            have hd5 : decide ((if d < 0 then 0 else d) < ((ms5).length : Int)) = false := decide_eq_false (by show ¬ (mx d < _); omega)
            have hq5 : decide ((if q < 0 then 0 else q) < (s + 1)) = false := decide_eq_false (by show ¬ (mx q < _); omega)
            clear hld hsq hct
            go_wp2_with fail
            refine Reg.wp_plan (S := fun w' => QP w' F5 pb (mx z) (mx d) (mx q) ms5 (s + 1) x5 ∧ w'.cell? ⟨w.heap.size, 1, none⟩ = some (.int .i64 d) ∧ w'.cell? ⟨w.heap.size, 2, none⟩ = some (.int .i64 q)) 28 (.fl 0 (.fl 2 (.fl 3 (.fl 4 (.one 1 (.fl 5 (.fl 6 (.fl 7 (.fl 9 (.fl 10 (.fl 11 (.one 8 (.fl 12 (.fl 13 (.fl 14 (.fl 15 (.fl 16 (.fl 20 (.fl 23 (.fl 24 (.fl 25 (.one 17 (.fl 18 (.fl 19 (.one 21 (.fl 22 (.fl 26 (.fl 27 .done)))))))))))))))))))))))))))) (by kernel_rfl) (by kernel_rfl) (by kernel_rfl) (by kernel_rfl) (fun _ _ _ d _ h => by cases d <;> exact h) ?_ (fun hHeld => ?_)
            · exact ⟨Q5.drew, by simpa using e1, by simpa using e2⟩
            refine Reg.G_on (o := { dst := some 81, op := Op.move (Operand.tmp 5), type := 59, pos := "law.go:109", after := #[], guard := Option.none }) (v := ?_) (by rfl) ?_ (fun wS hSw => ?_) ?_
            rotate_left
            · kernel_rfl
            · (try dsimp only at hSw); go_simp; (try with_reducible rfl)
            try simp only [Act.put, List.setIfInBounds_toArray, List.set_cons_zero, List.set_cons_succ]
            refine Reg.G_on (o := { dst := some 83, op := Op.indexAddr 56 (Operand.tmp 2) (Operand.const (Value.int IntKind.i64 1)), type := 0, pos := "law.go:109", after := #[], guard := Option.none }) (v := ?_) (by rfl) ?_ (fun wS hSw => ?_) ?_
            rotate_left
            · kernel_rfl
            · (try dsimp only at hSw); go_simp; (try with_reducible rfl)
            try simp only [Act.put, List.setIfInBounds_toArray, List.set_cons_zero, List.set_cons_succ]
            refine Reg.G_on (o := { dst := some 84, op := Op.load 3 (Operand.tmp 83), type := 3, pos := "law.go:109", after := #[{ on := 2, ground := Ground.data }], guard := Option.none }) (v := ?_) (by rfl) ?_ (fun wS hSw => ?_) ?_
            rotate_left
            · kernel_rfl
            · (try dsimp only at hSw); go_simp; (try with_reducible rfl)
            try simp only [Act.put, List.setIfInBounds_toArray, List.set_cons_zero, List.set_cons_succ]
            refine Reg.G_on (o := { dst := some 85, op := Op.call { callee := Callee.builtin Builtin.max, args := #[Operand.tmp 84, Operand.const (Value.int IntKind.i64 0)], argTypes := #[3, 3] }, type := 3, pos := "law.go:109", after := #[{ on := 3, ground := Ground.data }], guard := Option.none }) (v := ?_) (by rfl) ?_ (fun wS hSw => ?_) ?_
            rotate_left
            · kernel_rfl
            · (try dsimp only at hSw); go_simp; (try with_reducible rfl)
            try simp only [Act.put, List.setIfInBounds_toArray, List.set_cons_zero, List.set_cons_succ]
            refine Reg.G_step (o := { dst := some 82, op := Op.call { callee := Callee.value (Operand.func 38), args := #[Operand.tmp 81], argTypes := #[59] }, type := 3, pos := "law.go:109", after := #[{ on := 0, ground := Ground.data }], guard := Option.none }) (by rfl) ?_ (fun K hK => ?_)
            · kernel_rfl
            go_simp
            refine (waits _ _ _ _ _ _ _ _ _ hHeld.1).mono ?_
            rintro e w' ⟨rfl, rfl⟩
            refine hK.out _ _ ?_ (fun hHeld => ?_)
            · exact hHeld
            clear hK K
            try simp only [Act.put, List.setIfInBounds_toArray, List.set_cons_zero, List.set_cons_succ]
            refine Reg.G_on (o := { dst := some 86, op := Op.binOp BinOp.gtr 3 (Operand.tmp 82) (Operand.tmp 85) 3, type := 4, pos := "law.go:109", after := #[{ on := 1, ground := Ground.data }, { on := 4, ground := Ground.data }], guard := Option.none }) (v := ?_) (by rfl) ?_ (fun wS hSw => ?_) ?_
            rotate_left
            · kernel_rfl
            · (try dsimp only at hSw); go_simp; (try with_reducible rfl)
            try simp only [Act.put, List.setIfInBounds_toArray, List.set_cons_zero, List.set_cons_succ]
            refine Reg.G_on (o := { dst := some 87, op := Op.move (Operand.tmp 86), type := 4, pos := "law.go:109", after := #[{ on := 5, ground := Ground.data }, { on := 1, ground := Ground.chain }], guard := Option.none }) (v := ?_) (by rfl) ?_ (fun wS hSw => ?_) ?_
            rotate_left
            · kernel_rfl
            · (try dsimp only at hSw); go_simp; (try with_reducible rfl)
            try simp only [Act.put, List.setIfInBounds_toArray, List.set_cons_zero, List.set_cons_succ]
            refine Reg.G_on (o := { dst := some 88, op := Op.move (Operand.tmp 5), type := 59, pos := "law.go:109", after := #[{ on := 6, ground := Ground.guard }], guard := some (6, false) }) (v := ?_) (by rfl) ?_ (fun wS hSw => ?_) ?_
            rotate_left
            · kernel_rfl
            · (try dsimp only at hSw); go_simp; (try with_reducible rfl)
            try simp only [Act.put, List.setIfInBounds_toArray, List.set_cons_zero, List.set_cons_succ]
            refine Reg.G_on (o := { dst := some 90, op := Op.indexAddr 56 (Operand.tmp 2) (Operand.const (Value.int IntKind.i64 2)), type := 0, pos := "law.go:109", after := #[{ on := 6, ground := Ground.guard }], guard := some (6, false) }) (v := ?_) (by rfl) ?_ (fun wS hSw => ?_) ?_
            rotate_left
            · kernel_rfl
            · (try dsimp only at hSw); go_simp; (try with_reducible rfl)
            try simp only [Act.put, List.setIfInBounds_toArray, List.set_cons_zero, List.set_cons_succ]
            refine Reg.G_on (o := { dst := some 91, op := Op.load 3 (Operand.tmp 90), type := 3, pos := "law.go:109", after := #[{ on := 9, ground := Ground.data }, { on := 6, ground := Ground.guard }], guard := some (6, false) }) (v := ?_) (by rfl) ?_ (fun wS hSw => ?_) ?_
            rotate_left
            · kernel_rfl
            · (try dsimp only at hSw); go_simp; (try with_reducible rfl)
            try simp only [Act.put, List.setIfInBounds_toArray, List.set_cons_zero, List.set_cons_succ]
            refine Reg.G_on (o := { dst := some 92, op := Op.call { callee := Callee.builtin Builtin.max, args := #[Operand.tmp 91, Operand.const (Value.int IntKind.i64 0)], argTypes := #[3, 3] }, type := 3, pos := "law.go:109", after := #[{ on := 10, ground := Ground.data }, { on := 6, ground := Ground.guard }], guard := some (6, false) }) (v := ?_) (by rfl) ?_ (fun wS hSw => ?_) ?_
            rotate_left
            · kernel_rfl
            · (try dsimp only at hSw); go_simp; (try with_reducible rfl)
            try simp only [Act.put, List.setIfInBounds_toArray, List.set_cons_zero, List.set_cons_succ]
            refine Reg.G_step (o := { dst := some 89, op := Op.call { callee := Callee.value (Operand.func 33), args := #[Operand.tmp 88], argTypes := #[59] }, type := 3, pos := "law.go:109", after := #[{ on := 7, ground := Ground.data }, { on := 6, ground := Ground.chain }, { on := 6, ground := Ground.guard }], guard := some (6, false) }) (by rfl) ?_ (fun K hK => ?_)
            · kernel_rfl
            go_simp
            refine (sent _ _ _ _ _ _ _ _ _ hHeld.1).mono ?_
            rintro e w' ⟨rfl, rfl⟩
            refine hK.out _ _ ?_ (fun hHeld => ?_)
            · exact hHeld
            clear hK K
            try simp only [Act.put, List.setIfInBounds_toArray, List.set_cons_zero, List.set_cons_succ]
            refine Reg.G_on (o := { dst := some 93, op := Op.binOp BinOp.gtr 3 (Operand.tmp 89) (Operand.tmp 92) 3, type := 4, pos := "law.go:109", after := #[{ on := 8, ground := Ground.data }, { on := 11, ground := Ground.data }, { on := 6, ground := Ground.guard }], guard := some (6, false) }) (v := ?_) (by rfl) ?_ (fun wS hSw => ?_) ?_
            rotate_left
            · kernel_rfl
            · (try dsimp only at hSw); go_simp; (try with_reducible rfl)
            try simp only [Act.put, List.setIfInBounds_toArray, List.set_cons_zero, List.set_cons_succ]
            refine Reg.G_on (o := { dst := some 94, op := Op.pick (Operand.tmp 87) (Operand.const (Value.bool true)) (Operand.tmp 93), type := 4, pos := "law.go:109", after := #[{ on := 6, ground := Ground.data }, { on := 12, ground := Ground.data }], guard := Option.none }) (v := ?_) (by rfl) ?_ (fun wS hSw => ?_) ?_
            rotate_left
            · kernel_rfl
            · (try dsimp only at hSw); go_simp; (try with_reducible rfl)
            try simp only [Act.put, List.setIfInBounds_toArray, List.set_cons_zero, List.set_cons_succ]
            refine Reg.G_on (o := { dst := some 95, op := Op.move (Operand.tmp 94), type := 4, pos := "law.go:109", after := #[{ on := 13, ground := Ground.data }, { on := 8, ground := Ground.chain }], guard := Option.none }) (v := ?_) (by rfl) ?_ (fun wS hSw => ?_) ?_
            rotate_left
            · kernel_rfl
            · (try dsimp only at hSw); go_simp; (try with_reducible rfl)
            try simp only [Act.put, List.setIfInBounds_toArray, List.set_cons_zero, List.set_cons_succ]
            refine Reg.G_on (o := { dst := some 96, op := Op.move (Operand.tmp 8), type := 3, pos := "law.go:109", after := #[{ on := 14, ground := Ground.guard }], guard := some (14, false) }) (v := ?_) (by rfl) ?_ (fun wS hSw => ?_) ?_
            rotate_left
            · kernel_rfl
            · (try dsimp only at hSw); go_simp; (try with_reducible rfl)
            try simp only [Act.put, List.setIfInBounds_toArray, List.set_cons_zero, List.set_cons_succ]
            refine Reg.G_on (o := { dst := some 97, op := Op.move (Operand.tmp 5), type := 59, pos := "law.go:109", after := #[{ on := 14, ground := Ground.guard }], guard := some (14, false) }) (v := ?_) (by rfl) ?_ (fun wS hSw => ?_) ?_
            rotate_left
            · kernel_rfl
            · (try dsimp only at hSw); go_simp; (try with_reducible rfl)
            try simp only [Act.put, List.setIfInBounds_toArray, List.set_cons_zero, List.set_cons_succ]
            refine Reg.G_on (o := { dst := some 101, op := Op.move (Operand.tmp 5), type := 59, pos := "law.go:109", after := #[{ on := 14, ground := Ground.guard }], guard := some (14, false) }) (v := ?_) (by rfl) ?_ (fun wS hSw => ?_) ?_
            rotate_left
            · kernel_rfl
            · (try dsimp only at hSw); go_simp; (try with_reducible rfl)
            try simp only [Act.put, List.setIfInBounds_toArray, List.set_cons_zero, List.set_cons_succ]
            refine Reg.G_on (o := { dst := some 104, op := Op.move (Operand.tmp 6), type := 67, pos := "law.go:109", after := #[{ on := 14, ground := Ground.guard }], guard := some (14, false) }) (v := ?_) (by rfl) ?_ (fun wS hSw => ?_) ?_
            rotate_left
            · kernel_rfl
            · (try dsimp only at hSw); go_simp; (try with_reducible rfl)
            try simp only [Act.put, List.setIfInBounds_toArray, List.set_cons_zero, List.set_cons_succ]
            refine Reg.G_on (o := { dst := some 105, op := Op.call { callee := Callee.builtin Builtin.len, args := #[Operand.tmp 104], argTypes := #[67] }, type := 3, pos := "law.go:109", after := #[{ on := 23, ground := Ground.data }, { on := 14, ground := Ground.guard }], guard := some (14, false) }) (v := ?_) (by rfl) ?_ (fun wS hSw => ?_) ?_
            rotate_left
            · kernel_rfl
            · (try dsimp only at hSw); go_simp; (try with_reducible rfl)
            try simp only [Act.put, List.setIfInBounds_toArray, List.set_cons_zero, List.set_cons_succ]
            refine Reg.G_on (o := { dst := some 106, op := Op.convert 3 27 (Operand.tmp 105), type := 27, pos := "law.go:109", after := #[{ on := 24, ground := Ground.data }, { on := 14, ground := Ground.guard }], guard := some (14, false) }) (v := ?_) (by rfl) ?_ (fun wS hSw => ?_) ?_
            rotate_left
            · kernel_rfl
            · (try dsimp only at hSw); go_simp; (try with_reducible rfl)
            try simp only [Act.put, List.setIfInBounds_toArray, List.set_cons_zero, List.set_cons_succ]
            refine Reg.G_step (o := { dst := some 98, op := Op.call { callee := Callee.value (Operand.func 38), args := #[Operand.tmp 97], argTypes := #[59] }, type := 3, pos := "law.go:109", after := #[{ on := 16, ground := Ground.data }, { on := 14, ground := Ground.chain }, { on := 14, ground := Ground.guard }], guard := some (14, false) }) (by rfl) ?_ (fun K hK => ?_)
            · kernel_rfl
            go_simp
            refine (waits _ _ _ _ _ _ _ _ _ hHeld.1).mono ?_
            rintro e w' ⟨rfl, rfl⟩
            refine hK.out _ _ ?_ (fun hHeld => ?_)
            · exact hHeld
            clear hK K
            try simp only [Act.put, List.setIfInBounds_toArray, List.set_cons_zero, List.set_cons_succ]
            refine Reg.G_on (o := { dst := some 99, op := Op.binOp BinOp.add 3 (Operand.tmp 96) (Operand.tmp 98) 3, type := 3, pos := "law.go:109", after := #[{ on := 15, ground := Ground.data }, { on := 17, ground := Ground.data }, { on := 14, ground := Ground.guard }], guard := some (14, false) }) (v := ?_) (by rfl) ?_ (fun wS hSw => ?_) ?_
            rotate_left
            · kernel_rfl
            · (try dsimp only at hSw); go_simp; (try with_reducible rfl)
            try simp only [Act.put, List.setIfInBounds_toArray, List.set_cons_zero, List.set_cons_succ]
            refine Reg.G_on (o := { dst := some 100, op := Op.convert 3 27 (Operand.tmp 99), type := 27, pos := "law.go:109", after := #[{ on := 18, ground := Ground.data }, { on := 14, ground := Ground.guard }], guard := some (14, false) }) (v := ?_) (by rfl) ?_ (fun wS hSw => ?_) ?_
            rotate_left
            · kernel_rfl
            · (try dsimp only at hSw); go_simp; (try with_reducible rfl)
            try simp only [Act.put, List.setIfInBounds_toArray, List.set_cons_zero, List.set_cons_succ]
            refine Reg.G_step (o := { dst := some 102, op := Op.call { callee := Callee.value (Operand.func 39), args := #[Operand.tmp 101], argTypes := #[59] }, type := 27, pos := "law.go:109", after := #[{ on := 20, ground := Ground.data }, { on := 17, ground := Ground.chain }, { on := 14, ground := Ground.guard }], guard := some (14, false) }) (by rfl) ?_ (fun K hK => ?_)
            · kernel_rfl
            go_simp
            refine (lost _ _ _ _ _ _ _ _ _ hHeld.1).mono ?_
            rintro e w' ⟨rfl, rfl⟩
            refine hK.out _ _ ?_ (fun hHeld => ?_)
            · exact hHeld
            clear hK K
            try simp only [Act.put, List.setIfInBounds_toArray, List.set_cons_zero, List.set_cons_succ]
            refine Reg.G_on (o := { dst := some 103, op := Op.binOp BinOp.add 27 (Operand.tmp 100) (Operand.tmp 102) 27, type := 27, pos := "law.go:109", after := #[{ on := 19, ground := Ground.data }, { on := 21, ground := Ground.data }, { on := 14, ground := Ground.guard }], guard := some (14, false) }) (v := ?_) (by rfl) ?_ (fun wS hSw => ?_) ?_
            rotate_left
            · kernel_rfl
            · (try dsimp only at hSw); go_simp; (try with_reducible rfl)
            try simp only [Act.put, List.setIfInBounds_toArray, List.set_cons_zero, List.set_cons_succ]
            refine Reg.G_on (o := { dst := some 107, op := Op.binOp BinOp.neq 27 (Operand.tmp 103) (Operand.tmp 106) 27, type := 4, pos := "law.go:109", after := #[{ on := 22, ground := Ground.data }, { on := 25, ground := Ground.data }, { on := 14, ground := Ground.guard }], guard := some (14, false) }) (v := ?_) (by rfl) ?_ (fun wS hSw => ?_) ?_
            rotate_left
            · kernel_rfl
            · (try dsimp only at hSw); go_simp; (try with_reducible rfl)
            try simp only [Act.put, List.setIfInBounds_toArray, List.set_cons_zero, List.set_cons_succ]
            refine Reg.G_on (o := { dst := some 108, op := Op.pick (Operand.tmp 95) (Operand.const (Value.bool true)) (Operand.tmp 107), type := 4, pos := "law.go:109", after := #[{ on := 14, ground := Ground.data }, { on := 26, ground := Ground.data }], guard := Option.none }) (v := ?_) (by rfl) ?_ (fun wS hSw => ?_) ?_
            rotate_left
            · kernel_rfl
            · (try dsimp only at hSw); go_simp; (try with_reducible rfl)
            try simp only [Act.put, List.setIfInBounds_toArray, List.set_cons_zero, List.set_cons_succ]
            refine Reg.G_done ?_
            go_wp2
            go_roundw
            case rel => exact ⟨k + 1, ms5, all5, _, (s + 1), x5, got, F5, _, by omega, by go_num, rfl, Q5.drew, ho5.same flat_string (fun _ _ => rfl), N5, O5, dis5, lG5, fF5, fG5, b5.drew⟩
            case measure => simp [intOf]; omega
          · rw [ec1, ec2, ec3] at P1 M1
            have HP := Lib.hid P1
            clear P1 ec1 ec2 ec3
            go_wp2_with fail
            refine HP.out.mono ?_
            rintro e wa ⟨rfl, ⟨F5, Q5, gA⟩, mA⟩
            have b5 := mA.below hb hsz fF
            have ho5 := ho.same flat_string (fun k hk => mA.block k (lG k hk) (fun hf => dis k hf hk))
            have lG5 : ∀ k, G k → k < wa.heap.size := fun k hk => Nat.lt_of_lt_of_le (lG k hk) mA.size
            have dis5 : ∀ k, F5 k → ¬ G k := fun k hf hg => by
              rcases gA k hf with h | h
              · exact dis k h hg
              · have := lG k hg
                omega
            have fF5 : ∀ k, F5 k → pb ≤ k := fun k hf => (gA k hf).elim (fF k) (fun h => by omega)
            have O5 := O1.out.more
            have N5 := M1
            clear ho mA hp hb gA M1
            have hct := Lib.hid O5.count
            have hsq : s ≤ mx q := O5.2.2.2.1
            have hal5 : (all).length ≤ k + 1 := O5.2.2.2.2
            have hg0 : 0 ≤ got := O5.2.2.1
            have hx0 := N5.x0
            have hld := N5.ld
            have hu : IntKind.u64.wrap (got + ((ms).length : Int)) = got + ((ms).length : Int) := wrapu64 (by omega) (by have := hct.out; omega)
            have hu0 : IntKind.i64.wrap (got + ((ms).length : Int)) = got + ((ms).length : Int) := wrapi64 (by omega) (by have := hct.out; omega)
            have hu2 : IntKind.u64.wrap (got + ((ms).length : Int) + x) = ((all).length : Int) := by rw [wrapu64 (by omega) (by have := hct.out; omega)]; exact hct.out.symm
            have hu3 : IntKind.u64.wrap ((all).length : Int) = ((all).length : Int) := wrapu64 (by omega) (by omega)
            have e1 := cbel b5 a1 (Nat.lt_of_succ_le s0)
            have e2 := cbel b5 a2 (Nat.lt_of_succ_le s0)
            have hd5 : decide ((if d < 0 then 0 else d) < ((ms).length : Int)) = false := decide_eq_false (by show ¬ (mx d < _); omega)
            have hq5 : decide ((if q < 0 then 0 else q) < s) = false := decide_eq_false (by show ¬ (mx q < _); omega)
            clear hld hsq hct
            go_wp2_with fail
            refine Reg.wp_plan (S := fun w' => QP w' F5 pb (mx z) (mx d) (mx q) ms s x ∧ w'.cell? ⟨w.heap.size, 1, none⟩ = some (.int .i64 d) ∧ w'.cell? ⟨w.heap.size, 2, none⟩ = some (.int .i64 q)) 28 (.fl 0 (.fl 2 (.fl 3 (.fl 4 (.one 1 (.fl 5 (.fl 6 (.fl 7 (.fl 9 (.fl 10 (.fl 11 (.one 8 (.fl 12 (.fl 13 (.fl 14 (.fl 15 (.fl 16 (.fl 20 (.fl 23 (.fl 24 (.fl 25 (.one 17 (.fl 18 (.fl 19 (.one 21 (.fl 22 (.fl 26 (.fl 27 .done)))))))))))))))))))))))))))) (by kernel_rfl) (by kernel_rfl) (by kernel_rfl) (by kernel_rfl) (fun _ _ _ d _ h => by cases d <;> exact h) ?_ (fun hHeld => ?_)
            · exact ⟨Q5.drew, by simpa using e1, by simpa using e2⟩
            refine Reg.G_on (o := { dst := some 81, op := Op.move (Operand.tmp 5), type := 59, pos := "law.go:109", after := #[], guard := Option.none }) (v := ?_) (by rfl) ?_ (fun wS hSw => ?_) ?_
            rotate_left
            · kernel_rfl
            · (try dsimp only at hSw); go_simp; (try with_reducible rfl)
            try simp only [Act.put, List.setIfInBounds_toArray, List.set_cons_zero, List.set_cons_succ]
            refine Reg.G_on (o := { dst := some 83, op := Op.indexAddr 56 (Operand.tmp 2) (Operand.const (Value.int IntKind.i64 1)), type := 0, pos := "law.go:109", after := #[], guard := Option.none }) (v := ?_) (by rfl) ?_ (fun wS hSw => ?_) ?_
            rotate_left
            · kernel_rfl
            · (try dsimp only at hSw); go_simp; (try with_reducible rfl)
            try simp only [Act.put, List.setIfInBounds_toArray, List.set_cons_zero, List.set_cons_succ]
            refine Reg.G_on (o := { dst := some 84, op := Op.load 3 (Operand.tmp 83), type := 3, pos := "law.go:109", after := #[{ on := 2, ground := Ground.data }], guard := Option.none }) (v := ?_) (by rfl) ?_ (fun wS hSw => ?_) ?_
            rotate_left
            · kernel_rfl
            · (try dsimp only at hSw); go_simp; (try with_reducible rfl)
            try simp only [Act.put, List.setIfInBounds_toArray, List.set_cons_zero, List.set_cons_succ]
            refine Reg.G_on (o := { dst := some 85, op := Op.call { callee := Callee.builtin Builtin.max, args := #[Operand.tmp 84, Operand.const (Value.int IntKind.i64 0)], argTypes := #[3, 3] }, type := 3, pos := "law.go:109", after := #[{ on := 3, ground := Ground.data }], guard := Option.none }) (v := ?_) (by rfl) ?_ (fun wS hSw => ?_) ?_
            rotate_left
            · kernel_rfl
            · (try dsimp only at hSw); go_simp; (try with_reducible rfl)
            try simp only [Act.put, List.setIfInBounds_toArray, List.set_cons_zero, List.set_cons_succ]
            refine Reg.G_step (o := { dst := some 82, op := Op.call { callee := Callee.value (Operand.func 38), args := #[Operand.tmp 81], argTypes := #[59] }, type := 3, pos := "law.go:109", after := #[{ on := 0, ground := Ground.data }], guard := Option.none }) (by rfl) ?_ (fun K hK => ?_)
            · kernel_rfl
            go_simp
            refine (waits _ _ _ _ _ _ _ _ _ hHeld.1).mono ?_
            rintro e w' ⟨rfl, rfl⟩
            refine hK.out _ _ ?_ (fun hHeld => ?_)
            · exact hHeld
            clear hK K
            try simp only [Act.put, List.setIfInBounds_toArray, List.set_cons_zero, List.set_cons_succ]
            refine Reg.G_on (o := { dst := some 86, op := Op.binOp BinOp.gtr 3 (Operand.tmp 82) (Operand.tmp 85) 3, type := 4, pos := "law.go:109", after := #[{ on := 1, ground := Ground.data }, { on := 4, ground := Ground.data }], guard := Option.none }) (v := ?_) (by rfl) ?_ (fun wS hSw => ?_) ?_
            rotate_left
            · kernel_rfl
            · (try dsimp only at hSw); go_simp; (try with_reducible rfl)
            try simp only [Act.put, List.setIfInBounds_toArray, List.set_cons_zero, List.set_cons_succ]
            refine Reg.G_on (o := { dst := some 87, op := Op.move (Operand.tmp 86), type := 4, pos := "law.go:109", after := #[{ on := 5, ground := Ground.data }, { on := 1, ground := Ground.chain }], guard := Option.none }) (v := ?_) (by rfl) ?_ (fun wS hSw => ?_) ?_
            rotate_left
            · kernel_rfl
            · (try dsimp only at hSw); go_simp; (try with_reducible rfl)
            try simp only [Act.put, List.setIfInBounds_toArray, List.set_cons_zero, List.set_cons_succ]
            refine Reg.G_on (o := { dst := some 88, op := Op.move (Operand.tmp 5), type := 59, pos := "law.go:109", after := #[{ on := 6, ground := Ground.guard }], guard := some (6, false) }) (v := ?_) (by rfl) ?_ (fun wS hSw => ?_) ?_
            rotate_left
            · kernel_rfl
            · (try dsimp only at hSw); go_simp; (try with_reducible rfl)
            try simp only [Act.put, List.setIfInBounds_toArray, List.set_cons_zero, List.set_cons_succ]
            refine Reg.G_on (o := { dst := some 90, op := Op.indexAddr 56 (Operand.tmp 2) (Operand.const (Value.int IntKind.i64 2)), type := 0, pos := "law.go:109", after := #[{ on := 6, ground := Ground.guard }], guard := some (6, false) }) (v := ?_) (by rfl) ?_ (fun wS hSw => ?_) ?_
            rotate_left
            · kernel_rfl
            · (try dsimp only at hSw); go_simp; (try with_reducible rfl)
            try simp only [Act.put, List.setIfInBounds_toArray, List.set_cons_zero, List.set_cons_succ]
            refine Reg.G_on (o := { dst := some 91, op := Op.load 3 (Operand.tmp 90), type := 3, pos := "law.go:109", after := #[{ on := 9, ground := Ground.data }, { on := 6, ground := Ground.guard }], guard := some (6, false) }) (v := ?_) (by rfl) ?_ (fun wS hSw => ?_) ?_
            rotate_left
            · kernel_rfl
            · (try dsimp only at hSw); go_simp; (try with_reducible rfl)
            try simp only [Act.put, List.setIfInBounds_toArray, List.set_cons_zero, List.set_cons_succ]
            refine Reg.G_on (o := { dst := some 92, op := Op.call { callee := Callee.builtin Builtin.max, args := #[Operand.tmp 91, Operand.const (Value.int IntKind.i64 0)], argTypes := #[3, 3] }, type := 3, pos := "law.go:109", after := #[{ on := 10, ground := Ground.data }, { on := 6, ground := Ground.guard }], guard := some (6, false) }) (v := ?_) (by rfl) ?_ (fun wS hSw => ?_) ?_
            rotate_left
            · kernel_rfl
            · (try dsimp only at hSw); go_simp; (try with_reducible rfl)
            try simp only [Act.put, List.setIfInBounds_toArray, List.set_cons_zero, List.set_cons_succ]
            refine Reg.G_step (o := { dst := some 89, op := Op.call { callee := Callee.value (Operand.func 33), args := #[Operand.tmp 88], argTypes := #[59] }, type := 3, pos := "law.go:109", after := #[{ on := 7, ground := Ground.data }, { on := 6, ground := Ground.chain }, { on := 6, ground := Ground.guard }], guard := some (6, false) }) (by rfl) ?_ (fun K hK => ?_)
            · kernel_rfl
            go_simp
            refine (sent _ _ _ _ _ _ _ _ _ hHeld.1).mono ?_
            rintro e w' ⟨rfl, rfl⟩
            refine hK.out _ _ ?_ (fun hHeld => ?_)
            · exact hHeld
            clear hK K
            try simp only [Act.put, List.setIfInBounds_toArray, List.set_cons_zero, List.set_cons_succ]
            refine Reg.G_on (o := { dst := some 93, op := Op.binOp BinOp.gtr 3 (Operand.tmp 89) (Operand.tmp 92) 3, type := 4, pos := "law.go:109", after := #[{ on := 8, ground := Ground.data }, { on := 11, ground := Ground.data }, { on := 6, ground := Ground.guard }], guard := some (6, false) }) (v := ?_) (by rfl) ?_ (fun wS hSw => ?_) ?_
            rotate_left
            · kernel_rfl
            · (try dsimp only at hSw); go_simp; (try with_reducible rfl)
            try simp only [Act.put, List.setIfInBounds_toArray, List.set_cons_zero, List.set_cons_succ]
            refine Reg.G_on (o := { dst := some 94, op := Op.pick (Operand.tmp 87) (Operand.const (Value.bool true)) (Operand.tmp 93), type := 4, pos := "law.go:109", after := #[{ on := 6, ground := Ground.data }, { on := 12, ground := Ground.data }], guard := Option.none }) (v := ?_) (by rfl) ?_ (fun wS hSw => ?_) ?_
            rotate_left
            · kernel_rfl
            · (try dsimp only at hSw); go_simp; (try with_reducible rfl)
            try simp only [Act.put, List.setIfInBounds_toArray, List.set_cons_zero, List.set_cons_succ]
            refine Reg.G_on (o := { dst := some 95, op := Op.move (Operand.tmp 94), type := 4, pos := "law.go:109", after := #[{ on := 13, ground := Ground.data }, { on := 8, ground := Ground.chain }], guard := Option.none }) (v := ?_) (by rfl) ?_ (fun wS hSw => ?_) ?_
            rotate_left
            · kernel_rfl
            · (try dsimp only at hSw); go_simp; (try with_reducible rfl)
            try simp only [Act.put, List.setIfInBounds_toArray, List.set_cons_zero, List.set_cons_succ]
            refine Reg.G_on (o := { dst := some 96, op := Op.move (Operand.tmp 8), type := 3, pos := "law.go:109", after := #[{ on := 14, ground := Ground.guard }], guard := some (14, false) }) (v := ?_) (by rfl) ?_ (fun wS hSw => ?_) ?_
            rotate_left
            · kernel_rfl
            · (try dsimp only at hSw); go_simp; (try with_reducible rfl)
            try simp only [Act.put, List.setIfInBounds_toArray, List.set_cons_zero, List.set_cons_succ]
            refine Reg.G_on (o := { dst := some 97, op := Op.move (Operand.tmp 5), type := 59, pos := "law.go:109", after := #[{ on := 14, ground := Ground.guard }], guard := some (14, false) }) (v := ?_) (by rfl) ?_ (fun wS hSw => ?_) ?_
            rotate_left
            · kernel_rfl
            · (try dsimp only at hSw); go_simp; (try with_reducible rfl)
            try simp only [Act.put, List.setIfInBounds_toArray, List.set_cons_zero, List.set_cons_succ]
            refine Reg.G_on (o := { dst := some 101, op := Op.move (Operand.tmp 5), type := 59, pos := "law.go:109", after := #[{ on := 14, ground := Ground.guard }], guard := some (14, false) }) (v := ?_) (by rfl) ?_ (fun wS hSw => ?_) ?_
            rotate_left
            · kernel_rfl
            · (try dsimp only at hSw); go_simp; (try with_reducible rfl)
            try simp only [Act.put, List.setIfInBounds_toArray, List.set_cons_zero, List.set_cons_succ]
            refine Reg.G_on (o := { dst := some 104, op := Op.move (Operand.tmp 6), type := 67, pos := "law.go:109", after := #[{ on := 14, ground := Ground.guard }], guard := some (14, false) }) (v := ?_) (by rfl) ?_ (fun wS hSw => ?_) ?_
            rotate_left
            · kernel_rfl
            · (try dsimp only at hSw); go_simp; (try with_reducible rfl)
            try simp only [Act.put, List.setIfInBounds_toArray, List.set_cons_zero, List.set_cons_succ]
            refine Reg.G_on (o := { dst := some 105, op := Op.call { callee := Callee.builtin Builtin.len, args := #[Operand.tmp 104], argTypes := #[67] }, type := 3, pos := "law.go:109", after := #[{ on := 23, ground := Ground.data }, { on := 14, ground := Ground.guard }], guard := some (14, false) }) (v := ?_) (by rfl) ?_ (fun wS hSw => ?_) ?_
            rotate_left
            · kernel_rfl
            · (try dsimp only at hSw); go_simp; (try with_reducible rfl)
            try simp only [Act.put, List.setIfInBounds_toArray, List.set_cons_zero, List.set_cons_succ]
            refine Reg.G_on (o := { dst := some 106, op := Op.convert 3 27 (Operand.tmp 105), type := 27, pos := "law.go:109", after := #[{ on := 24, ground := Ground.data }, { on := 14, ground := Ground.guard }], guard := some (14, false) }) (v := ?_) (by rfl) ?_ (fun wS hSw => ?_) ?_
            rotate_left
            · kernel_rfl
            · (try dsimp only at hSw); go_simp; (try with_reducible rfl)
            try simp only [Act.put, List.setIfInBounds_toArray, List.set_cons_zero, List.set_cons_succ]
            refine Reg.G_step (o := { dst := some 98, op := Op.call { callee := Callee.value (Operand.func 38), args := #[Operand.tmp 97], argTypes := #[59] }, type := 3, pos := "law.go:109", after := #[{ on := 16, ground := Ground.data }, { on := 14, ground := Ground.chain }, { on := 14, ground := Ground.guard }], guard := some (14, false) }) (by rfl) ?_ (fun K hK => ?_)
            · kernel_rfl
            go_simp
            refine (waits _ _ _ _ _ _ _ _ _ hHeld.1).mono ?_
            rintro e w' ⟨rfl, rfl⟩
            refine hK.out _ _ ?_ (fun hHeld => ?_)
            · exact hHeld
            clear hK K
            try simp only [Act.put, List.setIfInBounds_toArray, List.set_cons_zero, List.set_cons_succ]
            refine Reg.G_on (o := { dst := some 99, op := Op.binOp BinOp.add 3 (Operand.tmp 96) (Operand.tmp 98) 3, type := 3, pos := "law.go:109", after := #[{ on := 15, ground := Ground.data }, { on := 17, ground := Ground.data }, { on := 14, ground := Ground.guard }], guard := some (14, false) }) (v := ?_) (by rfl) ?_ (fun wS hSw => ?_) ?_
            rotate_left
            · kernel_rfl
            · (try dsimp only at hSw); go_simp; (try with_reducible rfl)
            try simp only [Act.put, List.setIfInBounds_toArray, List.set_cons_zero, List.set_cons_succ]
            refine Reg.G_on (o := { dst := some 100, op := Op.convert 3 27 (Operand.tmp 99), type := 27, pos := "law.go:109", after := #[{ on := 18, ground := Ground.data }, { on := 14, ground := Ground.guard }], guard := some (14, false) }) (v := ?_) (by rfl) ?_ (fun wS hSw => ?_) ?_
            rotate_left
            · kernel_rfl
            · (try dsimp only at hSw); go_simp; (try with_reducible rfl)
            try simp only [Act.put, List.setIfInBounds_toArray, List.set_cons_zero, List.set_cons_succ]
            refine Reg.G_step (o := { dst := some 102, op := Op.call { callee := Callee.value (Operand.func 39), args := #[Operand.tmp 101], argTypes := #[59] }, type := 27, pos := "law.go:109", after := #[{ on := 20, ground := Ground.data }, { on := 17, ground := Ground.chain }, { on := 14, ground := Ground.guard }], guard := some (14, false) }) (by rfl) ?_ (fun K hK => ?_)
            · kernel_rfl
            go_simp
            refine (lost _ _ _ _ _ _ _ _ _ hHeld.1).mono ?_
            rintro e w' ⟨rfl, rfl⟩
            refine hK.out _ _ ?_ (fun hHeld => ?_)
            · exact hHeld
            clear hK K
            try simp only [Act.put, List.setIfInBounds_toArray, List.set_cons_zero, List.set_cons_succ]
            refine Reg.G_on (o := { dst := some 103, op := Op.binOp BinOp.add 27 (Operand.tmp 100) (Operand.tmp 102) 27, type := 27, pos := "law.go:109", after := #[{ on := 19, ground := Ground.data }, { on := 21, ground := Ground.data }, { on := 14, ground := Ground.guard }], guard := some (14, false) }) (v := ?_) (by rfl) ?_ (fun wS hSw => ?_) ?_
            rotate_left
            · kernel_rfl
            · (try dsimp only at hSw); go_simp; (try with_reducible rfl)
            try simp only [Act.put, List.setIfInBounds_toArray, List.set_cons_zero, List.set_cons_succ]
            refine Reg.G_on (o := { dst := some 107, op := Op.binOp BinOp.neq 27 (Operand.tmp 103) (Operand.tmp 106) 27, type := 4, pos := "law.go:109", after := #[{ on := 22, ground := Ground.data }, { on := 25, ground := Ground.data }, { on := 14, ground := Ground.guard }], guard := some (14, false) }) (v := ?_) (by rfl) ?_ (fun wS hSw => ?_) ?_
            rotate_left
            · kernel_rfl
            · (try dsimp only at hSw); go_simp; (try with_reducible rfl)
            try simp only [Act.put, List.setIfInBounds_toArray, List.set_cons_zero, List.set_cons_succ]
            refine Reg.G_on (o := { dst := some 108, op := Op.pick (Operand.tmp 95) (Operand.const (Value.bool true)) (Operand.tmp 107), type := 4, pos := "law.go:109", after := #[{ on := 14, ground := Ground.data }, { on := 26, ground := Ground.data }], guard := Option.none }) (v := ?_) (by rfl) ?_ (fun wS hSw => ?_) ?_
            rotate_left
            · kernel_rfl
            · (try dsimp only at hSw); go_simp; (try with_reducible rfl)
            try simp only [Act.put, List.setIfInBounds_toArray, List.set_cons_zero, List.set_cons_succ]
            refine Reg.G_done ?_
            go_wp2
            go_roundw
            case rel => exact ⟨k + 1, ms, all, _, s, x, got, F5, G, by omega, by go_num, rfl, Q5.drew, ho5.same flat_string (fun _ _ => rfl), N5, O5, dis5, lG5, fF5, fG, b5.drew⟩
            case measure => simp [intOf]; omega
        · have h1b : (yk == 1) = false := by simpa using h1
          by_cases h2 : yk = 2
          · subst h2
            have P2 := receive F pb (mx z) (mx d) (mx q) ms s x wr hp
            cases ms with
            | nil =>
              rw [show rm [] = ByteArray.empty from rfl, show rb [] = false from rfl] at P2
              go_wp2_with fail
              refine P2.mono ?_
              rintro e wa ⟨rfl, Q5, mA⟩
              have b5 := mA.below hb hsz fF
              have ho5 := ho.same flat_string (fun k hk => mA.block k (lG k hk) (fun hf => dis k hf hk))
              have lG5 : ∀ k, G k → k < wa.heap.size := fun k hk => Nat.lt_of_lt_of_le (lG k hk) mA.size
              go_wp2
              try (go_step3; go_wp2; go_step3; go_wp2)
              go_roundw
              case rel => exact ⟨k + 1, [], all, _, s, x, got, F, G, by omega, by go_num, rfl, Q5, ho5, N1.more (by omega), Lib.hid O1.out.more, dis, lG5, fF, fG, b5⟩
              case measure => simp [intOf]; omega
            | cons m0 tl =>
              obtain ⟨O5, hal, hget⟩ := O1.out.take
              have N5 : Nums (k + 1) (mx d) (mx q) tl s x := N1.recv (by omega)
              rw [show rm (m0 :: tl) = m0 from rfl, show rb (m0 :: tl) = true from rfl, show (m0 :: tl).tail = tl from rfl] at P2
              have HP := Lib.hid P2
              have HL := Lib.hid hal
              have n6 := O1.out.2.2.1
              have n7 := O1.out.2.1
              have hgw : IntKind.i64.wrap (got + 1) = got + 1 := wrapi64 (by omega) (by omega)
              have hw1 : IntKind.i64.wrap ((all.length : Int) - (tl.length : Int)) = (pre.length : Int) + 1 := by rw [wrapi64 (by omega) (by omega)]; omega
              have hw2 : IntKind.i64.wrap ((pre.length : Int) + 1 - 1) = (pre.length : Int) := by rw [wrapi64 (by omega) (by omega)]; omega
              have hpl : pre.length < all.length := by omega
              have hpl2 : (pre.length : Int) < (all.length : Int) := by omega
              have hpn : decide ((pre.length : Int) < 0) = false := decide_eq_false (by omega)
              clear P2 hal n6 n7
              go_wp2_with fail
              refine HP.out.mono ?_
              rintro e wa ⟨rfl, Q5, mA⟩
              have b5 := mA.below hb hsz fF
              have ho5 := ho.same flat_string (fun k hk => mA.block k (lG k hk) (fun hf => dis k hf hk))
              have lG5 : ∀ k, G k → k < wa.heap.size := fun k hk => Nat.lt_of_lt_of_le (lG k hk) mA.size
              obtain ⟨_, _, e6, _, hC6⟩ := ho5.rd.get
              injection e6 with e6 _ e7
              subst e6 e7
              obtain ⟨sd, rfl, hsd⟩ := Kd.at_string hC6 (pre.length : Int) (by omega) (by omega)
              rw [show rdOf ByteArray.empty all (pre.length : Int) = m0 from by unfold rdOf; rw [Int.toNat_natCast, List.getD_eq_getElem?_getD, List.getElem?_eq_getElem hpl]; exact hget hpl, Int.toNat_natCast] at hsd
              clear mA hp ho hb hC6 hget
              go_wp2_with fail
              refine (waits _ _ _ _ _ _ _ _ _ Q5).mono ?_
              rintro e w' ⟨rfl, rfl⟩
              have hct := Lib.hid O5.count
              have hsq : s ≤ mx q := O5.2.2.2.1
              have hal5 : (all).length ≤ k + 1 := O5.2.2.2.2
              have hg0 : 0 ≤ (got + 1) := O5.2.2.1
              have hx0 := N5.x0
              have hld := N5.ld
              have hu : IntKind.u64.wrap ((got + 1) + ((tl).length : Int)) = (got + 1) + ((tl).length : Int) := wrapu64 (by omega) (by have := hct.out; omega)
              have hu0 : IntKind.i64.wrap ((got + 1) + ((tl).length : Int)) = (got + 1) + ((tl).length : Int) := wrapi64 (by omega) (by have := hct.out; omega)
              have hu2 : IntKind.u64.wrap ((got + 1) + ((tl).length : Int) + x) = ((all).length : Int) := by rw [wrapu64 (by omega) (by have := hct.out; omega)]; exact hct.out.symm
              have hu3 : IntKind.u64.wrap ((all).length : Int) = ((all).length : Int) := wrapu64 (by omega) (by omega)
              have e1 := cbel b5 a1 (Nat.lt_of_succ_le s0)
              have e2 := cbel b5 a2 (Nat.lt_of_succ_le s0)
              have hd5 : decide ((if d < 0 then 0 else d) < ((tl).length : Int)) = false := decide_eq_false (by show ¬ (mx d < _); omega)
              have hq5 : decide ((if q < 0 then 0 else q) < s) = false := decide_eq_false (by show ¬ (mx q < _); omega)
              clear hld hsq hct
              go_wp2_with fail
              refine Reg.wp_plan (S := fun w' => QP w' F pb (mx z) (mx d) (mx q) tl s x ∧ w'.cell? ⟨w.heap.size, 1, none⟩ = some (.int .i64 d) ∧ w'.cell? ⟨w.heap.size, 2, none⟩ = some (.int .i64 q)) 28 (.fl 0 (.fl 2 (.fl 3 (.fl 4 (.one 1 (.fl 5 (.fl 6 (.fl 7 (.fl 9 (.fl 10 (.fl 11 (.one 8 (.fl 12 (.fl 13 (.fl 14 (.fl 15 (.fl 16 (.fl 20 (.fl 23 (.fl 24 (.fl 25 (.one 17 (.fl 18 (.fl 19 (.one 21 (.fl 22 (.fl 26 (.fl 27 .done)))))))))))))))))))))))))))) (by kernel_rfl) (by kernel_rfl) (by kernel_rfl) (by kernel_rfl) (fun _ _ _ d _ h => by cases d <;> exact h) ?_ (fun hHeld => ?_)
              · exact ⟨Q5.drew, by simpa using e1, by simpa using e2⟩
              refine Reg.G_on (o := { dst := some 81, op := Op.move (Operand.tmp 5), type := 59, pos := "law.go:109", after := #[], guard := Option.none }) (v := ?_) (by rfl) ?_ (fun wS hSw => ?_) ?_
              rotate_left
              · kernel_rfl
              · (try dsimp only at hSw); go_simp; (try with_reducible rfl)
              try simp only [Act.put, List.setIfInBounds_toArray, List.set_cons_zero, List.set_cons_succ]
              refine Reg.G_on (o := { dst := some 83, op := Op.indexAddr 56 (Operand.tmp 2) (Operand.const (Value.int IntKind.i64 1)), type := 0, pos := "law.go:109", after := #[], guard := Option.none }) (v := ?_) (by rfl) ?_ (fun wS hSw => ?_) ?_
              rotate_left
              · kernel_rfl
              · (try dsimp only at hSw); go_simp; (try with_reducible rfl)
              try simp only [Act.put, List.setIfInBounds_toArray, List.set_cons_zero, List.set_cons_succ]
              refine Reg.G_on (o := { dst := some 84, op := Op.load 3 (Operand.tmp 83), type := 3, pos := "law.go:109", after := #[{ on := 2, ground := Ground.data }], guard := Option.none }) (v := ?_) (by rfl) ?_ (fun wS hSw => ?_) ?_
              rotate_left
              · kernel_rfl
              · (try dsimp only at hSw); go_simp; (try with_reducible rfl)
              try simp only [Act.put, List.setIfInBounds_toArray, List.set_cons_zero, List.set_cons_succ]
              refine Reg.G_on (o := { dst := some 85, op := Op.call { callee := Callee.builtin Builtin.max, args := #[Operand.tmp 84, Operand.const (Value.int IntKind.i64 0)], argTypes := #[3, 3] }, type := 3, pos := "law.go:109", after := #[{ on := 3, ground := Ground.data }], guard := Option.none }) (v := ?_) (by rfl) ?_ (fun wS hSw => ?_) ?_
              rotate_left
              · kernel_rfl
              · (try dsimp only at hSw); go_simp; (try with_reducible rfl)
              try simp only [Act.put, List.setIfInBounds_toArray, List.set_cons_zero, List.set_cons_succ]
              refine Reg.G_step (o := { dst := some 82, op := Op.call { callee := Callee.value (Operand.func 38), args := #[Operand.tmp 81], argTypes := #[59] }, type := 3, pos := "law.go:109", after := #[{ on := 0, ground := Ground.data }], guard := Option.none }) (by rfl) ?_ (fun K hK => ?_)
              · kernel_rfl
              go_simp
              refine (waits _ _ _ _ _ _ _ _ _ hHeld.1).mono ?_
              rintro e w' ⟨rfl, rfl⟩
              refine hK.out _ _ ?_ (fun hHeld => ?_)
              · exact hHeld
              clear hK K
              try simp only [Act.put, List.setIfInBounds_toArray, List.set_cons_zero, List.set_cons_succ]
              refine Reg.G_on (o := { dst := some 86, op := Op.binOp BinOp.gtr 3 (Operand.tmp 82) (Operand.tmp 85) 3, type := 4, pos := "law.go:109", after := #[{ on := 1, ground := Ground.data }, { on := 4, ground := Ground.data }], guard := Option.none }) (v := ?_) (by rfl) ?_ (fun wS hSw => ?_) ?_
              rotate_left
              · kernel_rfl
              · (try dsimp only at hSw); go_simp; (try with_reducible rfl)
              try simp only [Act.put, List.setIfInBounds_toArray, List.set_cons_zero, List.set_cons_succ]
              refine Reg.G_on (o := { dst := some 87, op := Op.move (Operand.tmp 86), type := 4, pos := "law.go:109", after := #[{ on := 5, ground := Ground.data }, { on := 1, ground := Ground.chain }], guard := Option.none }) (v := ?_) (by rfl) ?_ (fun wS hSw => ?_) ?_
              rotate_left
              · kernel_rfl
              · (try dsimp only at hSw); go_simp; (try with_reducible rfl)
              try simp only [Act.put, List.setIfInBounds_toArray, List.set_cons_zero, List.set_cons_succ]
              refine Reg.G_on (o := { dst := some 88, op := Op.move (Operand.tmp 5), type := 59, pos := "law.go:109", after := #[{ on := 6, ground := Ground.guard }], guard := some (6, false) }) (v := ?_) (by rfl) ?_ (fun wS hSw => ?_) ?_
              rotate_left
              · kernel_rfl
              · (try dsimp only at hSw); go_simp; (try with_reducible rfl)
              try simp only [Act.put, List.setIfInBounds_toArray, List.set_cons_zero, List.set_cons_succ]
              refine Reg.G_on (o := { dst := some 90, op := Op.indexAddr 56 (Operand.tmp 2) (Operand.const (Value.int IntKind.i64 2)), type := 0, pos := "law.go:109", after := #[{ on := 6, ground := Ground.guard }], guard := some (6, false) }) (v := ?_) (by rfl) ?_ (fun wS hSw => ?_) ?_
              rotate_left
              · kernel_rfl
              · (try dsimp only at hSw); go_simp; (try with_reducible rfl)
              try simp only [Act.put, List.setIfInBounds_toArray, List.set_cons_zero, List.set_cons_succ]
              refine Reg.G_on (o := { dst := some 91, op := Op.load 3 (Operand.tmp 90), type := 3, pos := "law.go:109", after := #[{ on := 9, ground := Ground.data }, { on := 6, ground := Ground.guard }], guard := some (6, false) }) (v := ?_) (by rfl) ?_ (fun wS hSw => ?_) ?_
              rotate_left
              · kernel_rfl
              · (try dsimp only at hSw); go_simp; (try with_reducible rfl)
              try simp only [Act.put, List.setIfInBounds_toArray, List.set_cons_zero, List.set_cons_succ]
              refine Reg.G_on (o := { dst := some 92, op := Op.call { callee := Callee.builtin Builtin.max, args := #[Operand.tmp 91, Operand.const (Value.int IntKind.i64 0)], argTypes := #[3, 3] }, type := 3, pos := "law.go:109", after := #[{ on := 10, ground := Ground.data }, { on := 6, ground := Ground.guard }], guard := some (6, false) }) (v := ?_) (by rfl) ?_ (fun wS hSw => ?_) ?_
              rotate_left
              · kernel_rfl
              · (try dsimp only at hSw); go_simp; (try with_reducible rfl)
              try simp only [Act.put, List.setIfInBounds_toArray, List.set_cons_zero, List.set_cons_succ]
              refine Reg.G_step (o := { dst := some 89, op := Op.call { callee := Callee.value (Operand.func 33), args := #[Operand.tmp 88], argTypes := #[59] }, type := 3, pos := "law.go:109", after := #[{ on := 7, ground := Ground.data }, { on := 6, ground := Ground.chain }, { on := 6, ground := Ground.guard }], guard := some (6, false) }) (by rfl) ?_ (fun K hK => ?_)
              · kernel_rfl
              go_simp
              refine (sent _ _ _ _ _ _ _ _ _ hHeld.1).mono ?_
              rintro e w' ⟨rfl, rfl⟩
              refine hK.out _ _ ?_ (fun hHeld => ?_)
              · exact hHeld
              clear hK K
              try simp only [Act.put, List.setIfInBounds_toArray, List.set_cons_zero, List.set_cons_succ]
              refine Reg.G_on (o := { dst := some 93, op := Op.binOp BinOp.gtr 3 (Operand.tmp 89) (Operand.tmp 92) 3, type := 4, pos := "law.go:109", after := #[{ on := 8, ground := Ground.data }, { on := 11, ground := Ground.data }, { on := 6, ground := Ground.guard }], guard := some (6, false) }) (v := ?_) (by rfl) ?_ (fun wS hSw => ?_) ?_
              rotate_left
              · kernel_rfl
              · (try dsimp only at hSw); go_simp; (try with_reducible rfl)
              try simp only [Act.put, List.setIfInBounds_toArray, List.set_cons_zero, List.set_cons_succ]
              refine Reg.G_on (o := { dst := some 94, op := Op.pick (Operand.tmp 87) (Operand.const (Value.bool true)) (Operand.tmp 93), type := 4, pos := "law.go:109", after := #[{ on := 6, ground := Ground.data }, { on := 12, ground := Ground.data }], guard := Option.none }) (v := ?_) (by rfl) ?_ (fun wS hSw => ?_) ?_
              rotate_left
              · kernel_rfl
              · (try dsimp only at hSw); go_simp; (try with_reducible rfl)
              try simp only [Act.put, List.setIfInBounds_toArray, List.set_cons_zero, List.set_cons_succ]
              refine Reg.G_on (o := { dst := some 95, op := Op.move (Operand.tmp 94), type := 4, pos := "law.go:109", after := #[{ on := 13, ground := Ground.data }, { on := 8, ground := Ground.chain }], guard := Option.none }) (v := ?_) (by rfl) ?_ (fun wS hSw => ?_) ?_
              rotate_left
              · kernel_rfl
              · (try dsimp only at hSw); go_simp; (try with_reducible rfl)
              try simp only [Act.put, List.setIfInBounds_toArray, List.set_cons_zero, List.set_cons_succ]
              refine Reg.G_on (o := { dst := some 96, op := Op.move (Operand.tmp 8), type := 3, pos := "law.go:109", after := #[{ on := 14, ground := Ground.guard }], guard := some (14, false) }) (v := ?_) (by rfl) ?_ (fun wS hSw => ?_) ?_
              rotate_left
              · kernel_rfl
              · (try dsimp only at hSw); go_simp; (try with_reducible rfl)
              try simp only [Act.put, List.setIfInBounds_toArray, List.set_cons_zero, List.set_cons_succ]
              refine Reg.G_on (o := { dst := some 97, op := Op.move (Operand.tmp 5), type := 59, pos := "law.go:109", after := #[{ on := 14, ground := Ground.guard }], guard := some (14, false) }) (v := ?_) (by rfl) ?_ (fun wS hSw => ?_) ?_
              rotate_left
              · kernel_rfl
              · (try dsimp only at hSw); go_simp; (try with_reducible rfl)
              try simp only [Act.put, List.setIfInBounds_toArray, List.set_cons_zero, List.set_cons_succ]
              refine Reg.G_on (o := { dst := some 101, op := Op.move (Operand.tmp 5), type := 59, pos := "law.go:109", after := #[{ on := 14, ground := Ground.guard }], guard := some (14, false) }) (v := ?_) (by rfl) ?_ (fun wS hSw => ?_) ?_
              rotate_left
              · kernel_rfl
              · (try dsimp only at hSw); go_simp; (try with_reducible rfl)
              try simp only [Act.put, List.setIfInBounds_toArray, List.set_cons_zero, List.set_cons_succ]
              refine Reg.G_on (o := { dst := some 104, op := Op.move (Operand.tmp 6), type := 67, pos := "law.go:109", after := #[{ on := 14, ground := Ground.guard }], guard := some (14, false) }) (v := ?_) (by rfl) ?_ (fun wS hSw => ?_) ?_
              rotate_left
              · kernel_rfl
              · (try dsimp only at hSw); go_simp; (try with_reducible rfl)
              try simp only [Act.put, List.setIfInBounds_toArray, List.set_cons_zero, List.set_cons_succ]
              refine Reg.G_on (o := { dst := some 105, op := Op.call { callee := Callee.builtin Builtin.len, args := #[Operand.tmp 104], argTypes := #[67] }, type := 3, pos := "law.go:109", after := #[{ on := 23, ground := Ground.data }, { on := 14, ground := Ground.guard }], guard := some (14, false) }) (v := ?_) (by rfl) ?_ (fun wS hSw => ?_) ?_
              rotate_left
              · kernel_rfl
              · (try dsimp only at hSw); go_simp; (try with_reducible rfl)
              try simp only [Act.put, List.setIfInBounds_toArray, List.set_cons_zero, List.set_cons_succ]
              refine Reg.G_on (o := { dst := some 106, op := Op.convert 3 27 (Operand.tmp 105), type := 27, pos := "law.go:109", after := #[{ on := 24, ground := Ground.data }, { on := 14, ground := Ground.guard }], guard := some (14, false) }) (v := ?_) (by rfl) ?_ (fun wS hSw => ?_) ?_
              rotate_left
              · kernel_rfl
              · (try dsimp only at hSw); go_simp; (try with_reducible rfl)
              try simp only [Act.put, List.setIfInBounds_toArray, List.set_cons_zero, List.set_cons_succ]
              refine Reg.G_step (o := { dst := some 98, op := Op.call { callee := Callee.value (Operand.func 38), args := #[Operand.tmp 97], argTypes := #[59] }, type := 3, pos := "law.go:109", after := #[{ on := 16, ground := Ground.data }, { on := 14, ground := Ground.chain }, { on := 14, ground := Ground.guard }], guard := some (14, false) }) (by rfl) ?_ (fun K hK => ?_)
              · kernel_rfl
              go_simp
              refine (waits _ _ _ _ _ _ _ _ _ hHeld.1).mono ?_
              rintro e w' ⟨rfl, rfl⟩
              refine hK.out _ _ ?_ (fun hHeld => ?_)
              · exact hHeld
              clear hK K
              try simp only [Act.put, List.setIfInBounds_toArray, List.set_cons_zero, List.set_cons_succ]
              refine Reg.G_on (o := { dst := some 99, op := Op.binOp BinOp.add 3 (Operand.tmp 96) (Operand.tmp 98) 3, type := 3, pos := "law.go:109", after := #[{ on := 15, ground := Ground.data }, { on := 17, ground := Ground.data }, { on := 14, ground := Ground.guard }], guard := some (14, false) }) (v := ?_) (by rfl) ?_ (fun wS hSw => ?_) ?_
              rotate_left
              · kernel_rfl
              · (try dsimp only at hSw); go_simp; (try with_reducible rfl)
              try simp only [Act.put, List.setIfInBounds_toArray, List.set_cons_zero, List.set_cons_succ]
              refine Reg.G_on (o := { dst := some 100, op := Op.convert 3 27 (Operand.tmp 99), type := 27, pos := "law.go:109", after := #[{ on := 18, ground := Ground.data }, { on := 14, ground := Ground.guard }], guard := some (14, false) }) (v := ?_) (by rfl) ?_ (fun wS hSw => ?_) ?_
              rotate_left
              · kernel_rfl
              · (try dsimp only at hSw); go_simp; (try with_reducible rfl)
              try simp only [Act.put, List.setIfInBounds_toArray, List.set_cons_zero, List.set_cons_succ]
              refine Reg.G_step (o := { dst := some 102, op := Op.call { callee := Callee.value (Operand.func 39), args := #[Operand.tmp 101], argTypes := #[59] }, type := 27, pos := "law.go:109", after := #[{ on := 20, ground := Ground.data }, { on := 17, ground := Ground.chain }, { on := 14, ground := Ground.guard }], guard := some (14, false) }) (by rfl) ?_ (fun K hK => ?_)
              · kernel_rfl
              go_simp
              refine (lost _ _ _ _ _ _ _ _ _ hHeld.1).mono ?_
              rintro e w' ⟨rfl, rfl⟩
              refine hK.out _ _ ?_ (fun hHeld => ?_)
              · exact hHeld
              clear hK K
              try simp only [Act.put, List.setIfInBounds_toArray, List.set_cons_zero, List.set_cons_succ]
              refine Reg.G_on (o := { dst := some 103, op := Op.binOp BinOp.add 27 (Operand.tmp 100) (Operand.tmp 102) 27, type := 27, pos := "law.go:109", after := #[{ on := 19, ground := Ground.data }, { on := 21, ground := Ground.data }, { on := 14, ground := Ground.guard }], guard := some (14, false) }) (v := ?_) (by rfl) ?_ (fun wS hSw => ?_) ?_
              rotate_left
              · kernel_rfl
              · (try dsimp only at hSw); go_simp; (try with_reducible rfl)
              try simp only [Act.put, List.setIfInBounds_toArray, List.set_cons_zero, List.set_cons_succ]
              refine Reg.G_on (o := { dst := some 107, op := Op.binOp BinOp.neq 27 (Operand.tmp 103) (Operand.tmp 106) 27, type := 4, pos := "law.go:109", after := #[{ on := 22, ground := Ground.data }, { on := 25, ground := Ground.data }, { on := 14, ground := Ground.guard }], guard := some (14, false) }) (v := ?_) (by rfl) ?_ (fun wS hSw => ?_) ?_
              rotate_left
              · kernel_rfl
              · (try dsimp only at hSw); go_simp; (try with_reducible rfl)
              try simp only [Act.put, List.setIfInBounds_toArray, List.set_cons_zero, List.set_cons_succ]
              refine Reg.G_on (o := { dst := some 108, op := Op.pick (Operand.tmp 95) (Operand.const (Value.bool true)) (Operand.tmp 107), type := 4, pos := "law.go:109", after := #[{ on := 14, ground := Ground.data }, { on := 26, ground := Ground.data }], guard := Option.none }) (v := ?_) (by rfl) ?_ (fun wS hSw => ?_) ?_
              rotate_left
              · kernel_rfl
              · (try dsimp only at hSw); go_simp; (try with_reducible rfl)
              try simp only [Act.put, List.setIfInBounds_toArray, List.set_cons_zero, List.set_cons_succ]
              refine Reg.G_done ?_
              go_wp2
              go_roundw
              case rel => exact ⟨k + 1, tl, all, _, s, x, (got + 1), F, G, by omega, by go_num, rfl, Q5.drew, ho5.same flat_string (fun _ _ => rfl), N5, O5, dis, lG5, fF, fG, b5.drew⟩
              case measure => simp [intOf]; omega
          · have h2b : (yk == 2) = false := by simpa using h2
            go_wp2_with fail
            refine (frame F pb _ _ _ ms s x _ hp).mono ?_
            rintro e wa ⟨rfl, Q5, mA⟩
            have b5 := mA.below hb hsz fF
            have O5 := O1.out.frame hq0
            have N5 := N1.frame (by omega)
            have ho5 := ho.same flat_string (fun k hk => mA.block k (lG k hk) (fun hf => dis k hf hk))
            have lG5 : ∀ k, G k → k < wa.heap.size := fun k hk => Nat.lt_of_lt_of_le (lG k hk) mA.size
            clear mA hp ho hb
            have hct := Lib.hid O5.count
            have hsq : 0 ≤ mx q := O5.2.2.2.1
            have hal5 : (all).length ≤ k + 1 := O5.2.2.2.2
            have hg0 : 0 ≤ got := O5.2.2.1
            have hx0 := N5.x0
            have hld := N5.ld
            have hu : IntKind.u64.wrap (got + ((ms).length : Int)) = got + ((ms).length : Int) := wrapu64 (by omega) (by have := hct.out; omega)
            have hu0 : IntKind.i64.wrap (got + ((ms).length : Int)) = got + ((ms).length : Int) := wrapi64 (by omega) (by have := hct.out; omega)
            have hu2 : IntKind.u64.wrap (got + ((ms).length : Int) + x) = ((all).length : Int) := by rw [wrapu64 (by omega) (by have := hct.out; omega)]; exact hct.out.symm
            have hu3 : IntKind.u64.wrap ((all).length : Int) = ((all).length : Int) := wrapu64 (by omega) (by omega)
            have e1 := cbel b5 a1 (Nat.lt_of_succ_le s0)
            have e2 := cbel b5 a2 (Nat.lt_of_succ_le s0)
            have hd5 : decide ((if d < 0 then 0 else d) < ((ms).length : Int)) = false := decide_eq_false (by show ¬ (mx d < _); omega)
            have hq5 : decide ((if q < 0 then 0 else q) < 0) = false := decide_eq_false (by show ¬ (mx q < _); omega)
            clear hld hsq hct
            go_wp2_with fail
            refine Reg.wp_plan (S := fun w' => QP w' F pb (mx z) (mx d) (mx q) ms 0 x ∧ w'.cell? ⟨w.heap.size, 1, none⟩ = some (.int .i64 d) ∧ w'.cell? ⟨w.heap.size, 2, none⟩ = some (.int .i64 q)) 28 (.fl 0 (.fl 2 (.fl 3 (.fl 4 (.one 1 (.fl 5 (.fl 6 (.fl 7 (.fl 9 (.fl 10 (.fl 11 (.one 8 (.fl 12 (.fl 13 (.fl 14 (.fl 15 (.fl 16 (.fl 20 (.fl 23 (.fl 24 (.fl 25 (.one 17 (.fl 18 (.fl 19 (.one 21 (.fl 22 (.fl 26 (.fl 27 .done)))))))))))))))))))))))))))) (by kernel_rfl) (by kernel_rfl) (by kernel_rfl) (by kernel_rfl) (fun _ _ _ d _ h => by cases d <;> exact h) ?_ (fun hHeld => ?_)
            · exact ⟨Q5.drew, by simpa using e1, by simpa using e2⟩
            refine Reg.G_on (o := { dst := some 81, op := Op.move (Operand.tmp 5), type := 59, pos := "law.go:109", after := #[], guard := Option.none }) (v := ?_) (by rfl) ?_ (fun wS hSw => ?_) ?_
            rotate_left
            · kernel_rfl
            · (try dsimp only at hSw); go_simp; (try with_reducible rfl)
            try simp only [Act.put, List.setIfInBounds_toArray, List.set_cons_zero, List.set_cons_succ]
            refine Reg.G_on (o := { dst := some 83, op := Op.indexAddr 56 (Operand.tmp 2) (Operand.const (Value.int IntKind.i64 1)), type := 0, pos := "law.go:109", after := #[], guard := Option.none }) (v := ?_) (by rfl) ?_ (fun wS hSw => ?_) ?_
            rotate_left
            · kernel_rfl
            · (try dsimp only at hSw); go_simp; (try with_reducible rfl)
            try simp only [Act.put, List.setIfInBounds_toArray, List.set_cons_zero, List.set_cons_succ]
            refine Reg.G_on (o := { dst := some 84, op := Op.load 3 (Operand.tmp 83), type := 3, pos := "law.go:109", after := #[{ on := 2, ground := Ground.data }], guard := Option.none }) (v := ?_) (by rfl) ?_ (fun wS hSw => ?_) ?_
            rotate_left
            · kernel_rfl
            · (try dsimp only at hSw); go_simp; (try with_reducible rfl)
            try simp only [Act.put, List.setIfInBounds_toArray, List.set_cons_zero, List.set_cons_succ]
            refine Reg.G_on (o := { dst := some 85, op := Op.call { callee := Callee.builtin Builtin.max, args := #[Operand.tmp 84, Operand.const (Value.int IntKind.i64 0)], argTypes := #[3, 3] }, type := 3, pos := "law.go:109", after := #[{ on := 3, ground := Ground.data }], guard := Option.none }) (v := ?_) (by rfl) ?_ (fun wS hSw => ?_) ?_
            rotate_left
            · kernel_rfl
            · (try dsimp only at hSw); go_simp; (try with_reducible rfl)
            try simp only [Act.put, List.setIfInBounds_toArray, List.set_cons_zero, List.set_cons_succ]
            refine Reg.G_step (o := { dst := some 82, op := Op.call { callee := Callee.value (Operand.func 38), args := #[Operand.tmp 81], argTypes := #[59] }, type := 3, pos := "law.go:109", after := #[{ on := 0, ground := Ground.data }], guard := Option.none }) (by rfl) ?_ (fun K hK => ?_)
            · kernel_rfl
            go_simp
            refine (waits _ _ _ _ _ _ _ _ _ hHeld.1).mono ?_
            rintro e w' ⟨rfl, rfl⟩
            refine hK.out _ _ ?_ (fun hHeld => ?_)
            · exact hHeld
            clear hK K
            try simp only [Act.put, List.setIfInBounds_toArray, List.set_cons_zero, List.set_cons_succ]
            refine Reg.G_on (o := { dst := some 86, op := Op.binOp BinOp.gtr 3 (Operand.tmp 82) (Operand.tmp 85) 3, type := 4, pos := "law.go:109", after := #[{ on := 1, ground := Ground.data }, { on := 4, ground := Ground.data }], guard := Option.none }) (v := ?_) (by rfl) ?_ (fun wS hSw => ?_) ?_
            rotate_left
            · kernel_rfl
            · (try dsimp only at hSw); go_simp; (try with_reducible rfl)
            try simp only [Act.put, List.setIfInBounds_toArray, List.set_cons_zero, List.set_cons_succ]
            refine Reg.G_on (o := { dst := some 87, op := Op.move (Operand.tmp 86), type := 4, pos := "law.go:109", after := #[{ on := 5, ground := Ground.data }, { on := 1, ground := Ground.chain }], guard := Option.none }) (v := ?_) (by rfl) ?_ (fun wS hSw => ?_) ?_
            rotate_left
            · kernel_rfl
            · (try dsimp only at hSw); go_simp; (try with_reducible rfl)
            try simp only [Act.put, List.setIfInBounds_toArray, List.set_cons_zero, List.set_cons_succ]
            refine Reg.G_on (o := { dst := some 88, op := Op.move (Operand.tmp 5), type := 59, pos := "law.go:109", after := #[{ on := 6, ground := Ground.guard }], guard := some (6, false) }) (v := ?_) (by rfl) ?_ (fun wS hSw => ?_) ?_
            rotate_left
            · kernel_rfl
            · (try dsimp only at hSw); go_simp; (try with_reducible rfl)
            try simp only [Act.put, List.setIfInBounds_toArray, List.set_cons_zero, List.set_cons_succ]
            refine Reg.G_on (o := { dst := some 90, op := Op.indexAddr 56 (Operand.tmp 2) (Operand.const (Value.int IntKind.i64 2)), type := 0, pos := "law.go:109", after := #[{ on := 6, ground := Ground.guard }], guard := some (6, false) }) (v := ?_) (by rfl) ?_ (fun wS hSw => ?_) ?_
            rotate_left
            · kernel_rfl
            · (try dsimp only at hSw); go_simp; (try with_reducible rfl)
            try simp only [Act.put, List.setIfInBounds_toArray, List.set_cons_zero, List.set_cons_succ]
            refine Reg.G_on (o := { dst := some 91, op := Op.load 3 (Operand.tmp 90), type := 3, pos := "law.go:109", after := #[{ on := 9, ground := Ground.data }, { on := 6, ground := Ground.guard }], guard := some (6, false) }) (v := ?_) (by rfl) ?_ (fun wS hSw => ?_) ?_
            rotate_left
            · kernel_rfl
            · (try dsimp only at hSw); go_simp; (try with_reducible rfl)
            try simp only [Act.put, List.setIfInBounds_toArray, List.set_cons_zero, List.set_cons_succ]
            refine Reg.G_on (o := { dst := some 92, op := Op.call { callee := Callee.builtin Builtin.max, args := #[Operand.tmp 91, Operand.const (Value.int IntKind.i64 0)], argTypes := #[3, 3] }, type := 3, pos := "law.go:109", after := #[{ on := 10, ground := Ground.data }, { on := 6, ground := Ground.guard }], guard := some (6, false) }) (v := ?_) (by rfl) ?_ (fun wS hSw => ?_) ?_
            rotate_left
            · kernel_rfl
            · (try dsimp only at hSw); go_simp; (try with_reducible rfl)
            try simp only [Act.put, List.setIfInBounds_toArray, List.set_cons_zero, List.set_cons_succ]
            refine Reg.G_step (o := { dst := some 89, op := Op.call { callee := Callee.value (Operand.func 33), args := #[Operand.tmp 88], argTypes := #[59] }, type := 3, pos := "law.go:109", after := #[{ on := 7, ground := Ground.data }, { on := 6, ground := Ground.chain }, { on := 6, ground := Ground.guard }], guard := some (6, false) }) (by rfl) ?_ (fun K hK => ?_)
            · kernel_rfl
            go_simp
            refine (sent _ _ _ _ _ _ _ _ _ hHeld.1).mono ?_
            rintro e w' ⟨rfl, rfl⟩
            refine hK.out _ _ ?_ (fun hHeld => ?_)
            · exact hHeld
            clear hK K
            try simp only [Act.put, List.setIfInBounds_toArray, List.set_cons_zero, List.set_cons_succ]
            refine Reg.G_on (o := { dst := some 93, op := Op.binOp BinOp.gtr 3 (Operand.tmp 89) (Operand.tmp 92) 3, type := 4, pos := "law.go:109", after := #[{ on := 8, ground := Ground.data }, { on := 11, ground := Ground.data }, { on := 6, ground := Ground.guard }], guard := some (6, false) }) (v := ?_) (by rfl) ?_ (fun wS hSw => ?_) ?_
            rotate_left
            · kernel_rfl
            · (try dsimp only at hSw); go_simp; (try with_reducible rfl)
            try simp only [Act.put, List.setIfInBounds_toArray, List.set_cons_zero, List.set_cons_succ]
            refine Reg.G_on (o := { dst := some 94, op := Op.pick (Operand.tmp 87) (Operand.const (Value.bool true)) (Operand.tmp 93), type := 4, pos := "law.go:109", after := #[{ on := 6, ground := Ground.data }, { on := 12, ground := Ground.data }], guard := Option.none }) (v := ?_) (by rfl) ?_ (fun wS hSw => ?_) ?_
            rotate_left
            · kernel_rfl
            · (try dsimp only at hSw); go_simp; (try with_reducible rfl)
            try simp only [Act.put, List.setIfInBounds_toArray, List.set_cons_zero, List.set_cons_succ]
            refine Reg.G_on (o := { dst := some 95, op := Op.move (Operand.tmp 94), type := 4, pos := "law.go:109", after := #[{ on := 13, ground := Ground.data }, { on := 8, ground := Ground.chain }], guard := Option.none }) (v := ?_) (by rfl) ?_ (fun wS hSw => ?_) ?_
            rotate_left
            · kernel_rfl
            · (try dsimp only at hSw); go_simp; (try with_reducible rfl)
            try simp only [Act.put, List.setIfInBounds_toArray, List.set_cons_zero, List.set_cons_succ]
            refine Reg.G_on (o := { dst := some 96, op := Op.move (Operand.tmp 8), type := 3, pos := "law.go:109", after := #[{ on := 14, ground := Ground.guard }], guard := some (14, false) }) (v := ?_) (by rfl) ?_ (fun wS hSw => ?_) ?_
            rotate_left
            · kernel_rfl
            · (try dsimp only at hSw); go_simp; (try with_reducible rfl)
            try simp only [Act.put, List.setIfInBounds_toArray, List.set_cons_zero, List.set_cons_succ]
            refine Reg.G_on (o := { dst := some 97, op := Op.move (Operand.tmp 5), type := 59, pos := "law.go:109", after := #[{ on := 14, ground := Ground.guard }], guard := some (14, false) }) (v := ?_) (by rfl) ?_ (fun wS hSw => ?_) ?_
            rotate_left
            · kernel_rfl
            · (try dsimp only at hSw); go_simp; (try with_reducible rfl)
            try simp only [Act.put, List.setIfInBounds_toArray, List.set_cons_zero, List.set_cons_succ]
            refine Reg.G_on (o := { dst := some 101, op := Op.move (Operand.tmp 5), type := 59, pos := "law.go:109", after := #[{ on := 14, ground := Ground.guard }], guard := some (14, false) }) (v := ?_) (by rfl) ?_ (fun wS hSw => ?_) ?_
            rotate_left
            · kernel_rfl
            · (try dsimp only at hSw); go_simp; (try with_reducible rfl)
            try simp only [Act.put, List.setIfInBounds_toArray, List.set_cons_zero, List.set_cons_succ]
            refine Reg.G_on (o := { dst := some 104, op := Op.move (Operand.tmp 6), type := 67, pos := "law.go:109", after := #[{ on := 14, ground := Ground.guard }], guard := some (14, false) }) (v := ?_) (by rfl) ?_ (fun wS hSw => ?_) ?_
            rotate_left
            · kernel_rfl
            · (try dsimp only at hSw); go_simp; (try with_reducible rfl)
            try simp only [Act.put, List.setIfInBounds_toArray, List.set_cons_zero, List.set_cons_succ]
            refine Reg.G_on (o := { dst := some 105, op := Op.call { callee := Callee.builtin Builtin.len, args := #[Operand.tmp 104], argTypes := #[67] }, type := 3, pos := "law.go:109", after := #[{ on := 23, ground := Ground.data }, { on := 14, ground := Ground.guard }], guard := some (14, false) }) (v := ?_) (by rfl) ?_ (fun wS hSw => ?_) ?_
            rotate_left
            · kernel_rfl
            · (try dsimp only at hSw); go_simp; (try with_reducible rfl)
            try simp only [Act.put, List.setIfInBounds_toArray, List.set_cons_zero, List.set_cons_succ]
            refine Reg.G_on (o := { dst := some 106, op := Op.convert 3 27 (Operand.tmp 105), type := 27, pos := "law.go:109", after := #[{ on := 24, ground := Ground.data }, { on := 14, ground := Ground.guard }], guard := some (14, false) }) (v := ?_) (by rfl) ?_ (fun wS hSw => ?_) ?_
            rotate_left
            · kernel_rfl
            · (try dsimp only at hSw); go_simp; (try with_reducible rfl)
            try simp only [Act.put, List.setIfInBounds_toArray, List.set_cons_zero, List.set_cons_succ]
            refine Reg.G_step (o := { dst := some 98, op := Op.call { callee := Callee.value (Operand.func 38), args := #[Operand.tmp 97], argTypes := #[59] }, type := 3, pos := "law.go:109", after := #[{ on := 16, ground := Ground.data }, { on := 14, ground := Ground.chain }, { on := 14, ground := Ground.guard }], guard := some (14, false) }) (by rfl) ?_ (fun K hK => ?_)
            · kernel_rfl
            go_simp
            refine (waits _ _ _ _ _ _ _ _ _ hHeld.1).mono ?_
            rintro e w' ⟨rfl, rfl⟩
            refine hK.out _ _ ?_ (fun hHeld => ?_)
            · exact hHeld
            clear hK K
            try simp only [Act.put, List.setIfInBounds_toArray, List.set_cons_zero, List.set_cons_succ]
            refine Reg.G_on (o := { dst := some 99, op := Op.binOp BinOp.add 3 (Operand.tmp 96) (Operand.tmp 98) 3, type := 3, pos := "law.go:109", after := #[{ on := 15, ground := Ground.data }, { on := 17, ground := Ground.data }, { on := 14, ground := Ground.guard }], guard := some (14, false) }) (v := ?_) (by rfl) ?_ (fun wS hSw => ?_) ?_
            rotate_left
            · kernel_rfl
            · (try dsimp only at hSw); go_simp; (try with_reducible rfl)
            try simp only [Act.put, List.setIfInBounds_toArray, List.set_cons_zero, List.set_cons_succ]
            refine Reg.G_on (o := { dst := some 100, op := Op.convert 3 27 (Operand.tmp 99), type := 27, pos := "law.go:109", after := #[{ on := 18, ground := Ground.data }, { on := 14, ground := Ground.guard }], guard := some (14, false) }) (v := ?_) (by rfl) ?_ (fun wS hSw => ?_) ?_
            rotate_left
            · kernel_rfl
            · (try dsimp only at hSw); go_simp; (try with_reducible rfl)
            try simp only [Act.put, List.setIfInBounds_toArray, List.set_cons_zero, List.set_cons_succ]
            refine Reg.G_step (o := { dst := some 102, op := Op.call { callee := Callee.value (Operand.func 39), args := #[Operand.tmp 101], argTypes := #[59] }, type := 27, pos := "law.go:109", after := #[{ on := 20, ground := Ground.data }, { on := 17, ground := Ground.chain }, { on := 14, ground := Ground.guard }], guard := some (14, false) }) (by rfl) ?_ (fun K hK => ?_)
            · kernel_rfl
            go_simp
            refine (lost _ _ _ _ _ _ _ _ _ hHeld.1).mono ?_
            rintro e w' ⟨rfl, rfl⟩
            refine hK.out _ _ ?_ (fun hHeld => ?_)
            · exact hHeld
            clear hK K
            try simp only [Act.put, List.setIfInBounds_toArray, List.set_cons_zero, List.set_cons_succ]
            refine Reg.G_on (o := { dst := some 103, op := Op.binOp BinOp.add 27 (Operand.tmp 100) (Operand.tmp 102) 27, type := 27, pos := "law.go:109", after := #[{ on := 19, ground := Ground.data }, { on := 21, ground := Ground.data }, { on := 14, ground := Ground.guard }], guard := some (14, false) }) (v := ?_) (by rfl) ?_ (fun wS hSw => ?_) ?_
            rotate_left
            · kernel_rfl
            · (try dsimp only at hSw); go_simp; (try with_reducible rfl)
            try simp only [Act.put, List.setIfInBounds_toArray, List.set_cons_zero, List.set_cons_succ]
            refine Reg.G_on (o := { dst := some 107, op := Op.binOp BinOp.neq 27 (Operand.tmp 103) (Operand.tmp 106) 27, type := 4, pos := "law.go:109", after := #[{ on := 22, ground := Ground.data }, { on := 25, ground := Ground.data }, { on := 14, ground := Ground.guard }], guard := some (14, false) }) (v := ?_) (by rfl) ?_ (fun wS hSw => ?_) ?_
            rotate_left
            · kernel_rfl
            · (try dsimp only at hSw); go_simp; (try with_reducible rfl)
            try simp only [Act.put, List.setIfInBounds_toArray, List.set_cons_zero, List.set_cons_succ]
            refine Reg.G_on (o := { dst := some 108, op := Op.pick (Operand.tmp 95) (Operand.const (Value.bool true)) (Operand.tmp 107), type := 4, pos := "law.go:109", after := #[{ on := 14, ground := Ground.data }, { on := 26, ground := Ground.data }], guard := Option.none }) (v := ?_) (by rfl) ?_ (fun wS hSw => ?_) ?_
            rotate_left
            · kernel_rfl
            · (try dsimp only at hSw); go_simp; (try with_reducible rfl)
            try simp only [Act.put, List.setIfInBounds_toArray, List.set_cons_zero, List.set_cons_succ]
            refine Reg.G_done ?_
            go_wp2
            go_roundw
            case rel => exact ⟨k + 1, ms, all, _, 0, x, got, F, G, by omega, by go_num, rfl, Q5.drew, ho5.same flat_string (fun _ _ => rfl), N5, O5, dis, lG5, fF, fG, b5.drew⟩
            case measure => simp [intOf]; omega
      · go_wp2_with fail
        refine (awake _).mono ?_
        rintro e w' ⟨rfl, hb2⟩
        go_wp2
        go_ret
        exact ⟨rfl, hbw.trans (hb2.mono hbw.size)⟩
end Go.Proofs.Ytkijeknopnjamaa.Queuing
