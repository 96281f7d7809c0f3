import Derived.Test.YtimalojaiaofkaaSqRingSteps9
set_option linter.unusedVariables false
set_option linter.unusedSimpArgs false
namespace Go.Proofs.Ytimalojaiaofkaa.Rng
open Go.RowKit Base Sp Flat Go.Proofs.YtimalojaiaofkaaW.PrintWords Go.Shelf Smp His
section
variable {o : Oper} {a : Act} {W : World} {K : Act → World → Prop} {Q : Exit → Act → World → Prop}
/-- An empty slice literal. -/
theorem build0 (ho : o.op = .buildSlice 56 0 #[])
    (h : K (a.put o.dst (.slice (some ⟨W.heap.size, 0, none⟩) 0 0)) (W.alloc (.cells #[] 60))) : o.wp Try.prog a W K Q := by
  obtain ⟨i0, hi, hzz⟩ := Option.map_eq_some_iff.1 info
  simp only [Prod.mk.injEq] at hzz
  obtain ⟨hz0, hz1, hz2⟩ := hzz
  unfold Oper.wp execOp
  simp only [ho, Sem.run_bind]
  simp [Instr.buildSlice, run_underlying Try.underlying56, sizeOf, typeInfo, hi, hz0, hz1, Result.andThen, Instr.fill, go_sem]
  exact h
end
/-- append(xs, ys...). -/
theorem app_all {W : World} {F G : Nat → Prop} {v u : Value} {xs ys : List Smp} (h : Own ks 60 W F v xs) (hF : ∀ k, F k → k < W.heap.size) (hy : Rd ks W G u ys) (hl : (xs.length + ys.length) * 80 ≤ 140737488355328) :
    ∃ v1 w1, (Builtin.append_ #[56, 56] 56 #[v, u]).run Try.prog W = .ok v1 w1 ∧ Own ks 60 w1 (fun k => F k ∨ (W.heap.size ≤ k ∧ k < w1.heap.size)) v1 (xs ++ ys) ∧ W.grownBy w1 v.ownBlock := by
  obtain ⟨A, c, rfl, hc, hC, hA⟩ := hy
  by_cases h0 : 0 < ys.length
  · obtain ⟨B, rfl, _⟩ := hC.2.2 h0
    exact h.appends (P := Try.prog) flat_ks 56 56 (.agg (cells zsmp).toArray) 80 Try.underlying56 info (by show (cells zsmp).toArray.size = 23; rw [List.size_toArray, cells_len]) (by decide) (by decide) ys B c hC h0 hF hl
  · obtain rfl : ys = [] := List.eq_nil_of_length_eq_zero (by omega)
    obtain ⟨i0, hi, hzz⟩ := Option.map_eq_some_iff.1 info
    simp only [Prod.mk.injEq] at hzz
    have hsz : (sizeOf 60).run Try.prog W = .ok 23 W := by simp [sizeOf, typeInfo, hi, hzz.2.1]
    obtain ⟨A', c', rfl, hcc, _, _⟩ := h.rd
    have hnc : ¬ c' < xs.length := Nat.not_lt.2 hcc
    refine ⟨.slice A' xs.length c', W, ?_, by rw [List.append_nil]; exact h.mono (fun k hk => .inl hk), ⟨rfl, rfl, rfl, Nat.le_refl _, fun _ _ _ => rfl⟩⟩
    cases A <;> cases A' <;> simp [Builtin.append_, run_underlying Try.underlying56, hsz, hnc, Result.andThen, Builtin.lenOf, Builtin.firstCells, storeCells, go_sem]
/-- append([]T{}, ys...). -/
theorem app_new {W : World} {F : Nat → Prop} {A : Option Addr} {c : Nat} {ys : List Smp} (hy : Rd ks W F (.slice A ys.length c) ys) (hl : ys.length * 80 ≤ 140737488355328) :
    ∃ v1 w1, (Builtin.append_ #[56, 56] 56 #[.slice (some ⟨W.heap.size, 0, none⟩) 0 0, .slice A ys.length c]).run Try.prog (W.alloc (.cells #[] 60)) = .ok v1 w1 ∧
      Own ks 60 w1 (fun k => W.heap.size ≤ k ∧ k < w1.heap.size) v1 ys ∧ Below W.heap.size W w1 := by
  have b0 : Below W.heap.size W (W.alloc (.cells #[] 60)) := (Below.refl _ _).alloc (Nat.le_refl _) _
  obtain ⟨v1, w1, hr, ho, hg⟩ := Own.copied (P := Try.prog) flat_ks 56 56 (.agg (cells zsmp).toArray) 80 Try.underlying56 (by kernel_rfl) info (by show (cells zsmp).toArray.size = 23; rw [List.size_toArray, cells_len]) (by decide) (by decide) (heap_alloc_new W (.cells #[] 60)) ys A c (rd_below hy b0) hl
  have hs : W.heap.size + 1 ≤ w1.heap.size := by have := hg.size; simpa using this
  refine ⟨v1, w1, hr, ho.mono (fun k hk => hk.elim (fun e => ⟨Nat.le_of_eq e.symm, by omega⟩) (fun hh => ⟨Nat.le_trans (by simp) hh.1, hh.2⟩)), b0.grown hg (by simp) (fun k hk => by injection hk with hk; omega)⟩
section
variable {op : Oper} {a : Act} {w : World}
/-- xs[:k]. -/
theorem slice_hi {x y : Operand} (ho : op.op = .slice 56 x none (some y) none) {A : Option Addr} {n c k : Nat} (hx : a.eval x = .slice A n c) (hy : a.eval y = .int .i64 (k : Int)) (hk : k ≤ c) :
    (execOp a.eval op).run Try.prog w = .ok (.value (.slice A k c)) w := by
  obtain ⟨i0, hi, hzz⟩ := Option.map_eq_some_iff.1 info
  simp only [Prod.mk.injEq] at hzz
  have hki : (k : Int) ≤ (c : Int) := by omega
  have hsz : ∀ w, (sizeOf 60).run Try.prog w = .ok 23 w := fun w => by simp [sizeOf, typeInfo, hi, hzz.2.1]
  unfold execOp
  simp only [ho, hx, hy, Option.map_some, Option.map_none]
  simp [Instr.slice, run_underlying Try.underlying56, hsz, hki, Result.andThen, go_sem]
/-- xs[k:]. -/
theorem slice_lo {x y : Operand} (ho : op.op = .slice 56 x (some y) none none) {A : Option Addr} {n c k : Nat} (hx : a.eval x = .slice A n c) (hy : a.eval y = .int .i64 (k : Int)) (hk : k ≤ n) (hc : n ≤ c) :
    (execOp a.eval op).run Try.prog w = .ok (.value (.slice (if c = k then A else A.map (·.add (k * 23))) (n - k) (c - k))) w := by
  obtain ⟨i0, hi, hzz⟩ := Option.map_eq_some_iff.1 info
  simp only [Prod.mk.injEq] at hzz
  have hki : (k : Int) ≤ (n : Int) := by omega
  have hni : (n : Int) ≤ (c : Int) := by omega
  have hsz : ∀ w, (sizeOf 60).run Try.prog w = .ok 23 w := fun w => by simp [sizeOf, typeInfo, hi, hzz.2.1]
  unfold execOp
  simp only [ho, hx, hy, Option.map_some, Option.map_none]
  simp [Instr.slice, run_underlying Try.underlying56, hsz, hki, hni, Result.andThen, go_sem]
end
set_option maxRecDepth 20000 in
set_option maxHeartbeats 1000000 in
theorem rwithout {w : World} {F : Nat → Prop} {v : Value} {xs : List Smp} (h : Rd ks w F v xs) (i : Nat) (hi : i < xs.length) (hl : xs.length * 80 ≤ 140737488355328) :
    Calls Try.prog 83 #[v, .int .i64 (i : Int)] w fun e w' => ∃ v', e = .returned v' ∧ Own ks 60 w' (fun k => w.heap.size ≤ k ∧ k < w'.heap.size) v' (xs.take i ++ xs.drop (i + 1)) ∧ Below w.heap.size w w' := by
  obtain ⟨A, c, rfl, hc, hC9, hA9⟩ := h
  have h : Rd ks w F (.slice A xs.length c) xs := ⟨A, c, rfl, hc, hC9, hA9⟩
  have hd := rd_below h (w' := w.drew) (below_drew (Below.refl _ _))
  have hti : (xs.take i).length = i := by rw [List.length_take]; omega
  have h1 : Rd ks w.drew F (.slice A (xs.take i).length c) (xs.take i) := by rw [hti]; exact hd.take (Nat.le_of_lt hi)
  obtain ⟨v1, w1, hr1, ho1, b1⟩ := app_new h1 (by rw [hti]; omega)
  rw [hti] at hr1
  have h2 := rd_below (hd.drop (k := i + 1) hi) b1
  have hbd : Below w.heap.size w w1 := bstep (below_drew (Below.refl w.heap.size w)) b1
  have e23 : ks.sz = 23 := rfl
  rw [e23] at h2
  have hdl : (xs.drop (i + 1)).length = xs.length - (i + 1) := List.length_drop ..
  obtain ⟨v2, w2, hr2, ho2, g2⟩ := app_all ho1 (fun k hk => hk.2) h2 (by rw [hti, hdl]; omega)
  have HY : Hid (Own ks 60 w2 (fun k => w.heap.size ≤ k ∧ k < w2.heap.size) v2 (xs.take i ++ xs.drop (i + 1)) ∧ Below w.heap.size w w2) := Lib.hid ⟨ho2.mono (fun k hk => hk.elim (fun hh => ⟨hh.1, Nat.lt_of_lt_of_le hh.2 g2.size⟩) (fun hh => ⟨Nat.le_trans hbd.size hh.1, hh.2⟩)), hbd.grown g2 hbd.size (fun k hk => (ho1.base k hk).1)⟩
  have hwi : IntKind.i64.wrap ((i : Int) + 1) = ((i + 1 : Nat) : Int) := wrapi64 (by omega) (by omega)
  have hic : i ≤ c := by omega
  have hmx : (i : Int) < 9223372036854775807 := by omega
  have k0 : (0 : Int) ≤ (i : Int) := by omega
  have k1 : (i : Int) ≤ (c : Int) := by omega
  have k2 : ((i + 1 : Nat) : Int) ≤ (xs.length : Int) := by omega
  have k3 : (xs.length : Int) ≤ (c : Int) := by omega
  clear h hd h1 ho1 h2 hbd ho2 g2 e23 hdl hti b1 hC9 hA9
  obtain ⟨S2, hS2⟩ : ∃ S2, S2 = (if c = i + 1 then A else A.map (·.add ((i + 1) * 23))) := ⟨_, rfl⟩
  rw [← hS2] at hr2
  have HS2 := Lib.hid hS2.symm
  have HI := Lib.hid (And.intro hi hc)
  have HWI := Lib.hid hwi
  clear hS2 hl hwi hi hc hic hmx k0 k1 k2 k3
  go_enter Try.func83, Try.ntmps83
  go_wp2_with fail
  refine Reg.wp_plan (S := fun _ => True) 11 (.fl 1 (.fl 2 (.fl 3 (.fl 5 (.fl 6 (.fl 7 (.fl 8 (.one 0 (.one 4 (.one 9 (.fl 10 .done))))))))))) (by kernel_rfl) (by kernel_rfl) (by kernel_rfl) (by kernel_rfl) (fun _ _ _ d _ h => by cases d <;> exact h) ?_ (fun hHeld => ?_)
  · exact trivial
  refine Reg.G_on (o := { dst := some 6, op := Op.move (Operand.tmp 0), type := 56, pos := "ref.go:29", after := #[], guard := Option.none }) (v := ?_) (by rfl) ?_ (fun wS hSw => ?_) ?_
  rotate_left
  · kernel_rfl
  · (try dsimp only at hSw); go_simp; (try with_reducible rfl)
  try simp only [Act.put, List.setIfInBounds_toArray, List.set_cons_zero, List.set_cons_succ]
  refine Reg.G_on (o := { dst := some 7, op := Op.move (Operand.tmp 1), type := 3, pos := "ref.go:29", after := #[], guard := Option.none }) (v := ?_) (by rfl) ?_ (fun wS hSw => ?_) ?_
  rotate_left
  · kernel_rfl
  · (try dsimp only at hSw); go_simp; (try with_reducible rfl)
  try simp only [Act.put, List.setIfInBounds_toArray, List.set_cons_zero, List.set_cons_succ]
  refine Reg.G_on (o := { dst := some 8, op := Op.slice 56 (Operand.tmp 6) Option.none (some (Operand.tmp 7)) Option.none, type := 56, pos := "ref.go:29", after := #[{ on := 1, ground := Ground.data }, { on := 2, ground := Ground.data }], guard := Option.none }) (v := .slice A i c) (by rfl) ?_ (fun wS hSw => ?_) ?_
  · kernel_rfl
  · exact slice_hi rfl rfl rfl (Nat.le_trans (Nat.le_of_lt HI.out.1) HI.out.2)
  try simp only [Act.put, List.setIfInBounds_toArray, List.set_cons_zero, List.set_cons_succ]
  refine Reg.G_on (o := { dst := some 10, op := Op.move (Operand.tmp 0), type := 56, pos := "ref.go:29", after := #[], guard := Option.none }) (v := ?_) (by rfl) ?_ (fun wS hSw => ?_) ?_
  rotate_left
  · kernel_rfl
  · (try dsimp only at hSw); go_simp; (try with_reducible rfl)
  try simp only [Act.put, List.setIfInBounds_toArray, List.set_cons_zero, List.set_cons_succ]
  refine Reg.G_on (o := { dst := some 11, op := Op.move (Operand.tmp 1), type := 3, pos := "ref.go:29", after := #[], guard := Option.none }) (v := ?_) (by rfl) ?_ (fun wS hSw => ?_) ?_
  rotate_left
  · kernel_rfl
  · (try dsimp only at hSw); go_simp; (try with_reducible rfl)
  try simp only [Act.put, List.setIfInBounds_toArray, List.set_cons_zero, List.set_cons_succ]
  refine Reg.G_on (o := { dst := some 12, op := Op.binOp BinOp.add 3 (Operand.tmp 11) (Operand.const (Value.int IntKind.i64 1)) 3, type := 3, pos := "ref.go:29", after := #[{ on := 6, ground := Ground.data }], guard := Option.none }) (v := .int .i64 ((i + 1 : Nat) : Int)) (by rfl) ?_ (fun wS hSw => ?_) ?_
  · kernel_rfl
  · (go_simp; exact HWI.out)
  try simp only [Act.put, List.setIfInBounds_toArray, List.set_cons_zero, List.set_cons_succ]
  refine Reg.G_on (o := { dst := some 13, op := Op.slice 56 (Operand.tmp 10) (some (Operand.tmp 12)) Option.none Option.none, type := 56, pos := "ref.go:29", after := #[{ on := 5, ground := Ground.data }, { on := 7, ground := Ground.data }], guard := Option.none }) (v := .slice S2 (xs.length - (i + 1)) (c - (i + 1))) (by rfl) ?_ (fun wS hSw => ?_) ?_
  · kernel_rfl
  · (rw [← HS2.out]; exact slice_lo rfl rfl rfl HI.out.1 HI.out.2)
  try simp only [Act.put, List.setIfInBounds_toArray, List.set_cons_zero, List.set_cons_succ]
  refine Reg.G_step (o := { dst := some 5, op := Op.buildSlice 56 0 #[], type := 56, pos := "ref.go:29", after := #[], guard := Option.none }) (by rfl) ?_ (fun K hK => ?_)
  · kernel_rfl
  refine build0 rfl ?_
  refine hK.out _ _ ?_ (fun hHeld => ?_)
  · exact trivial
  clear hK K
  try simp only [Act.put, List.setIfInBounds_toArray, List.set_cons_zero, List.set_cons_succ]
  skip
  refine Reg.G_step (o := { dst := some 9, op := Op.call { callee := Callee.builtin Builtin.append, args := #[Operand.tmp 5, Operand.tmp 8], argTypes := #[56, 56] }, type := 56, pos := "ref.go:29", after := #[{ on := 0, ground := Ground.data }, { on := 3, ground := Ground.data }], guard := Option.none }) (by rfl) ?_ (fun K hK => ?_)
  · kernel_rfl
  refine op_append (.tmp 5) (.tmp 8) 56 rfl rfl rfl hr1 ?_
  refine hK.out _ _ ?_ (fun hHeld => ?_)
  · exact trivial
  clear hK K
  try simp only [Act.put, List.setIfInBounds_toArray, List.set_cons_zero, List.set_cons_succ]
  skip
  refine Reg.G_step (o := { dst := some 14, op := Op.call { callee := Callee.builtin Builtin.append, args := #[Operand.tmp 9, Operand.tmp 13], argTypes := #[56, 56] }, type := 56, pos := "ref.go:29", after := #[{ on := 4, ground := Ground.data }, { on := 8, ground := Ground.data }, { on := 4, ground := Ground.chain }], guard := Option.none }) (by rfl) ?_ (fun K hK => ?_)
  · kernel_rfl
  refine op_append (.tmp 9) (.tmp 13) 56 rfl rfl rfl hr2 ?_
  refine hK.out _ _ ?_ (fun hHeld => ?_)
  · exact trivial
  clear hK K
  try simp only [Act.put, List.setIfInBounds_toArray, List.set_cons_zero, List.set_cons_succ]
  refine Reg.G_on (o := { dst := some 4, op := Op.assign (Operand.tmp 14), type := 56, pos := "ref.go:29", after := #[{ on := 9, ground := Ground.data }, { on := 9, ground := Ground.chain }, { on := 0, ground := Ground.phase }, { on := 1, ground := Ground.phase }, { on := 2, ground := Ground.phase }, { on := 3, ground := Ground.phase }, { on := 4, ground := Ground.phase }, { on := 5, ground := Ground.phase }, { on := 6, ground := Ground.phase }, { on := 7, ground := Ground.phase }, { on := 8, ground := Ground.phase }, { on := 9, ground := Ground.phase }], guard := Option.none }) (v := ?_) (by rfl) ?_ (fun wS hSw => ?_) ?_
  rotate_left
  · kernel_rfl
  · (try dsimp only at hSw); go_simp; (try with_reducible rfl)
  try simp only [Act.put, List.setIfInBounds_toArray, List.set_cons_zero, List.set_cons_succ]
  refine Reg.G_done ?_
  clear hHeld
  go_wp2
  go_ret
  exact ⟨_, rfl, HY.out.1, HY.out.2⟩
end Go.Proofs.Ytimalojaiaofkaa.Rng
namespace Go.Proofs.Ytimalojaiaofkaa.Rng
open Go.RowKit Base Sp Flat Go.Proofs.YtimalojaiaofkaaW.PrintWords Go.Shelf Smp His
theorem fi_none0 (p : Smp → Bool) : ∀ (xs : List Smp) (i : Nat), fi p xs i = -1 → xs.countP p = 0
  | [], _, _ => rfl
  | x :: r, i, h => by
    rw [fi] at h
    by_cases hp : p x = true
    · rw [if_pos hp] at h; omega
    · rw [if_neg hp] at h
      rw [List.countP_cons_of_neg hp]
      exact fi_none0 p r (i + 1) h
theorem fi_erase (p : Smp → Bool) : ∀ (xs : List Smp) (i : Nat), fi p xs i ≠ -1 → ∃ k, k < xs.length ∧ fi p xs i = ((i + k : Nat) : Int) ∧ xs.eraseP p = xs.take k ++ xs.drop (k + 1)
  | [], _, h => absurd rfl h
  | x :: r, i, h => by
    rw [fi] at h ⊢
    by_cases hp : p x = true
    · rw [if_pos hp]
      exact ⟨0, Nat.succ_pos _, rfl, by rw [List.eraseP_cons_of_pos hp]; rfl⟩
    · rw [if_neg hp] at h ⊢
      obtain ⟨k, h1, h2, h3⟩ := fi_erase p r (i + 1) h
      exact ⟨k + 1, by simpa using h1, by rw [h2]; congr 1; omega, by rw [List.eraseP_cons_of_neg hp, h3]; rfl⟩
theorem cp_hit (p : Smp → Bool) (xs : List Smp) (k : Nat) (hk : k < xs.length) (h : p xs[k] = true) : (xs.drop k).countP p = (xs.drop (k + 1)).countP p + 1 := by
  rw [List.drop_eq_getElem_cons hk, List.countP_cons_of_pos h]
theorem cp_no (p : Smp → Bool) (xs : List Smp) (k : Nat) (hk : k < xs.length) (h : ¬ p xs[k] = true) : (xs.drop k).countP p = (xs.drop (k + 1)).countP p := by
  rw [List.drop_eq_getElem_cons hk, List.countP_cons_of_neg h]
/-- What the reference's eviction leaves. -/
theorem revm (d : Int) (xs : List Smp) (ev : Int) (x : Smp) (hx : x.op = 1) (hd : 0 < d) (hc : d ≤ ((xs.countP (ritr x) : Nat) : Int)) :
    ∃ k, k < xs.length ∧ fi (ritr x) xs 0 = (k : Int) ∧ evm d xs ev x = (xs.take k ++ xs.drop (k + 1), ev + 1) := by
  have hn : fi (ritr x) xs 0 ≠ -1 := fun e => by
    have := fi_none0 _ _ _ e
    omega
  obtain ⟨k, h1, h2, h3⟩ := fi_erase (ritr x) xs 0 hn
  refine ⟨k, h1, by rw [h2]; congr 1; omega, ?_⟩
  unfold evm
  rw [ritr_itr hx] at hc h3
  rw [if_pos ⟨hx, hd, hc⟩, dr_eraseP, h3]
theorem revn (d : Int) (xs : List Smp) (ev : Int) (x : Smp) (h : ¬ (x.op = 1 ∧ 0 < d ∧ d ≤ ((xs.countP (ritr x) : Nat) : Int))) : evm d xs ev x = (xs, ev) := by
  unfold evm
  rw [if_neg]
  intro hh
  refine h ⟨hh.1, hh.2.1, ?_⟩
  rw [ritr_itr hh.1]
  exact hh.2.2
theorem measD (k : Nat) : ((intOf (.int .i64 ((k : Int) - 1))) + 1).toNat < ((intOf (.int .i64 (((k + 1 : Nat) : Int) - 1))) + 1).toNat := by
  show ((k : Int) - 1 + 1).toNat < (((k + 1 : Nat) : Int) - 1 + 1).toNat
  omega
set_option maxRecDepth 20000 in
set_option maxHeartbeats 2000000 in
theorem revict {w : World} {F : Nat → Prop} {v : Value} {xs : List Smp} (n : Qn) (lost ev : Int) (h : Rd ks w F v xs) (hF : ∀ k, F k → k < w.heap.size) (x : Smp) (hl : xs.length * 80 ≤ 140737488355328) (he : 0 ≤ ev ∧ ev < 1000000000) :
    Calls Try.prog 82 #[rqv n v lost ev, .agg (cells x).toArray] w fun e w' => ∃ v', e = .returned (rqv n v' lost (evm n.depth xs ev x).2) ∧ Rd ks w' (fun k => F k ∨ (w.heap.size ≤ k ∧ k < w'.heap.size)) v' (evm n.depth xs ev x).1 ∧ Below w.heap.size w w' := by
  have HH := Lib.hid h
  have HF := Lib.hid hF
  have HL := Lib.hid hl
  have HE := Lib.hid he
  obtain ⟨A, c, rfl, hc, hC9, hA9⟩ := h
  obtain ⟨h1, h2, h3, b0⟩ := three_new w #[.int .i64 n.room, .int .i64 n.depth, .bool n.newest, .slice A xs.length c, .int .u64 lost, .int .u64 ev] (cells x).toArray zq 89 60 89
  unfold zq at *
  unfold rqv at *
  have H0 := Lib.hid (And.intro h1 (And.intro h2 (And.intro h3 b0)))
  generalize hW : ((w.alloc (.cells #[.int .i64 n.room, .int .i64 n.depth, .bool n.newest, .slice A xs.length c, .int .u64 lost, .int .u64 ev] 89)).alloc (.cells (cells x).toArray 60)).alloc (.cells #[.int .i64 0, .int .i64 0, .bool false, .slice none 0 0, .int .u64 0, .int .u64 0] 89) = W0 at *
  have HW := Lib.hid hW
  have hl1 : wrap64 ((xs.length : Int) - 1) = (xs.length : Int) - 1 := by unfold wrap64; omega
  clear h1 h2 h3 hC9 hA9 hF hl he hc b0 hW
  go_enter Try.func82, Try.ntmps82
  go_wp2
  rw [HW.out]
  rw [hl1]
  go_loopw [5, 6, 7] (fun v5 v6 v7 wr => ∃ (k : Nat) (iv : Int), v5 = .int .i64 (((xs.drop k).countP (ritr x) : Nat) : Int) ∧ v6 = .int .i64 (fi (ritr x) (xs.drop k) k) ∧ v7 = .int .i64 iv ∧ Hid (iv = (k : Int) - 1) ∧ k ≤ xs.length ∧ Below W0.heap.size W0 wr) (fun _ _ v7 _ => ((intOf v7) + 1).toNat)
  case atStart => exact ⟨xs.length, _, by rw [List.drop_length]; rfl, by rw [List.drop_length]; rfl, rfl, Lib.hid rfl, Nat.le_refl _, Below.refl _ _⟩
  case round =>
    obtain ⟨k, iv, rfl, rfl, rfl, hiv, hk, bb⟩ := hrel
    have g0 := blk_below H0.out.1 bb
    have bw : Below w.heap.size w wr := bstep H0.out.2.2.2 bb
    cases k with
    | zero =>
      have hneg : ¬ (0 : Int) ≤ iv := by have := hiv.out; omega
      have HB := Lib.hid (And.intro bb bw)
      rw [List.drop_zero]
      have g2 := blk_below H0.out.2.2.1 bb
      have o1 : wr.cell? ⟨w.heap.size + 1, 0, none⟩ = some (.int .i64 x.op) := blk_cell (blk_below H0.out.2.1 bb) 0
      have HLT := Lib.hid (show w.heap.size + 2 < wr.heap.size from blk_lt g2)
      by_cases hev : x.op = 1 ∧ 0 < n.depth ∧ n.depth ≤ ((xs.countP (ritr x) : Nat) : Int)
      · obtain ⟨ho, hd, hcd⟩ := hev
        obtain ⟨kk, hk1, hk2, hk3⟩ := revm n.depth xs ev x ho hd hcd
        have HZ := Lib.hid hk3
        have CW := rwithout (rd_below HH.out bw) kk hk1 HL.out
        rw [hk2]
        rw [ho] at o1
        have hwe : IntKind.u64.wrap (ev + 1) = ev + 1 := wrapu64 (by have := HE.out; omega) (by have := HE.out; omega)
        generalize xs.take kk ++ xs.drop (kk + 1) = zs at CW HZ
        generalize xs.countP (ritr x) = cc at *
        have c0 : wr.cell? ⟨w.heap.size, 0, none⟩ = some (.int .i64 n.room) := blk_cell g0 0
        have c1 : wr.cell? ⟨w.heap.size, 1, none⟩ = some (.int .i64 n.depth) := blk_cell g0 1
        have c2 : wr.cell? ⟨w.heap.size, 2, none⟩ = some (.bool n.newest) := blk_cell g0 2
        have c3 : wr.cell? ⟨w.heap.size, 3, none⟩ = some (.slice A xs.length c) := blk_cell g0 3
        have c4 : wr.cell? ⟨w.heap.size, 4, none⟩ = some (.int .u64 lost) := blk_cell g0 4
        have c5 : wr.cell? ⟨w.heap.size, 5, none⟩ = some (.int .u64 ev) := blk_cell g0 5
        have HG0 := Lib.hid (And.intro g0 g2)
        clear hk bb bw hiv hk1 hk2 hk3 g0 g2 ho
        go_wp2_with fail
        refine CW.mono ?_
        rintro e w5 ⟨v5, rfl, ho5, b5⟩
        have HO5 := Lib.hid ho5.rd
        obtain ⟨A5, cap5, rfl, _, _, _⟩ := ho5.rd
        have g0 := blk_below HG0.out.1 b5
        have g2 := blk_below HG0.out.2 b5
        have bb5 := bstep HB.out.2 b5
        have B5 := Lib.hid b5
        clear CW ho5 b5 c0 c1 c2 c3 c4 c5 o1
        have c0 : w5.cell? ⟨w.heap.size, 0, none⟩ = some (.int .i64 n.room) := blk_cell g0 0
        have c1 : w5.cell? ⟨w.heap.size, 1, none⟩ = some (.int .i64 n.depth) := blk_cell g0 1
        have c2 : w5.cell? ⟨w.heap.size, 2, none⟩ = some (.bool n.newest) := blk_cell g0 2
        have c3 : w5.cell? ⟨w.heap.size, 3, none⟩ = some (.slice A xs.length c) := blk_cell g0 3
        have c4 : w5.cell? ⟨w.heap.size, 4, none⟩ = some (.int .u64 lost) := blk_cell g0 4
        have c5 : w5.cell? ⟨w.heap.size, 5, none⟩ = some (.int .u64 ev) := blk_cell g0 5
        have z3 := blk_frozen g0 3
        have z5 := blk_frozen g0 5
        have HG : Hid (((w5.setCell ⟨w.heap.size, 3, none⟩ (.slice A5 zs.length cap5)).setCell ⟨w.heap.size, 5, none⟩ (.int .u64 (ev + 1))).heap[w.heap.size + 1 + 1]? = some (.cells #[.int .i64 0, .int .i64 0, .bool false, .slice none 0 0, .int .u64 0, .int .u64 0] 89 (0, 0)) ∧ Below w.heap.size w ((w5.setCell ⟨w.heap.size, 3, none⟩ (.slice A5 zs.length cap5)).setCell ⟨w.heap.size, 5, none⟩ (.int .u64 (ev + 1)))) :=
          Lib.hid ⟨(Below.heap_setCell _ ⟨w.heap.size, 5, none⟩ _ (w.heap.size + 1 + 1) (by show w.heap.size + 1 + 1 ≠ w.heap.size; omega)).trans ((Below.heap_setCell _ ⟨w.heap.size, 3, none⟩ _ (w.heap.size + 1 + 1) (by show w.heap.size + 1 + 1 ≠ w.heap.size; omega)).trans g2), (bb5.setCell (p := ⟨w.heap.size, 3, none⟩) (Nat.le_refl _) _).setCell (p := ⟨w.heap.size, 5, none⟩) (Nat.le_refl _) _⟩
        clear g0 g2 bb5
        have HT9 := q_there (cur := #[.int .i64 0, .int .i64 0, .bool false, .slice none 0 0, .int .u64 0, .int .u64 0]) rfl HG.out.1 n (.slice A5 zs.length cap5) lost (ev + 1)
        go_wp2_with (first | ((with_reducible refine gate_store (p := 4) (v := .tmp 49) rfl ?_); refine Hid.out (p := _) ?_) | fail)
        refine Lib.hid ?_
        refine store_ev rfl 89 (.tmp 4) (.tmp 49) rfl (w.heap.size + 1 + 1) 0 (qcs n (.slice A5 zs.length cap5) lost (ev + 1)) rfl (q_lit n (.slice A5 zs.length cap5) lost (ev + 1)) ?_ ?_ ?_ ?_
        · exact HT9
        · exact size6 _ _ _ _
        · exact qcs_one _ _ _ _ _ _
        intro w9 hw9
        obtain ⟨n9, K9⟩ := q_store (cur := #[.int .i64 0, .int .i64 0, .bool false, .slice none 0 0, .int .u64 0, .int .u64 0]) rfl HG.out.1 n (.slice A5 zs.length cap5) lost (ev + 1) hw9
        have B9 := K9 HG.out.2 (by omega) HG.out.2.size
        have S9 : ∀ k, w.heap.size + 2 < k → w9.heap[k]? = w5.heap[k]? := fun k hk => by
          rw [hw9, setCells_other _ _ _ _ k (by omega)]
          exact (Below.heap_setCell _ ⟨w.heap.size, 5, none⟩ _ k (by show k ≠ w.heap.size; omega)).trans (Below.heap_setCell _ ⟨w.heap.size, 3, none⟩ _ k (by show k ≠ w.heap.size; omega))
        have s9 : w9.heap.size = w5.heap.size := by rw [hw9, setCells_size]; simp [World.setCell]
        have HY : Hid (Rd ks w9 (fun k => F k ∨ (w.heap.size ≤ k ∧ k < w9.heap.size)) (.slice A5 zs.length cap5) zs ∧ Below w.heap.size w w9) := Lib.hid ⟨(HO5.out.same flat_ks (fun k hk => S9 k (Nat.lt_of_lt_of_le HLT.out hk.1))).mono (fun k hk => .inr ⟨by have := HLT.out; have := hk.1; omega, by rw [s9]; exact hk.2⟩), B9⟩
        clear c0 c1 c2 c3 c4 c5 z3 z5 K9 B9 HT9 S9 s9 hw9
        have c0 : w9.cell? ⟨w.heap.size + 1 + 1, 0, none⟩ = some (.int .i64 n.room) := blk_cell n9 0
        have c1 : w9.cell? ⟨w.heap.size + 1 + 1, 1, none⟩ = some (.int .i64 n.depth) := blk_cell n9 1
        have c2 : w9.cell? ⟨w.heap.size + 1 + 1, 2, none⟩ = some (.bool n.newest) := blk_cell n9 2
        have c3 : w9.cell? ⟨w.heap.size + 1 + 1, 3, none⟩ = some (.slice A5 zs.length cap5) := blk_cell n9 3
        have c4 : w9.cell? ⟨w.heap.size + 1 + 1, 4, none⟩ = some (.int .u64 lost) := blk_cell n9 4
        have c5 : w9.cell? ⟨w.heap.size + 1 + 1, 5, none⟩ = some (.int .u64 (ev + 1)) := blk_cell n9 5
        go_wp2
        exact bodyPost_ret (v := .agg #[.int .i64 n.room, .int .i64 n.depth, .bool n.newest, .slice A5 zs.length cap5, .int .u64 lost, .int .u64 (ev + 1)]) (by simp [results, Try.results82, go_sem, c0, c1, c2, c3, c4, c5]) rfl ⟨_, by rw [HZ.out], by rw [HZ.out]; exact HY.out.1, HY.out.2⟩
      · have HZ := Lib.hid (revn n.depth xs ev x hev)
        have HG : Hid (wr.heap[w.heap.size + 1 + 1]? = some (.cells #[.int .i64 0, .int .i64 0, .bool false, .slice none 0 0, .int .u64 0, .int .u64 0] 89 (0, 0)) ∧ Below w.heap.size w wr) := Lib.hid ⟨g2, bw⟩
        generalize xs.countP (ritr x) = cc at *
        have c0 : wr.cell? ⟨w.heap.size, 0, none⟩ = some (.int .i64 n.room) := blk_cell g0 0
        have c1 : wr.cell? ⟨w.heap.size, 1, none⟩ = some (.int .i64 n.depth) := blk_cell g0 1
        have c2 : wr.cell? ⟨w.heap.size, 2, none⟩ = some (.bool n.newest) := blk_cell g0 2
        have c3 : wr.cell? ⟨w.heap.size, 3, none⟩ = some (.slice A xs.length c) := blk_cell g0 3
        have c4 : wr.cell? ⟨w.heap.size, 4, none⟩ = some (.int .u64 lost) := blk_cell g0 4
        have c5 : wr.cell? ⟨w.heap.size, 5, none⟩ = some (.int .u64 ev) := blk_cell g0 5
        clear hk bb bw hiv g0 g2
        by_cases ho : x.op = 1
        · rw [ho] at o1
          by_cases hd : 0 < n.depth
          · have hcd : ¬ n.depth ≤ (cc : Int) := fun hh => hev ⟨ho, hd, hh⟩
            clear hev ho
            have HT9 := q_there (cur := #[.int .i64 0, .int .i64 0, .bool false, .slice none 0 0, .int .u64 0, .int .u64 0]) rfl HG.out.1 n (.slice A xs.length c) lost ev
            go_wp2_with (first | ((with_reducible refine gate_store (p := 4) (v := .tmp 49) rfl ?_); refine Hid.out (p := _) ?_) | fail)
            refine Lib.hid ?_
            refine store_ev rfl 89 (.tmp 4) (.tmp 49) rfl (w.heap.size + 1 + 1) 0 (qcs n (.slice A xs.length c) lost ev) rfl (q_lit n (.slice A xs.length c) lost ev) ?_ ?_ ?_ ?_
            · exact HT9
            · exact size6 _ _ _ _
            · exact qcs_one _ _ _ _ _ _
            intro w9 hw9
            obtain ⟨n9, K9⟩ := q_store (cur := #[.int .i64 0, .int .i64 0, .bool false, .slice none 0 0, .int .u64 0, .int .u64 0]) rfl HG.out.1 n (.slice A xs.length c) lost ev hw9
            have B9 := K9 HG.out.2 (by omega) HG.out.2.size
            have HY : Hid (Rd ks w9 (fun k => F k ∨ (w.heap.size ≤ k ∧ k < w9.heap.size)) (.slice A xs.length c) xs ∧ Below w.heap.size w w9) := Lib.hid ⟨(rd_below HH.out B9).mono (fun k hk => .inl hk), B9⟩
            clear c0 c1 c2 c3 c4 c5 K9 B9 HT9 hw9
            have c0 : w9.cell? ⟨w.heap.size + 1 + 1, 0, none⟩ = some (.int .i64 n.room) := blk_cell n9 0
            have c1 : w9.cell? ⟨w.heap.size + 1 + 1, 1, none⟩ = some (.int .i64 n.depth) := blk_cell n9 1
            have c2 : w9.cell? ⟨w.heap.size + 1 + 1, 2, none⟩ = some (.bool n.newest) := blk_cell n9 2
            have c3 : w9.cell? ⟨w.heap.size + 1 + 1, 3, none⟩ = some (.slice A xs.length c) := blk_cell n9 3
            have c4 : w9.cell? ⟨w.heap.size + 1 + 1, 4, none⟩ = some (.int .u64 lost) := blk_cell n9 4
            have c5 : w9.cell? ⟨w.heap.size + 1 + 1, 5, none⟩ = some (.int .u64 ev) := blk_cell n9 5
            go_wp2
            exact bodyPost_ret (v := .agg #[.int .i64 n.room, .int .i64 n.depth, .bool n.newest, .slice A xs.length c, .int .u64 lost, .int .u64 ev]) (by simp [results, Try.results82, go_sem, c0, c1, c2, c3, c4, c5]) rfl ⟨_, by rw [HZ.out], by rw [HZ.out]; exact HY.out.1, HY.out.2⟩
          · clear hev ho
            have HT9 := q_there (cur := #[.int .i64 0, .int .i64 0, .bool false, .slice none 0 0, .int .u64 0, .int .u64 0]) rfl HG.out.1 n (.slice A xs.length c) lost ev
            go_wp2_with (first | ((with_reducible refine gate_store (p := 4) (v := .tmp 49) rfl ?_); refine Hid.out (p := _) ?_) | fail)
            refine Lib.hid ?_
            refine store_ev rfl 89 (.tmp 4) (.tmp 49) rfl (w.heap.size + 1 + 1) 0 (qcs n (.slice A xs.length c) lost ev) rfl (q_lit n (.slice A xs.length c) lost ev) ?_ ?_ ?_ ?_
            · exact HT9
            · exact size6 _ _ _ _
            · exact qcs_one _ _ _ _ _ _
            intro w9 hw9
            obtain ⟨n9, K9⟩ := q_store (cur := #[.int .i64 0, .int .i64 0, .bool false, .slice none 0 0, .int .u64 0, .int .u64 0]) rfl HG.out.1 n (.slice A xs.length c) lost ev hw9
            have B9 := K9 HG.out.2 (by omega) HG.out.2.size
            have HY : Hid (Rd ks w9 (fun k => F k ∨ (w.heap.size ≤ k ∧ k < w9.heap.size)) (.slice A xs.length c) xs ∧ Below w.heap.size w w9) := Lib.hid ⟨(rd_below HH.out B9).mono (fun k hk => .inl hk), B9⟩
            clear c0 c1 c2 c3 c4 c5 K9 B9 HT9 hw9
            have c0 : w9.cell? ⟨w.heap.size + 1 + 1, 0, none⟩ = some (.int .i64 n.room) := blk_cell n9 0
            have c1 : w9.cell? ⟨w.heap.size + 1 + 1, 1, none⟩ = some (.int .i64 n.depth) := blk_cell n9 1
            have c2 : w9.cell? ⟨w.heap.size + 1 + 1, 2, none⟩ = some (.bool n.newest) := blk_cell n9 2
            have c3 : w9.cell? ⟨w.heap.size + 1 + 1, 3, none⟩ = some (.slice A xs.length c) := blk_cell n9 3
            have c4 : w9.cell? ⟨w.heap.size + 1 + 1, 4, none⟩ = some (.int .u64 lost) := blk_cell n9 4
            have c5 : w9.cell? ⟨w.heap.size + 1 + 1, 5, none⟩ = some (.int .u64 ev) := blk_cell n9 5
            go_wp2
            exact bodyPost_ret (v := .agg #[.int .i64 n.room, .int .i64 n.depth, .bool n.newest, .slice A xs.length c, .int .u64 lost, .int .u64 ev]) (by simp [results, Try.results82, go_sem, c0, c1, c2, c3, c4, c5]) rfl ⟨_, by rw [HZ.out], by rw [HZ.out]; exact HY.out.1, HY.out.2⟩
        · have hob : (x.op == 1) = false := beq_eq_false_iff_ne.2 ho
          clear hev ho
          have HT9 := q_there (cur := #[.int .i64 0, .int .i64 0, .bool false, .slice none 0 0, .int .u64 0, .int .u64 0]) rfl HG.out.1 n (.slice A xs.length c) lost ev
          go_wp2_with (first | ((with_reducible refine gate_store (p := 4) (v := .tmp 49) rfl ?_); refine Hid.out (p := _) ?_) | fail)
          refine Lib.hid ?_
          refine store_ev rfl 89 (.tmp 4) (.tmp 49) rfl (w.heap.size + 1 + 1) 0 (qcs n (.slice A xs.length c) lost ev) rfl (q_lit n (.slice A xs.length c) lost ev) ?_ ?_ ?_ ?_
          · exact HT9
          · exact size6 _ _ _ _
          · exact qcs_one _ _ _ _ _ _
          intro w9 hw9
          obtain ⟨n9, K9⟩ := q_store (cur := #[.int .i64 0, .int .i64 0, .bool false, .slice none 0 0, .int .u64 0, .int .u64 0]) rfl HG.out.1 n (.slice A xs.length c) lost ev hw9
          have B9 := K9 HG.out.2 (by omega) HG.out.2.size
          have HY : Hid (Rd ks w9 (fun k => F k ∨ (w.heap.size ≤ k ∧ k < w9.heap.size)) (.slice A xs.length c) xs ∧ Below w.heap.size w w9) := Lib.hid ⟨(rd_below HH.out B9).mono (fun k hk => .inl hk), B9⟩
          clear c0 c1 c2 c3 c4 c5 K9 B9 HT9 hw9
          have c0 : w9.cell? ⟨w.heap.size + 1 + 1, 0, none⟩ = some (.int .i64 n.room) := blk_cell n9 0
          have c1 : w9.cell? ⟨w.heap.size + 1 + 1, 1, none⟩ = some (.int .i64 n.depth) := blk_cell n9 1
          have c2 : w9.cell? ⟨w.heap.size + 1 + 1, 2, none⟩ = some (.bool n.newest) := blk_cell n9 2
          have c3 : w9.cell? ⟨w.heap.size + 1 + 1, 3, none⟩ = some (.slice A xs.length c) := blk_cell n9 3
          have c4 : w9.cell? ⟨w.heap.size + 1 + 1, 4, none⟩ = some (.int .u64 lost) := blk_cell n9 4
          have c5 : w9.cell? ⟨w.heap.size + 1 + 1, 5, none⟩ = some (.int .u64 ev) := blk_cell n9 5
          go_wp2
          exact bodyPost_ret (v := .agg #[.int .i64 n.room, .int .i64 n.depth, .bool n.newest, .slice A xs.length c, .int .u64 lost, .int .u64 ev]) (by simp [results, Try.results82, go_sem, c0, c1, c2, c3, c4, c5]) rfl ⟨_, by rw [HZ.out], by rw [HZ.out]; exact HY.out.1, HY.out.2⟩
    | succ k =>
      obtain rfl : iv = (k : Int) := by have := hiv.out; omega
      have p0 : (0 : Int) ≤ (k : Int) := by omega
      have hlt : k < xs.length := hk
      have p1 : (k : Int) < (xs.length : Int) := by omega
      obtain ⟨ad, rfl, q1⟩ := rd_at (rd_below HH.out bw) hlt
      have c3 : wr.cell? ⟨w.heap.size, 3, none⟩ = some (.slice (some ad) xs.length c) := blk_cell g0 3
      have rx := box_range (blk_below H0.out.2.1 bb)
      have hwi : wrap64 ((k : Int) - 1) = (k : Int) - 1 := by have := HL.out; unfold wrap64; omega
      have hcl : (xs.drop (k + 1)).countP (ritr x) ≤ xs.length := Nat.le_trans List.countP_le_length (by rw [List.length_drop]; omega)
      have hwc : wrap64 ((((xs.drop (k + 1)).countP (ritr x) : Nat) : Int) + 1) = (((xs.drop (k + 1)).countP (ritr x) + 1 : Nat) : Int) := by have := HL.out; unfold wrap64; omega
      have HC0 := rits xs[k] x
      have ht := cp_hit (ritr x) xs k hlt
      have hn := cp_no (ritr x) xs k hlt
      have ft := fi_hit (ritr x) xs k hlt
      have fn := fi_step (ritr x) xs k hlt
      generalize xs[k] = y at *
      have HW1 := Lib.hid (And.intro hwi hwc)
      have HB := Lib.hid bb
      generalize hcc : (xs.drop (k + 1)).countP (ritr x) = cc at *
      generalize hff : fi (ritr x) (xs.drop (k + 1)) (k + 1) = ff at *
      clear hk hlt bb bw hiv hwi hwc hcl hcc hff g0
      cases hp : ritr x y with
      | true =>
        have HC : ∀ W, Calls Try.prog 99 #[.agg (cells y).toArray, .agg (cells x).toArray] W fun e w' => e = .returned (.bool true) ∧ Below W.heap.size W w' := fun W => by have := HC0 W; rwa [hp] at this
        have HS := Lib.hid (And.intro (ht hp) (ft hp))
        clear ht hn ft fn HC0 hp
        go_wp2_with fail
        refine Reg.wp_plan (S := fun w' => w'.cell? ⟨w.heap.size, 3, none⟩ = some (.slice (some ad) xs.length c) ∧ CellsAt w' (ad.add (k * 23)) (cells y) ∧ w'.rangeAt (w.heap.size + 1) 0 (cells x)) 6 (.fl 0 (.fl 1 (.fl 2 (.fl 3 (.fl 4 (.fl 5 (.one 6 .done))))))) (by kernel_rfl) (by kernel_rfl) (by kernel_rfl) (by kernel_rfl) (fun _ _ _ d _ h => by cases d <;> exact h) ?_ (fun hHeld => ?_)
        · exact ⟨c3, q1, rx⟩
        refine Reg.G_on (o := { dst := some 16, op := Op.fieldAddr 89 (Operand.tmp 2) 3, type := 0, pos := "ref.go:37", after := #[], guard := Option.none }) (v := ?_) (by rfl) ?_ (fun wS hSw => ?_) ?_
        rotate_left
        · kernel_rfl
        · (try dsimp only at hSw); go_simp; (try with_reducible rfl)
        try simp only [Act.put, List.setIfInBounds_toArray, List.set_cons_zero, List.set_cons_succ]
        refine Reg.G_on (o := { dst := some 17, op := Op.load 56 (Operand.tmp 16), type := 56, pos := "ref.go:37", after := #[{ on := 0, ground := Ground.data }], guard := Option.none }) (v := ?_) (by rfl) ?_ (fun wS hSw => ?_) ?_
        rotate_left
        · kernel_rfl
        · (try dsimp only at hSw); go_simp; (try with_reducible rfl)
        try simp only [Act.put, List.setIfInBounds_toArray, List.set_cons_zero, List.set_cons_succ]
        refine Reg.G_on (o := { dst := some 18, op := Op.move (Operand.tmp 7), type := 3, pos := "ref.go:37", after := #[], guard := Option.none }) (v := ?_) (by rfl) ?_ (fun wS hSw => ?_) ?_
        rotate_left
        · kernel_rfl
        · (try dsimp only at hSw); go_simp; (try with_reducible rfl)
        try simp only [Act.put, List.setIfInBounds_toArray, List.set_cons_zero, List.set_cons_succ]
        refine Reg.G_on (o := { dst := some 19, op := Op.indexAddr 56 (Operand.tmp 17) (Operand.tmp 18), type := 0, pos := "ref.go:37", after := #[{ on := 1, ground := Ground.data }, { on := 2, ground := Ground.data }], guard := Option.none }) (v := ?_) (by rfl) ?_ (fun wS hSw => ?_) ?_
        rotate_left
        · kernel_rfl
        · (try dsimp only at hSw); go_simp; (try with_reducible rfl)
        try simp only [Act.put, List.setIfInBounds_toArray, List.set_cons_zero, List.set_cons_succ]
        refine Reg.G_on (o := { dst := some 20, op := Op.load 60 (Operand.tmp 19), type := 60, pos := "ref.go:37", after := #[{ on := 3, ground := Ground.data }], guard := Option.none }) (v := .agg (cells y).toArray) (by rfl) ?_ (fun wS hSw => ?_) ?_
        · kernel_rfl
        · exact load_yields_any rfl rfl hSw.2.1 Try.underlying60 rfl (size23 y)
        try simp only [Act.put, List.setIfInBounds_toArray, List.set_cons_zero, List.set_cons_succ]
        refine Reg.G_on (o := { dst := some 21, op := Op.load 60 (Operand.tmp 3), type := 60, pos := "ref.go:37", after := #[], guard := Option.none }) (v := .agg (cells x).toArray) (by rfl) ?_ (fun wS hSw => ?_) ?_
        · kernel_rfl
        · exact load_yields rfl rfl hSw.2.2 Try.underlying60 rfl (size23 x)
        try simp only [Act.put, List.setIfInBounds_toArray, List.set_cons_zero, List.set_cons_succ]
        refine Reg.G_last (o := { dst := some 22, op := Op.call { callee := Callee.value (Operand.func 99), args := #[Operand.tmp 20, Operand.tmp 21], argTypes := #[60, 60] }, type := 4, pos := "ref.go:37", after := #[{ on := 4, ground := Ground.data }, { on := 5, ground := Ground.data }], guard := Option.none }) (by rfl) (by rfl) ?_ (fun K hK => ?_)
        · kernel_rfl
        go_simp
        refine (HC _).mono ?_
        rintro e w' ⟨rfl, hb1⟩
        refine hK.out _ _ ?_
        clear hK K
        try simp only [Act.put, List.setIfInBounds_toArray, List.set_cons_zero, List.set_cons_succ]
        clear HC c3 q1 rx
        go_wp2
        rw [HW1.out.1, HW1.out.2]
        exact ⟨⟨k, (k : Int) - 1, by rw [HS.out.1], by rw [HS.out.2], rfl, Lib.hid rfl, Nat.le_of_lt (by omega), bstep HB.out.drew hb1⟩, by show ((k : Int) - 1 + 1).toNat < ((k : Int) + 1).toNat; omega⟩
      | false =>
        have HC : ∀ W, Calls Try.prog 99 #[.agg (cells y).toArray, .agg (cells x).toArray] W fun e w' => e = .returned (.bool false) ∧ Below W.heap.size W w' := fun W => by have := HC0 W; rwa [hp] at this
        have HS := Lib.hid (And.intro (hn (by rw [hp]; decide)) (fn hp))
        clear ht hn ft fn HC0 hp
        go_wp2_with fail
        refine Reg.wp_plan (S := fun w' => w'.cell? ⟨w.heap.size, 3, none⟩ = some (.slice (some ad) xs.length c) ∧ CellsAt w' (ad.add (k * 23)) (cells y) ∧ w'.rangeAt (w.heap.size + 1) 0 (cells x)) 6 (.fl 0 (.fl 1 (.fl 2 (.fl 3 (.fl 4 (.fl 5 (.one 6 .done))))))) (by kernel_rfl) (by kernel_rfl) (by kernel_rfl) (by kernel_rfl) (fun _ _ _ d _ h => by cases d <;> exact h) ?_ (fun hHeld => ?_)
        · exact ⟨c3, q1, rx⟩
        refine Reg.G_on (o := { dst := some 16, op := Op.fieldAddr 89 (Operand.tmp 2) 3, type := 0, pos := "ref.go:37", after := #[], guard := Option.none }) (v := ?_) (by rfl) ?_ (fun wS hSw => ?_) ?_
        rotate_left
        · kernel_rfl
        · (try dsimp only at hSw); go_simp; (try with_reducible rfl)
        try simp only [Act.put, List.setIfInBounds_toArray, List.set_cons_zero, List.set_cons_succ]
        refine Reg.G_on (o := { dst := some 17, op := Op.load 56 (Operand.tmp 16), type := 56, pos := "ref.go:37", after := #[{ on := 0, ground := Ground.data }], guard := Option.none }) (v := ?_) (by rfl) ?_ (fun wS hSw => ?_) ?_
        rotate_left
        · kernel_rfl
        · (try dsimp only at hSw); go_simp; (try with_reducible rfl)
        try simp only [Act.put, List.setIfInBounds_toArray, List.set_cons_zero, List.set_cons_succ]
        refine Reg.G_on (o := { dst := some 18, op := Op.move (Operand.tmp 7), type := 3, pos := "ref.go:37", after := #[], guard := Option.none }) (v := ?_) (by rfl) ?_ (fun wS hSw => ?_) ?_
        rotate_left
        · kernel_rfl
        · (try dsimp only at hSw); go_simp; (try with_reducible rfl)
        try simp only [Act.put, List.setIfInBounds_toArray, List.set_cons_zero, List.set_cons_succ]
        refine Reg.G_on (o := { dst := some 19, op := Op.indexAddr 56 (Operand.tmp 17) (Operand.tmp 18), type := 0, pos := "ref.go:37", after := #[{ on := 1, ground := Ground.data }, { on := 2, ground := Ground.data }], guard := Option.none }) (v := ?_) (by rfl) ?_ (fun wS hSw => ?_) ?_
        rotate_left
        · kernel_rfl
        · (try dsimp only at hSw); go_simp; (try with_reducible rfl)
        try simp only [Act.put, List.setIfInBounds_toArray, List.set_cons_zero, List.set_cons_succ]
        refine Reg.G_on (o := { dst := some 20, op := Op.load 60 (Operand.tmp 19), type := 60, pos := "ref.go:37", after := #[{ on := 3, ground := Ground.data }], guard := Option.none }) (v := .agg (cells y).toArray) (by rfl) ?_ (fun wS hSw => ?_) ?_
        · kernel_rfl
        · exact load_yields_any rfl rfl hSw.2.1 Try.underlying60 rfl (size23 y)
        try simp only [Act.put, List.setIfInBounds_toArray, List.set_cons_zero, List.set_cons_succ]
        refine Reg.G_on (o := { dst := some 21, op := Op.load 60 (Operand.tmp 3), type := 60, pos := "ref.go:37", after := #[], guard := Option.none }) (v := .agg (cells x).toArray) (by rfl) ?_ (fun wS hSw => ?_) ?_
        · kernel_rfl
        · exact load_yields rfl rfl hSw.2.2 Try.underlying60 rfl (size23 x)
        try simp only [Act.put, List.setIfInBounds_toArray, List.set_cons_zero, List.set_cons_succ]
        refine Reg.G_last (o := { dst := some 22, op := Op.call { callee := Callee.value (Operand.func 99), args := #[Operand.tmp 20, Operand.tmp 21], argTypes := #[60, 60] }, type := 4, pos := "ref.go:37", after := #[{ on := 4, ground := Ground.data }, { on := 5, ground := Ground.data }], guard := Option.none }) (by rfl) (by rfl) ?_ (fun K hK => ?_)
        · kernel_rfl
        go_simp
        refine (HC _).mono ?_
        rintro e w' ⟨rfl, hb1⟩
        refine hK.out _ _ ?_
        clear hK K
        try simp only [Act.put, List.setIfInBounds_toArray, List.set_cons_zero, List.set_cons_succ]
        clear HC c3 q1 rx
        go_wp2
        rw [HW1.out.1]
        exact ⟨⟨k, (k : Int) - 1, by rw [HS.out.1], by rw [← HS.out.2], rfl, Lib.hid rfl, Nat.le_of_lt (by omega), bstep HB.out.drew hb1⟩, by show ((k : Int) - 1 + 1).toNat < ((k : Int) + 1).toNat; omega⟩
end Go.Proofs.Ytimalojaiaofkaa.Rng
namespace Go.Proofs.Ytimalojaiaofkaa.Rng
open Go.RowKit Base Sp Flat Go.Proofs.YtimalojaiaofkaaW.PrintWords Go.Shelf Smp His
section
variable {W : World} {F : Nat → Prop}
abbrev Apd (w : World) (v u : Value) (v1 : Value) (w1 : World) : Prop := (Builtin.append_ #[56, 56] 56 #[v, u]).run Try.prog w = .ok v1 w1
/-- A slice literal of one sample, read. -/
theorem rd_one {s : Nat} {x : Smp} (h : W.heap[s]? = some (.cells (cells x).toArray 60 (0, 0))) : Rd ks W (fun k => k = s) (.slice (some ⟨s, 0, none⟩) 1 1) [x] := by
  refine ⟨some ⟨s, 0, none⟩, 1, rfl, Nat.le_refl _, ⟨rfl, by simp, fun _ => ⟨_, rfl, fun j p hj => ?_⟩⟩, fun a ha => by cases ha; rfl⟩
  have hjl := (List.getElem?_eq_some_iff.1 hj).1
  obtain rfl : j = 0 := by simpa using hjl
  obtain rfl : x = p := by simpa using hj
  refine ⟨cells x, cells_len x, rfl, fun i u hi => ?_⟩
  rw [add_plain, blk_cell h, List.getElem?_toArray]
  simpa using hi
/-- append([]T{}, ys...), the empty slice being wherever. -/
theorem app_at {g : Nat} (hg : W.heap[g]? = some (.cells #[] 60 (0, 0))) {A : Option Addr} {c : Nat} {ys : List Smp} (hy : Rd ks W F (.slice A ys.length c) ys) (hl : ys.length * 80 ≤ 140737488355328) :
    ∃ v1 w1, Apd W (.slice (some ⟨g, 0, none⟩) 0 0) (.slice A ys.length c) v1 w1 ∧ Own ks 60 w1 (fun k => k = g ∨ (W.heap.size ≤ k ∧ k < w1.heap.size)) v1 ys ∧ W.grownBy w1 (some g) :=
  Own.copied (P := Try.prog) flat_ks 56 56 (.agg (cells zsmp).toArray) 80 Try.underlying56 (by kernel_rfl) info (by show (cells zsmp).toArray.size = 23; rw [List.size_toArray, cells_len]) (by decide) (by decide) hg ys A c hy hl
abbrev e0 : Obj := .cells #[] 60
abbrev sx (x : Smp) : Obj := .cells (cells x).toArray 60
theorem asz (w : World) (o : Obj) : (w.alloc o).heap.size = w.heap.size + 1 := by simp
/-- The two appends of a push, in each order of what they need. -/
theorem path1 {A : Option Addr} {c : Nat} {ys : List Smp} (hy : Rd ks W F (.slice A ys.length c) ys) (hl : (ys.length + 1) * 80 ≤ 140737488355328) (x : Smp) :
    ∃ v3 w3 v6 w6, Apd (W.alloc e0) (.slice (some ⟨W.heap.size, 0, none⟩) 0 0) (.slice A ys.length c) v3 w3 ∧ Below W.heap.size W w3 ∧ Apd (w3.alloc (sx x)) v3 (.slice (some ⟨w3.heap.size, 0, none⟩) 1 1) v6 w6 ∧ Below W.heap.size W w6 ∧ Rd ks w6 (fun k => W.heap.size ≤ k ∧ k < w6.heap.size) v6 (ys ++ [x]) := by
  obtain ⟨v3, w3, h3, o3, b3⟩ := app_new hy (by omega)
  have bs : Below W.heap.size W (w3.alloc (sx x)) := b3.alloc b3.size _
  have o4 := o3.same flat_ks (w' := w3.alloc (sx x)) (fun k hk => Below.heap_alloc _ _ _ hk.2)
  obtain ⟨v6, w6, h6, o6, g6⟩ := app_all o4 (fun k hk => by rw [asz]; exact Nat.lt_succ_of_lt hk.2) (rd_one (heap_alloc_new w3 _)) (by simpa using hl)
  have hsz := g6.size
  rw [asz] at hsz
  refine ⟨v3, w3, v6, w6, h3, b3, h6, bs.grown g6 bs.size (fun k hk => (o4.base k hk).1), o6.rd.mono (fun k hk => ?_)⟩
  rw [asz] at hk
  rcases hk with hk | hk
  · exact ⟨hk.1, by have := hk.2; omega⟩
  · exact ⟨by have := hk.1; have := b3.size; omega, hk.2⟩
theorem path2 {A : Option Addr} {c : Nat} {ys : List Smp} (hy : Rd ks W F (.slice A ys.length c) ys) (hl : (ys.length + 1) * 80 ≤ 140737488355328) (x : Smp) :
    ∃ v3 w3 v6 w6, Apd ((W.alloc e0).alloc (sx x)) (.slice (some ⟨W.heap.size, 0, none⟩) 0 0) (.slice A ys.length c) v3 w3 ∧ Below W.heap.size W w3 ∧ Apd w3 v3 (.slice (some ⟨(W.alloc e0).heap.size, 0, none⟩) 1 1) v6 w6 ∧ Below W.heap.size W w6 ∧ Rd ks w6 (fun k => W.heap.size ≤ k ∧ k < w6.heap.size) v6 (ys ++ [x]) := by
  have b1 : Below W.heap.size W ((W.alloc e0).alloc (sx x)) := ((Below.refl _ _).alloc (Nat.le_refl _) _).alloc (by rw [asz]; omega) _
  obtain ⟨v3, w3, h3, o3, g3⟩ := app_at (blk_alloc (heap_alloc_new W _) (sx x)) (rd_below hy b1) (by omega)
  have hs : w3.heap[(W.alloc e0).heap.size]? = some (.cells (cells x).toArray 60 (0, 0)) := (g3.block _ (by rw [asz (W.alloc e0)]; exact Nat.lt_succ_self _) (fun e => by injection e with e; rw [asz] at e; omega)).trans (heap_alloc_new (W.alloc e0) _)
  have b3 : Below W.heap.size W w3 := b1.grown g3 b1.size (fun k hk => by injection hk with hk; omega)
  have hz3 := g3.size
  rw [asz, asz] at hz3
  obtain ⟨v6, w6, h6, o6, g6⟩ := app_all o3 (fun k hk => hk.elim (fun e => by omega) (fun hh => hh.2)) (rd_one hs) (by simpa using hl)
  refine ⟨v3, w3, v6, w6, h3, b3, h6, b3.grown g6 b3.size (fun k hk => ?_), o6.rd.mono (fun k hk => ?_)⟩
  · rcases o3.base k hk with e | hh
    · omega
    · have := hh.1; rw [asz, asz] at this; omega
  · have hz6 := g6.size
    rcases hk with (hk | hk) | hk
    · exact ⟨by omega, by omega⟩
    · exact ⟨by have := hk.1; rw [asz, asz] at this; omega, by have := hk.2; omega⟩
    · exact ⟨by have := hk.1; omega, hk.2⟩
theorem path3 {A : Option Addr} {c : Nat} {ys : List Smp} (hy : Rd ks W F (.slice A ys.length c) ys) (hl : (ys.length + 1) * 80 ≤ 140737488355328) (x : Smp) :
    ∃ v3 w3 v6 w6, Apd ((W.alloc (sx x)).alloc e0) (.slice (some ⟨(W.alloc (sx x)).heap.size, 0, none⟩) 0 0) (.slice A ys.length c) v3 w3 ∧ Below W.heap.size W w3 ∧ Apd w3 v3 (.slice (some ⟨W.heap.size, 0, none⟩) 1 1) v6 w6 ∧ Below W.heap.size W w6 ∧ Rd ks w6 (fun k => W.heap.size ≤ k ∧ k < w6.heap.size) v6 (ys ++ [x]) := by
  have b1 : Below W.heap.size W ((W.alloc (sx x)).alloc e0) := ((Below.refl _ _).alloc (Nat.le_refl _) _).alloc (by rw [asz]; omega) _
  obtain ⟨v3, w3, h3, o3, g3⟩ := app_at (heap_alloc_new (W.alloc (sx x)) _) (rd_below hy b1) (by omega)
  have hs : w3.heap[W.heap.size]? = some (.cells (cells x).toArray 60 (0, 0)) := (g3.block _ (by rw [asz, asz]; omega) (fun e => by injection e with e; rw [asz] at e; omega)).trans (blk_alloc (heap_alloc_new W _) _)
  have b3 : Below W.heap.size W w3 := b1.grown g3 b1.size (fun k hk => by injection hk with hk; rw [asz] at hk; omega)
  have hz3 := g3.size
  rw [asz, asz] at hz3
  obtain ⟨v6, w6, h6, o6, g6⟩ := app_all o3 (fun k hk => hk.elim (fun e => by rw [asz] at e; omega) (fun hh => hh.2)) (rd_one hs) (by simpa using hl)
  refine ⟨v3, w3, v6, w6, h3, b3, h6, b3.grown g6 b3.size (fun k hk => ?_), o6.rd.mono (fun k hk => ?_)⟩
  · rcases o3.base k hk with e | hh
    · rw [asz] at e; omega
    · have := hh.1; rw [asz, asz] at this; omega
  · have hz6 := g6.size
    rcases hk with (hk | hk) | hk
    · rw [asz] at hk; exact ⟨by omega, by omega⟩
    · exact ⟨by have := hk.1; rw [asz, asz] at this; omega, by have := hk.2; omega⟩
    · exact ⟨by have := hk.1; omega, hk.2⟩
/-- The append behind a 'without', in both orders. -/
theorem path4 {v : Value} {zs : List Smp} {B : Nat} (hB : B ≤ W.heap.size) (ho : Own ks 60 W (fun k => B ≤ k ∧ k < W.heap.size) v zs) (hl : (zs.length + 1) * 80 ≤ 140737488355328) {s : Nat} {x : Smp} (hs : W.heap[s]? = some (.cells (cells x).toArray 60 (0, 0))) :
    ∃ v6 w6, Apd W v (.slice (some ⟨s, 0, none⟩) 1 1) v6 w6 ∧ Below B W w6 ∧ Rd ks w6 (fun k => (B ≤ k ∧ k < W.heap.size) ∨ (W.heap.size ≤ k ∧ k < w6.heap.size)) v6 (zs ++ [x]) := by
  obtain ⟨v6, w6, h6, o6, g6⟩ := app_all ho (fun k hk => hk.2) (rd_one hs) (by simpa using hl)
  refine ⟨v6, w6, h6, ⟨g6.os, g6.tape, g6.output, g6.size, fun k hk => g6.block k (by omega) (fun e => by have := (ho.base k e.symm).1; omega)⟩, o6.rd⟩
end
end Go.Proofs.Ytimalojaiaofkaa.Rng
