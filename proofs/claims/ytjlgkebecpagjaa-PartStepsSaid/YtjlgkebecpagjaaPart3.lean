import Derived.Test.YtjlgkebecpagjaaPart2
set_option linter.unusedVariables false
set_option linter.unusedSimpArgs false
namespace Go.Proofs.Ytjlgkebecpagjaa.Part
open Go.RowKit Base Sp Flat Go.Proofs.YtjlgkebecpagjaaW.PrintWords Go.Proofs.YtjlgkebecpagjaaW.PrintLast Go.Lib
/-- What New yields: a partition in block b, whose memory is in block g. -/
def NewP (mm ff : Int) (w : World) (e : Ending) (w' : World) : Prop := ∃ (b g : Nat) (F : Nat → Prop), e = .returned (.pointer (some ⟨b, 0, none⟩)) ∧ PB w' b 0 0 false (.pointer (some ⟨g, 0, none⟩)) (mx ff) ∧ Memory.MR w' F g (Memory.zeros (Memory.msz mm)) ∧ ¬ F b ∧ (∀ k, F k → w.heap.size ≤ k) ∧ w.heap.size ≤ b ∧ Below w.heap.size w w'
set_option maxRecDepth 20000 in
theorem new (nm : ByteArray) (lv ct mm ff : Int) (w : World) :
    Calls Try.prog 22 #[.agg #[.string nm, .int .i64 lv, .int .u64 ct, .int .i64 mm, .int .i64 ff]] w (NewP mm ff w) := by
  obtain ⟨W0, hW0⟩ : ∃ W0, W0 = w.alloc (.cells #[.string nm, .int .i64 lv, .int .u64 ct, .int .i64 mm, .int .i64 ff] 33) := ⟨_, rfl⟩
  have b0 : Below w.heap.size w W0 := by rw [hW0]; exact (Below.refl _ _).alloc (Nat.le_refl _) _
  have s0 : w.heap.size < W0.heap.size := by rw [hW0]; simp
  have e3 : W0.cell? ⟨w.heap.size, 3, none⟩ = some (.int .i64 mm) := by rw [hW0]; simp
  have e4 : W0.cell? ⟨w.heap.size, 4, none⟩ = some (.int .i64 ff) := by rw [hW0]; simp
  obtain ⟨q, hq⟩ : ∃ q, (if ff < 0 then 0 else ff) = q := ⟨_, rfl⟩
  have HQ : Hid (q = mx ff) := Lib.hid hq.symm
  go_enter Try.func22, Try.ntmps22
  go_wp2_with fail
  rw [← hW0]
  clear hW0
  refine Reg.wp_plan (S := fun w' => w'.cell? ⟨w.heap.size, 3, none⟩ = some (.int .i64 mm) ∧ w'.cell? ⟨w.heap.size, 4, none⟩ = some (.int .i64 ff)) 9 (.fl 0 (.fl 1 (.fl 3 (.fl 4 (.fl 5 (.one 2 (.fl 6 (.one 7 (.fl 8 .done))))))))) (by kernel_rfl) (by kernel_rfl) (by kernel_rfl) (by kernel_rfl) (fun _ _ _ d _ h => by cases d <;> exact h) ?_ (fun hHeld => ?_)
  · exact ⟨by simpa using e3, by simpa using e4⟩
  refine Reg.G_on (o := { dst := some 3, op := Op.fieldAddr 33 (Operand.tmp 1) 2, type := 0, pos := "part.go:54", after := #[], guard := Option.none }) (v := ?_) (by rfl) ?_ (fun wS hSw => ?_) ?_
  rotate_left
  · kernel_rfl
  · (try dsimp only at hSw); go_simp; (try with_reducible rfl)
  try simp only [Act.put, List.setIfInBounds_toArray, List.set_cons_zero, List.set_cons_succ]
  refine Reg.G_on (o := { dst := some 4, op := Op.load 3 (Operand.tmp 3), type := 3, pos := "part.go:54", after := #[{ on := 0, ground := Ground.data }], guard := Option.none }) (v := ?_) (by rfl) ?_ (fun wS hSw => ?_) ?_
  rotate_left
  · kernel_rfl
  · (try dsimp only at hSw); go_simp; (try with_reducible rfl)
  try simp only [Act.put, List.setIfInBounds_toArray, List.set_cons_zero, List.set_cons_succ]
  refine Reg.G_on (o := { dst := some 6, op := Op.fieldAddr 33 (Operand.tmp 1) 3, type := 0, pos := "part.go:54", after := #[], guard := Option.none }) (v := ?_) (by rfl) ?_ (fun wS hSw => ?_) ?_
  rotate_left
  · kernel_rfl
  · (try dsimp only at hSw); go_simp; (try with_reducible rfl)
  try simp only [Act.put, List.setIfInBounds_toArray, List.set_cons_zero, List.set_cons_succ]
  refine Reg.G_on (o := { dst := some 7, op := Op.load 3 (Operand.tmp 6), type := 3, pos := "part.go:54", after := #[{ on := 3, ground := Ground.data }], guard := Option.none }) (v := ?_) (by rfl) ?_ (fun wS hSw => ?_) ?_
  rotate_left
  · kernel_rfl
  · (try dsimp only at hSw); go_simp; (try with_reducible rfl)
  try simp only [Act.put, List.setIfInBounds_toArray, List.set_cons_zero, List.set_cons_succ]
  refine Reg.G_on (o := { dst := some 8, op := Op.call { callee := Callee.builtin Builtin.max, args := #[Operand.tmp 7, Operand.const (Value.int IntKind.i64 0)], argTypes := #[3, 3] }, type := 3, pos := "part.go:54", after := #[{ on := 4, ground := Ground.data }], guard := Option.none }) (v := ?_) (by rfl) ?_ (fun wS hSw => ?_) ?_
  rotate_left
  · kernel_rfl
  · (try dsimp only at hSw); go_simp; (try with_reducible rfl)
  try simp only [Act.put, List.setIfInBounds_toArray, List.set_cons_zero, List.set_cons_succ]
  refine Reg.G_step (o := { dst := some 5, op := Op.call { callee := Callee.value (Operand.func 69), args := #[Operand.tmp 4], argTypes := #[3] }, type := 54, pos := "part.go:54", after := #[{ on := 1, ground := Ground.data }], guard := Option.none }) (by rfl) ?_ (fun K hK => ?_)
  · kernel_rfl
  go_simp
  refine (Memory.new mm W0.drew).mono ?_
  rintro e w' ⟨rfl, hm, hb, hs⟩
  refine hK.out _ _ ?_ (fun hHeld => ?_)
  · exact ⟨cbel hb hHeld.1 s0, cbel hb hHeld.2 s0⟩
  clear hK K
  try simp only [Act.put, List.setIfInBounds_toArray, List.set_cons_zero, List.set_cons_succ]
  refine Reg.G_on (o := { dst := some 9, op := Op.build 56 #[(1, Operand.tmp 5), (2, Operand.tmp 8)], type := 56, pos := "part.go:54", after := #[{ on := 2, ground := Ground.data }, { on := 5, ground := Ground.data }], guard := Option.none }) (v := ?_) (by rfl) ?_ (fun wS hSw => ?_) ?_
  rotate_left
  · kernel_rfl
  · (try dsimp only at hSw); go_simp; (try with_reducible rfl)
  try simp only [Act.put, List.setIfInBounds_toArray, List.set_cons_zero, List.set_cons_succ]
  have h3 : w.heap.size < w'.heap.size := Nat.lt_of_lt_of_le s0 hb.size
  refine Reg.G_step (o := { dst := some 10, op := Op.box 56 (Operand.tmp 9), type := 35, pos := "part.go:54", after := #[{ on := 6, ground := Ground.data }], guard := Option.none }) (by rfl) ?_ (fun K hK => ?_)
  · kernel_rfl
  go_simp
  refine hK.out _ _ ?_ (fun hHeld => ?_)
  · exact ⟨cbel ((Below.refl _ _).alloc (Nat.le_refl _) _) hHeld.1 h3, cbel ((Below.refl _ _).alloc (Nat.le_refl _) _) hHeld.2 h3⟩
  clear hK K
  try simp only [Act.put, List.setIfInBounds_toArray, List.set_cons_zero, List.set_cons_succ]
  refine Reg.G_on (o := { dst := some 2, op := Op.assign (Operand.tmp 10), type := 35, pos := "part.go:54", after := #[{ on := 7, ground := Ground.data }, { on := 2, ground := Ground.chain }, { on := 0, ground := Ground.phase }, { on := 1, ground := Ground.phase }, { on := 2, ground := Ground.phase }, { on := 3, ground := Ground.phase }, { on := 4, ground := Ground.phase }, { on := 5, ground := Ground.phase }, { on := 6, ground := Ground.phase }, { on := 7, ground := Ground.phase }], guard := Option.none }) (v := ?_) (by rfl) ?_ (fun wS hSw => ?_) ?_
  rotate_left
  · kernel_rfl
  · (try dsimp only at hSw); go_simp; (try with_reducible rfl)
  try simp only [Act.put, List.setIfInBounds_toArray, List.set_cons_zero, List.set_cons_succ]
  refine Reg.G_done ?_
  go_wp2
  go_ret
  obtain rfl := HQ.out
  have hz : W0.heap.size + 1 < w'.heap.size := hs
  refine ⟨w'.heap.size, W0.heap.size + 1, _, rfl, heap_alloc_new _ _, hm.below ((Below.refl _ _).alloc (Nat.le_refl _) _), fun h => ?_, fun k hk => ?_, by omega, (bstep b0.drew hb).alloc (by omega) _⟩
  · have h : w'.heap.size = W0.heap.size ∨ w'.heap.size = W0.heap.size + 1 := h
    omega
  · have hk : k = W0.heap.size ∨ k = W0.heap.size + 1 := hk
    omega
end Go.Proofs.Ytjlgkebecpagjaa.Part
