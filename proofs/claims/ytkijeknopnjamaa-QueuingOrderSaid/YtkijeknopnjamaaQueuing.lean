import Derived.Test.YtkijeknopnjamaaFlat
import Derived.Test.YtkijeknopnjamaaRegion
set_option linter.unusedVariables false
set_option linter.unusedSimpArgs false
namespace Go.Proofs.Ytkijeknopnjamaa.Queuing
open Go.RowKit Base Sp Flat Go.Proofs.YtkijeknopnjamaaW.PrintWords

/-- A port in block b: its cells, and its messages. -/
def QP (w : World) (F : Nat → Prop) (b : Nat) (z d q : Int) (l : List ByteArray) (s x : Int) : Prop :=
  (∃ v, w.heap[b]? = some (.cells #[.int .i64 z, .int .i64 d, .int .i64 q, v, .int .i64 s, .int .u64 x] 78 (0, 0)) ∧ Own Kd.string 9 w (fun k => F k ∧ k ≠ b) v l) ∧ F b ∧ ∀ k, F k → k < w.heap.size

theorem QP.cells {w : World} {F : Nat → Prop} {b : Nat} {z d q : Int} {l : List ByteArray} {s x : Int} (h : QP w F b z d q l s x) :
    ∃ A c, (w.heap[b]? = some (.cells #[.int .i64 z, .int .i64 d, .int .i64 q, .slice A l.length c, .int .i64 s, .int .u64 x] 78 (0, 0)) ∧ Own Kd.string 9 w (fun k => F k ∧ k ≠ b) (.slice A l.length c) l) ∧
      w.cell? ⟨b, 0, none⟩ = some (.int .i64 z) ∧ w.cell? ⟨b, 1, none⟩ = some (.int .i64 d) ∧ w.cell? ⟨b, 2, none⟩ = some (.int .i64 q) ∧ w.cell? ⟨b, 3, none⟩ = some (.slice A l.length c) ∧ w.cell? ⟨b, 4, none⟩ = some (.int .i64 s) ∧ w.cell? ⟨b, 5, none⟩ = some (.int .u64 x) ∧
      w.frozen? ⟨b, 3, none⟩ = false ∧ w.frozen? ⟨b, 4, none⟩ = false ∧ w.frozen? ⟨b, 5, none⟩ = false ∧ b < w.heap.size := by
  obtain ⟨⟨v, hb, ho⟩, hF, hlt⟩ := h
  obtain ⟨A, c, rfl, hl, hC⟩ := ho.rd.get
  exact ⟨A, c, ⟨hb, ho⟩, blk_cell hb 0, blk_cell hb 1, blk_cell hb 2, blk_cell hb 3, blk_cell hb 4, blk_cell hb 5, blk_frozen hb 3, blk_frozen hb 4, blk_frozen hb 5, hlt b hF⟩

theorem QP.same {w w' : World} {F : Nat → Prop} {b : Nat} {z d q : Int} {l : List ByteArray} {s x : Int} (h : QP w F b z d q l s x) (hs : Same F w w') (hz : w.heap.size ≤ w'.heap.size) : QP w' F b z d q l s x := by
  obtain ⟨⟨v, hb, ho⟩, hF, hlt⟩ := h
  exact ⟨⟨v, (hs b hF).trans hb, ho.same flat_string (fun k hk => hs k hk.1)⟩, hF, fun k hk => Nat.lt_of_lt_of_le (hlt k hk) hz⟩
theorem QP.lt {w : World} {F : Nat → Prop} {b : Nat} {z d q : Int} {l : List ByteArray} {s x : Int} (h : QP w F b z d q l s x) : ∀ k, F k → k < w.heap.size := h.2.2
/-- Behind a write of another object's. -/
theorem QP.far {w w' : World} {F G : Nat → Prop} {b : Nat} {z d q : Int} {l : List ByteArray} {s x : Int} (h : QP w F b z d q l s x) (hm : Mod G w w') (hd : ∀ k, F k → ¬ G k) : QP w' F b z d q l s x :=
  h.same (hm.same h.lt hd) hm.size
theorem QP.below {w w' : World} {F : Nat → Prop} {b : Nat} {z d q : Int} {l : List ByteArray} {s x : Int} (h : QP w F b z d q l s x) (hb : Below w.heap.size w w') : QP w' F b z d q l s x :=
  h.same (Same.of hb h.lt) hb.size
theorem QP.mono {w : World} {F G : Nat → Prop} {b : Nat} {z d q : Int} {l : List ByteArray} {s x : Int} (h : QP w F b z d q l s x) (hF : ∀ k, F k → G k) (hG : ∀ k, G k → k < w.heap.size) : QP w G b z d q l s x := by
  obtain ⟨⟨v, hb, ho⟩, hf, hlt⟩ := h
  exact ⟨⟨v, hb, ho.mono (fun k hk => ⟨hF k hk.1, hk.2⟩)⟩, hF b hf, hG⟩
theorem QP.new (w : World) (z d q : Int) : QP (w.alloc (.cells #[.int .i64 z, .int .i64 d, .int .i64 q, .slice none 0 0, .int .i64 0, .int .u64 0] 78)) (fun k => k = w.heap.size) w.heap.size z d q [] 0 0 :=
  ⟨⟨.slice none 0 0, heap_alloc_new w _, Own.nil _ _ _ _⟩, rfl, fun k hk => by subst hk; simp⟩

def mx (n : Int) : Int := if n < 0 then 0 else n
theorem new (z d q : Int) (w : World) :
    Calls Try.prog 30 #[.int .i64 z, .int .i64 d, .int .i64 q] w fun e w' => e = .returned (.pointer (some ⟨w.heap.size, 0, none⟩)) ∧
      w' = w.alloc (.cells #[.int .i64 (mx z), .int .i64 (mx d), .int .i64 (mx q), .slice none 0 0, .int .i64 0, .int .u64 0] 78) := by
  unfold mx
  by_cases hz : z < 0 <;> by_cases hd : d < 0 <;> by_cases hq : q < 0
  all_goals
    simp only [hz, hd, hq, if_true, if_false]
    go_enter Try.func30, Try.ntmps30
    go_wp2
    go_ret
    exact ⟨rfl, rfl⟩
theorem frame_nil (w : World) : Calls Try.prog 34 #[.pointer none] w fun e w' => e = .returned (.tuple #[]) ∧ w = w' := by
  go_enter Try.func34, Try.ntmps34
  go_wp2
  go_end0
  exact ⟨rfl, rfl⟩
theorem QP.drew {w : World} {F : Nat → Prop} {b : Nat} {z d q : Int} {l : List ByteArray} {s x : Int} (h : QP w F b z d q l s x) : QP w.drew F b z d q l s x :=
  h.same (fun _ _ => rfl) (Nat.le_refl _)
theorem QP.put3 {w : World} {F : Nat → Prop} {b : Nat} {z d q : Int} {l : List ByteArray} {s x : Int} {v v' : Value} (hb : w.heap[b]? = some (.cells #[.int .i64 z, .int .i64 d, .int .i64 q, v, .int .i64 s, .int .u64 x] 78 (0, 0)))
    (ho : Own Kd.string 9 w (fun k => F k ∧ k ≠ b) v' l) (hF : F b) (hlt : ∀ k, F k → k < w.heap.size) : QP (w.setCell ⟨b, 3, none⟩ v') F b z d q l s x :=
  ⟨⟨v', by simpa using blk_set hb 3 v', ho.same flat_string (fun k hk => Below.heap_setCell _ _ _ _ hk.2)⟩, hF, fun k hk => by simpa using hlt k hk⟩
theorem QP.put4 {w : World} {F : Nat → Prop} {b : Nat} {z d q : Int} {l : List ByteArray} {s x : Int} (h : QP w F b z d q l s x) (s' : Int) : QP (w.setCell ⟨b, 4, none⟩ (.int .i64 s')) F b z d q l s' x := by
  obtain ⟨⟨v, hb, ho⟩, hF, hlt⟩ := h
  exact ⟨⟨v, by simpa using blk_set hb 4 (.int .i64 s'), ho.same flat_string (fun k hk => Below.heap_setCell _ _ _ _ hk.2)⟩, hF, fun k hk => by simpa using hlt k hk⟩
theorem QP.put5 {w : World} {F : Nat → Prop} {b : Nat} {z d q : Int} {l : List ByteArray} {s x : Int} (h : QP w F b z d q l s x) (x' : Int) : QP (w.setCell ⟨b, 5, none⟩ (.int .u64 x')) F b z d q l s x' := by
  obtain ⟨⟨v, hb, ho⟩, hF, hlt⟩ := h
  exact ⟨⟨v, by simpa using blk_set hb 5 (.int .u64 x'), ho.same flat_string (fun k hk => Below.heap_setCell _ _ _ _ hk.2)⟩, hF, fun k hk => by simpa using hlt k hk⟩
theorem cut_ (F : Nat → Prop) (b : Nat) (z d q : Int) (m : ByteArray) (l : List ByteArray) (s x : Int) (w : World) (h : QP w F b z d q (m :: l) s x) :
    Calls Try.prog 53 #[.pointer (some ⟨b, 0, none⟩)] w fun e w' => e = .returned (.string m) ∧ QP w' F b z d q l s x ∧ Mod F w w' := by
  obtain ⟨A, c, ⟨hb, ho⟩, c0, c1, c2, c3, c4, c5, f3, f4, f5, hlt⟩ := h.cells
  have hF := h.2.1
  have hFl := h.2.2
  obtain ⟨A', c', e1, hl, ho2⟩ := ho.rd.cut (e := 9) (k := 1) (by simp)
  injection e1 with e1 _ e3
  subst e1 e3
  have hC := (ho.rd.get)
  obtain ⟨A', c', e1, _, hC⟩ := hC
  injection e1 with e1 _ e3
  subst e1 e3
  obtain ⟨ad, rfl, hm⟩ := Kd.at_string hC 0 (by omega) (by simp)
  have hm1 : w.cell? ad = some (.string m) := hm
  have hlen : (m :: l).length = l.length + 1 := rfl
  have hmax := hC.2.1
  rw [hlen] at c3 hl hmax
  have k1 : (0 : Int) ≤ (l.length : Int) + 1 := by omega
  have k2 : (1 : Int) ≤ (l.length : Int) + 1 := by omega
  have k3 : (l.length : Int) + 1 ≤ (c : Int) := by omega
  have HO : Own Kd.string 9 w (fun k => F k ∧ k ≠ b) (.slice (if l = [] then some ad else some ⟨ad.block, ad.off + 1, none⟩) l.length l.length) l := by
    rw [hlen] at ho2
    have e : (if l.length + 1 = 1 then some ad else (some ad).map (·.add (1 * (Kd.string).sz))) = if l = [] then some ad else some ⟨ad.block, ad.off + 1, none⟩ := by
      cases l <;> rfl
    rw [e] at ho2
    exact ho2
  clear hm hlen hC ho2 ho h
  go_enter Try.func53, Try.ntmps53
  go_wp2_with fail
  refine Reg.wp_plan (S := fun w' => w'.cell? ⟨b, 3, none⟩ = some (.slice (some ad) (l.length + 1) c) ∧ w'.frozen? ⟨b, 3, none⟩ = false) 18 (.fl 0 (.fl 1 (.fl 2 (.fl 3 (.fl 4 (.fl 5 (.fl 6 (.fl 7 (.fl 8 (.fl 9 (.fl 10 (.fl 11 (.fl 12 (.fl 13 (.fl 14 (.fl 15 (.fl 16 (.fl 17 (.one 18 .done))))))))))))))))))) (by kernel_rfl) (by kernel_rfl) (by kernel_rfl) (by kernel_rfl) (fun _ _ _ d _ h => by cases d <;> exact h) ?_ (fun hHeld => ?_)
  · exact ⟨by simpa using c3, by simpa using f3⟩
  refine Reg.G_on (o := { dst := some 10, op := Op.move (Operand.tmp 0), type := 59, pos := "queuing.go:22", after := #[], guard := Option.none }) (v := ?_) (by rfl) ?_ (fun wS hSw => ?_) ?_
  rotate_left
  · kernel_rfl
  · (try dsimp only at hSw); go_simp; (try with_reducible rfl)
  try simp only [Act.put, List.setIfInBounds_toArray, List.set_cons_zero, List.set_cons_succ]
  refine Reg.G_on (o := { dst := some 11, op := Op.move (Operand.tmp 0), type := 59, pos := "queuing.go:22", after := #[], guard := Option.none }) (v := ?_) (by rfl) ?_ (fun wS hSw => ?_) ?_
  rotate_left
  · kernel_rfl
  · (try dsimp only at hSw); go_simp; (try with_reducible rfl)
  try simp only [Act.put, List.setIfInBounds_toArray, List.set_cons_zero, List.set_cons_succ]
  refine Reg.G_on (o := { dst := some 12, op := Op.nilCheck (Operand.tmp 11), type := 0, pos := "queuing.go:22", after := #[{ on := 1, ground := Ground.data }], guard := Option.none }) (v := ?_) (by rfl) ?_ (fun wS hSw => ?_) ?_
  rotate_left
  · kernel_rfl
  · (try dsimp only at hSw); go_simp; (try with_reducible rfl)
  try simp only [Act.put, List.setIfInBounds_toArray, List.set_cons_zero, List.set_cons_succ]
  refine Reg.G_on (o := { dst := some 13, op := Op.fieldAddr 78 (Operand.tmp 12) 3, type := 0, pos := "queuing.go:22", after := #[{ on := 2, ground := Ground.data }], guard := Option.none }) (v := ?_) (by rfl) ?_ (fun wS hSw => ?_) ?_
  rotate_left
  · kernel_rfl
  · (try dsimp only at hSw); go_simp; (try with_reducible rfl)
  try simp only [Act.put, List.setIfInBounds_toArray, List.set_cons_zero, List.set_cons_succ]
  refine Reg.G_on (o := { dst := some 14, op := Op.load 67 (Operand.tmp 13), type := 67, pos := "queuing.go:22", after := #[{ on := 3, ground := Ground.data }], guard := Option.none }) (v := ?_) (by rfl) ?_ (fun wS hSw => ?_) ?_
  rotate_left
  · kernel_rfl
  · (try dsimp only at hSw); go_simp; (try with_reducible rfl)
  try simp only [Act.put, List.setIfInBounds_toArray, List.set_cons_zero, List.set_cons_succ]
  refine Reg.G_on (o := { dst := some 15, op := Op.move (Operand.tmp 0), type := 59, pos := "queuing.go:22", after := #[], guard := Option.none }) (v := ?_) (by rfl) ?_ (fun wS hSw => ?_) ?_
  rotate_left
  · kernel_rfl
  · (try dsimp only at hSw); go_simp; (try with_reducible rfl)
  try simp only [Act.put, List.setIfInBounds_toArray, List.set_cons_zero, List.set_cons_succ]
  refine Reg.G_on (o := { dst := some 16, op := Op.nilCheck (Operand.tmp 15), type := 0, pos := "queuing.go:22", after := #[{ on := 5, ground := Ground.data }], guard := Option.none }) (v := ?_) (by rfl) ?_ (fun wS hSw => ?_) ?_
  rotate_left
  · kernel_rfl
  · (try dsimp only at hSw); go_simp; (try with_reducible rfl)
  try simp only [Act.put, List.setIfInBounds_toArray, List.set_cons_zero, List.set_cons_succ]
  refine Reg.G_on (o := { dst := some 17, op := Op.fieldAddr 78 (Operand.tmp 16) 3, type := 0, pos := "queuing.go:22", after := #[{ on := 6, ground := Ground.data }], guard := Option.none }) (v := ?_) (by rfl) ?_ (fun wS hSw => ?_) ?_
  rotate_left
  · kernel_rfl
  · (try dsimp only at hSw); go_simp; (try with_reducible rfl)
  try simp only [Act.put, List.setIfInBounds_toArray, List.set_cons_zero, List.set_cons_succ]
  refine Reg.G_on (o := { dst := some 18, op := Op.load 67 (Operand.tmp 17), type := 67, pos := "queuing.go:22", after := #[{ on := 7, ground := Ground.data }], guard := Option.none }) (v := ?_) (by rfl) ?_ (fun wS hSw => ?_) ?_
  rotate_left
  · kernel_rfl
  · (try dsimp only at hSw); go_simp; (try with_reducible rfl)
  try simp only [Act.put, List.setIfInBounds_toArray, List.set_cons_zero, List.set_cons_succ]
  refine Reg.G_on (o := { dst := some 19, op := Op.call { callee := Callee.builtin Builtin.len, args := #[Operand.tmp 18], argTypes := #[67] }, type := 3, pos := "queuing.go:22", after := #[{ on := 8, ground := Ground.data }], guard := Option.none }) (v := ?_) (by rfl) ?_ (fun wS hSw => ?_) ?_
  rotate_left
  · kernel_rfl
  · (try dsimp only at hSw); go_simp; (try with_reducible rfl)
  try simp only [Act.put, List.setIfInBounds_toArray, List.set_cons_zero, List.set_cons_succ]
  refine Reg.G_on (o := { dst := some 20, op := Op.move (Operand.tmp 0), type := 59, pos := "queuing.go:22", after := #[], guard := Option.none }) (v := ?_) (by rfl) ?_ (fun wS hSw => ?_) ?_
  rotate_left
  · kernel_rfl
  · (try dsimp only at hSw); go_simp; (try with_reducible rfl)
  try simp only [Act.put, List.setIfInBounds_toArray, List.set_cons_zero, List.set_cons_succ]
  refine Reg.G_on (o := { dst := some 21, op := Op.nilCheck (Operand.tmp 20), type := 0, pos := "queuing.go:22", after := #[{ on := 10, ground := Ground.data }], guard := Option.none }) (v := ?_) (by rfl) ?_ (fun wS hSw => ?_) ?_
  rotate_left
  · kernel_rfl
  · (try dsimp only at hSw); go_simp; (try with_reducible rfl)
  try simp only [Act.put, List.setIfInBounds_toArray, List.set_cons_zero, List.set_cons_succ]
  refine Reg.G_on (o := { dst := some 22, op := Op.fieldAddr 78 (Operand.tmp 21) 3, type := 0, pos := "queuing.go:22", after := #[{ on := 11, ground := Ground.data }], guard := Option.none }) (v := ?_) (by rfl) ?_ (fun wS hSw => ?_) ?_
  rotate_left
  · kernel_rfl
  · (try dsimp only at hSw); go_simp; (try with_reducible rfl)
  try simp only [Act.put, List.setIfInBounds_toArray, List.set_cons_zero, List.set_cons_succ]
  refine Reg.G_on (o := { dst := some 23, op := Op.load 67 (Operand.tmp 22), type := 67, pos := "queuing.go:22", after := #[{ on := 12, ground := Ground.data }], guard := Option.none }) (v := ?_) (by rfl) ?_ (fun wS hSw => ?_) ?_
  rotate_left
  · kernel_rfl
  · (try dsimp only at hSw); go_simp; (try with_reducible rfl)
  try simp only [Act.put, List.setIfInBounds_toArray, List.set_cons_zero, List.set_cons_succ]
  refine Reg.G_on (o := { dst := some 24, op := Op.call { callee := Callee.builtin Builtin.len, args := #[Operand.tmp 23], argTypes := #[67] }, type := 3, pos := "queuing.go:22", after := #[{ on := 13, ground := Ground.data }], guard := Option.none }) (v := ?_) (by rfl) ?_ (fun wS hSw => ?_) ?_
  rotate_left
  · kernel_rfl
  · (try dsimp only at hSw); go_simp; (try with_reducible rfl)
  try simp only [Act.put, List.setIfInBounds_toArray, List.set_cons_zero, List.set_cons_succ]
  refine Reg.G_on (o := { dst := some 25, op := Op.slice 67 (Operand.tmp 14) (some (Operand.const (Value.int IntKind.i64 1))) (some (Operand.tmp 19)) (some (Operand.tmp 24)), type := 67, pos := "queuing.go:22", after := #[{ on := 4, ground := Ground.data }, { on := 9, ground := Ground.data }, { on := 14, ground := Ground.data }], guard := Option.none }) (v := ?_) (by rfl) ?_ (fun wS hSw => ?_) ?_
  rotate_left
  · kernel_rfl
  · (try dsimp only at hSw); go_simp; (try with_reducible rfl)
  try simp only [Act.put, List.setIfInBounds_toArray, List.set_cons_zero, List.set_cons_succ]
  refine Reg.G_on (o := { dst := some 26, op := Op.nilCheck (Operand.tmp 10), type := 0, pos := "queuing.go:22", after := #[{ on := 0, ground := Ground.data }, { on := 0, ground := Ground.phase }, { on := 1, ground := Ground.phase }, { on := 2, ground := Ground.phase }, { on := 3, ground := Ground.phase }, { on := 4, ground := Ground.phase }, { on := 5, ground := Ground.phase }, { on := 6, ground := Ground.phase }, { on := 7, ground := Ground.phase }, { on := 8, ground := Ground.phase }, { on := 9, ground := Ground.phase }, { on := 10, ground := Ground.phase }, { on := 11, ground := Ground.phase }, { on := 12, ground := Ground.phase }, { on := 13, ground := Ground.phase }, { on := 14, ground := Ground.phase }, { on := 15, ground := Ground.phase }], guard := Option.none }) (v := ?_) (by rfl) ?_ (fun wS hSw => ?_) ?_
  rotate_left
  · kernel_rfl
  · (try dsimp only at hSw); go_simp; (try with_reducible rfl)
  try simp only [Act.put, List.setIfInBounds_toArray, List.set_cons_zero, List.set_cons_succ]
  refine Reg.G_on (o := { dst := some 27, op := Op.fieldAddr 78 (Operand.tmp 26) 3, type := 0, pos := "queuing.go:22", after := #[{ on := 16, ground := Ground.data }, { on := 0, ground := Ground.phase }, { on := 1, ground := Ground.phase }, { on := 2, ground := Ground.phase }, { on := 3, ground := Ground.phase }, { on := 4, ground := Ground.phase }, { on := 5, ground := Ground.phase }, { on := 6, ground := Ground.phase }, { on := 7, ground := Ground.phase }, { on := 8, ground := Ground.phase }, { on := 9, ground := Ground.phase }, { on := 10, ground := Ground.phase }, { on := 11, ground := Ground.phase }, { on := 12, ground := Ground.phase }, { on := 13, ground := Ground.phase }, { on := 14, ground := Ground.phase }, { on := 15, ground := Ground.phase }], guard := Option.none }) (v := ?_) (by rfl) ?_ (fun wS hSw => ?_) ?_
  rotate_left
  · kernel_rfl
  · (try dsimp only at hSw); go_simp; (try with_reducible rfl)
  try simp only [Act.put, List.setIfInBounds_toArray, List.set_cons_zero, List.set_cons_succ]
  refine Reg.G_last (o := { dst := Option.none, op := Op.store 67 (Operand.tmp 27) (Operand.tmp 25), type := 0, pos := "queuing.go:22", after := #[{ on := 17, ground := Ground.data }, { on := 15, ground := Ground.data }, { on := 0, ground := Ground.phase }, { on := 1, ground := Ground.phase }, { on := 2, ground := Ground.phase }, { on := 3, ground := Ground.phase }, { on := 4, ground := Ground.phase }, { on := 5, ground := Ground.phase }, { on := 6, ground := Ground.phase }, { on := 7, ground := Ground.phase }, { on := 8, ground := Ground.phase }, { on := 9, ground := Ground.phase }, { on := 10, ground := Ground.phase }, { on := 11, ground := Ground.phase }, { on := 12, ground := Ground.phase }, { on := 13, ground := Ground.phase }, { on := 14, ground := Ground.phase }, { on := 15, ground := Ground.phase }], guard := Option.none }) (by rfl) (by rfl) ?_ (fun K hK => ?_)
  · kernel_rfl
  go_simp
  refine hK.out _ _ ?_
  clear hK K
  try simp only [Act.put, List.setIfInBounds_toArray, List.set_cons_zero, List.set_cons_succ]
  go_wp2
  all_goals
    go_ret
    refine ⟨rfl, QP.drew (QP.put3 hb ?_ hF hFl), ((Mod.refl _ _).set (.inl hF) _).drew⟩
    first | exact HO | simpa using HO | simp_all
/-- What waits behind a Send. -/
def nl (d : Int) (l : List ByteArray) (m : ByteArray) : List ByteArray := if (l.length : Int) + 1 ≤ d then l ++ [m] else (l ++ [m]).tail
/-- What is lost behind a Send. -/
def nx (d : Int) (l : List ByteArray) (x : Int) : Int := if (l.length : Int) + 1 ≤ d then x else x + 1
def QPs (F : Nat → Prop) (b : Nat) (z d q : Int) (l : List ByteArray) (s x : Int) (w w' : World) : Prop := (∃ F', QP w' F' b z d q l s x ∧ Grow F F' w) ∧ Mod F w w'
set_option maxRecDepth 20000 in
set_option maxHeartbeats 1000000 in
theorem send_ok (F : Nat → Prop) (b : Nat) (z d q : Int) (m : ByteArray) (l : List ByteArray) (s x : Int) (w : World) (h : QP w F b z d q l s x) (hm : (m.size : Int) ≤ z) (hs : s < q) (hs0 : 0 ≤ s) (hq : q < 9223372036854775808)
    (hl : l.length ≤ 1000) (hx0 : 0 ≤ x) (hx : x ≤ 1000) :
    Calls Try.prog 32 #[.pointer (some ⟨b, 0, none⟩), .string m] w fun e w' => e = .returned (.int .i64 0) ∧ QPs F b z d q (nl d l m) (s + 1) (nx d l x) w w' := by
  obtain ⟨A, c, ⟨hb, ho⟩, c0, c1, c2, c3, c4, c5, f3, f4, f5, hlt⟩ := h.cells
  have hF := h.2.1
  have hFl := h.2.2
  have hw : IntKind.i64.wrap (s + 1) = s + 1 := wrapi64 (by omega) (by omega)
  have hw2 : IntKind.u64.wrap (x + 1) = x + 1 := wrapu64 (by omega) (by omega)
  have hdd : decide (q ≤ s) = false := decide_eq_false (by omega)
  clear hq
  obtain ⟨W, hW⟩ : ∃ W, W = (w.setCell ⟨b, 4, none⟩ (.int .i64 (s + 1))).drew := ⟨_, rfl⟩
  have hWs : W.heap.size = w.heap.size := by rw [hW]; simp
  have hbW : W.heap[b]? = some (.cells #[.int .i64 z, .int .i64 d, .int .i64 q, .slice A l.length c, .int .i64 (s + 1), .int .u64 x] 78 (0, 0)) := by
    have h0 := blk_set hb 4 (.int .i64 (s + 1))
    simp only [List.setIfInBounds_toArray, List.set_cons_zero, List.set_cons_succ] at h0
    rw [hW]
    exact h0
  have hMW : Mod F w W := by rw [hW]; exact ((Mod.refl F w).set (.inl hF) _).drew
  have hoW : Own Kd.string 9 W (fun k => F k ∧ k ≠ b) (.slice A l.length c) l := by
    rw [hW]
    exact ho.same flat_string (fun k hk => Below.heap_setCell _ _ _ _ hk.2)
  obtain ⟨v1, w1, hrun, ho1, hg1, hs1⟩ := hoW.append (P := Try.prog) flat_string 67 67 (.string ⟨#[]⟩) 16 Try.underlying67 (by kernel_rfl) rfl (by decide) (by decide) m [.string m] rfl (fun k hk => by rw [hWs]; exact hFl k hk.1) (by omega)
  have hb1 : w1.heap[b]? = some (.cells #[.int .i64 z, .int .i64 d, .int .i64 q, .slice A l.length c, .int .i64 (s + 1), .int .u64 x] 78 (0, 0)) := by
    rw [hg1.block b (by omega) (hoW.away (fun h => h.2 rfl))]
    exact hbW
  have hM1 : Mod F w w1 := hMW.grown hg1 (fun k hk => .inl (hoW.base k hk).1)
  have hrun' : (Builtin.append_ #[67, 67] 67 #[.slice A l.length c, .slice (some ⟨w.heap.size, 0, none⟩) 1 1]).run Try.prog ((w.setCell ⟨b, 4, none⟩ (.int .i64 (s + 1))).alloc (.cells #[.string m] 9)).drew = .ok v1 w1 := by
    rw [hWs] at hrun
    rw [hW] at hrun
    exact hrun
  have HR := Lib.hid hrun'
  obtain ⟨A1, c', rfl, hl1, hC1⟩ := ho1.rd.get
  have hlen : (l ++ [m]).length = l.length + 1 := by simp
  have ho2 : Own Kd.string 9 w1 (fun k => (F k ∨ (w.heap.size ≤ k ∧ k < w1.heap.size)) ∧ k ≠ b) (.slice A1 (l.length + 1) c') (l ++ [m]) := by
    rw [hlen, hWs] at ho1
    exact ho1.mono (fun k hk => by
      rcases hk with h | h
      · exact ⟨.inl h.1, h.2⟩
      · exact ⟨.inr h, by omega⟩)
  rw [hlen] at HR hl1
  have HQ : QP (w1.setCell ⟨b, 3, none⟩ (.slice A1 (l.length + 1) c')) (fun k => F k ∨ (w.heap.size ≤ k ∧ k < w1.heap.size)) b z d q (l ++ [m]) (s + 1) x :=
    QP.put3 hb1 ho2 (.inl hF) (fun k hk => hk.elim (fun h => by have := hFl k h; omega) (fun h => h.2))
  have hMQ : Mod F w (w1.setCell ⟨b, 3, none⟩ (.slice A1 (l.length + 1) c')) := hM1.set (.inl hF) _
  have hGr : Grow F (fun k => F k ∨ (w.heap.size ≤ k ∧ k < w1.heap.size)) w := fun k hk => hk.elim .inl (fun h => .inr h.1)
  have d1 := blk_cell hb1 1
  have d3 := blk_cell hb1 3
  have d5 := blk_cell hb1 5
  have e3 := blk_frozen hb1 3
  have e5 := blk_frozen hb1 5
  have d1' : w1.cell? ⟨b, 1, none⟩ = some (.int .i64 d) := d1
  have d3' : w1.cell? ⟨b, 3, none⟩ = some (.slice A l.length c) := d3
  clear hrun hrun' hW hWs hbW hMW hoW ho1 ho2 hb1 hM1 hg1 d1 d3 d5 hC1 h hb ho hlen hl1 hs1
  by_cases hd : (l.length : Int) + 1 ≤ d
  · have hdd2 : decide (d < (l.length : Int) + 1) = false := decide_eq_false (by omega)
    go_enter Try.func32, Try.ntmps32
    go_wp2_with fail
    refine Reg.wp_plan (S := fun w' => w'.cell? ⟨b, 4, none⟩ = some (.int .i64 s) ∧ w'.cell? ⟨b, 2, none⟩ = some (.int .i64 q)) 10 (.fl 0 (.fl 1 (.fl 2 (.fl 3 (.fl 4 (.fl 5 (.fl 6 (.fl 7 (.fl 8 (.fl 9 .done)))))))))) (by kernel_rfl) (by kernel_rfl) (by kernel_rfl) (by kernel_rfl) (fun _ _ _ d _ h => by cases d <;> exact h) ?_ (fun hHeld => ?_)
    · exact ⟨by simpa using c4, by simpa using c2⟩
    refine Reg.G_on (o := { dst := some 17, op := Op.move (Operand.tmp 0), type := 59, pos := "queuing.go:33", after := #[], guard := Option.none }) (v := ?_) (by rfl) ?_ (fun wS hSw => ?_) ?_
    rotate_left
    · kernel_rfl
    · (try dsimp only at hSw); go_simp; (try with_reducible rfl)
    try simp only [Act.put, List.setIfInBounds_toArray, List.set_cons_zero, List.set_cons_succ]
    refine Reg.G_on (o := { dst := some 18, op := Op.nilCheck (Operand.tmp 17), type := 0, pos := "queuing.go:33", after := #[{ on := 0, ground := Ground.data }], guard := Option.none }) (v := ?_) (by rfl) ?_ (fun wS hSw => ?_) ?_
    rotate_left
    · kernel_rfl
    · (try dsimp only at hSw); go_simp; (try with_reducible rfl)
    try simp only [Act.put, List.setIfInBounds_toArray, List.set_cons_zero, List.set_cons_succ]
    refine Reg.G_on (o := { dst := some 19, op := Op.fieldAddr 78 (Operand.tmp 18) 4, type := 0, pos := "queuing.go:33", after := #[{ on := 1, ground := Ground.data }], guard := Option.none }) (v := ?_) (by rfl) ?_ (fun wS hSw => ?_) ?_
    rotate_left
    · kernel_rfl
    · (try dsimp only at hSw); go_simp; (try with_reducible rfl)
    try simp only [Act.put, List.setIfInBounds_toArray, List.set_cons_zero, List.set_cons_succ]
    refine Reg.G_on (o := { dst := some 20, op := Op.load 3 (Operand.tmp 19), type := 3, pos := "queuing.go:33", after := #[{ on := 2, ground := Ground.data }], guard := Option.none }) (v := ?_) (by rfl) ?_ (fun wS hSw => ?_) ?_
    rotate_left
    · kernel_rfl
    · (try dsimp only at hSw); go_simp; (try with_reducible rfl)
    try simp only [Act.put, List.setIfInBounds_toArray, List.set_cons_zero, List.set_cons_succ]
    refine Reg.G_on (o := { dst := some 21, op := Op.move (Operand.tmp 0), type := 59, pos := "queuing.go:33", after := #[], guard := Option.none }) (v := ?_) (by rfl) ?_ (fun wS hSw => ?_) ?_
    rotate_left
    · kernel_rfl
    · (try dsimp only at hSw); go_simp; (try with_reducible rfl)
    try simp only [Act.put, List.setIfInBounds_toArray, List.set_cons_zero, List.set_cons_succ]
    refine Reg.G_on (o := { dst := some 22, op := Op.nilCheck (Operand.tmp 21), type := 0, pos := "queuing.go:33", after := #[{ on := 4, ground := Ground.data }], guard := Option.none }) (v := ?_) (by rfl) ?_ (fun wS hSw => ?_) ?_
    rotate_left
    · kernel_rfl
    · (try dsimp only at hSw); go_simp; (try with_reducible rfl)
    try simp only [Act.put, List.setIfInBounds_toArray, List.set_cons_zero, List.set_cons_succ]
    refine Reg.G_on (o := { dst := some 23, op := Op.fieldAddr 78 (Operand.tmp 22) 2, type := 0, pos := "queuing.go:33", after := #[{ on := 5, ground := Ground.data }], guard := Option.none }) (v := ?_) (by rfl) ?_ (fun wS hSw => ?_) ?_
    rotate_left
    · kernel_rfl
    · (try dsimp only at hSw); go_simp; (try with_reducible rfl)
    try simp only [Act.put, List.setIfInBounds_toArray, List.set_cons_zero, List.set_cons_succ]
    refine Reg.G_on (o := { dst := some 24, op := Op.load 3 (Operand.tmp 23), type := 3, pos := "queuing.go:33", after := #[{ on := 6, ground := Ground.data }], guard := Option.none }) (v := ?_) (by rfl) ?_ (fun wS hSw => ?_) ?_
    rotate_left
    · kernel_rfl
    · (try dsimp only at hSw); go_simp; (try with_reducible rfl)
    try simp only [Act.put, List.setIfInBounds_toArray, List.set_cons_zero, List.set_cons_succ]
    refine Reg.G_on (o := { dst := some 25, op := Op.binOp BinOp.geq 3 (Operand.tmp 20) (Operand.tmp 24) 3, type := 4, pos := "queuing.go:33", after := #[{ on := 3, ground := Ground.data }, { on := 7, ground := Ground.data }], guard := Option.none }) (v := ?_) (by rfl) ?_ (fun wS hSw => ?_) ?_
    rotate_left
    · kernel_rfl
    · (try dsimp only at hSw); go_simp; (try with_reducible rfl)
    try simp only [Act.put, List.setIfInBounds_toArray, List.set_cons_zero, List.set_cons_succ]
    refine Reg.G_on (o := { dst := some 16, op := Op.assign (Operand.tmp 25), type := 4, pos := "queuing.go:33", after := #[{ on := 8, ground := Ground.data }], guard := Option.none }) (v := ?_) (by rfl) ?_ (fun wS hSw => ?_) ?_
    rotate_left
    · kernel_rfl
    · (try dsimp only at hSw); go_simp; (try with_reducible rfl)
    try simp only [Act.put, List.setIfInBounds_toArray, List.set_cons_zero, List.set_cons_succ]
    refine Reg.G_done ?_
    clear hHeld
    go_wp2_with (at_builtin; refine wp_append rfl _ _ _ rfl rfl rfl HR.out ?_)
    refine Reg.wp_plan (S := fun w' => w'.cell? ⟨b, 3, none⟩ = some (.slice A1 (l.length + 1) c') ∧ w'.cell? ⟨b, 1, none⟩ = some (.int .i64 d)) 10 (.fl 0 (.fl 1 (.fl 2 (.fl 3 (.fl 4 (.fl 5 (.fl 6 (.fl 7 (.fl 8 (.fl 9 .done)))))))))) (by kernel_rfl) (by kernel_rfl) (by kernel_rfl) (by kernel_rfl) (fun _ _ _ d _ h => by cases d <;> exact h) ?_ (fun hHeld => ?_)
    · exact ⟨csame d3', coff d1' (by decide)⟩
    refine Reg.G_on (o := { dst := some 43, op := Op.move (Operand.tmp 0), type := 59, pos := "queuing.go:38", after := #[], guard := Option.none }) (v := ?_) (by rfl) ?_ (fun wS hSw => ?_) ?_
    rotate_left
    · kernel_rfl
    · (try dsimp only at hSw); go_simp; (try with_reducible rfl)
    try simp only [Act.put, List.setIfInBounds_toArray, List.set_cons_zero, List.set_cons_succ]
    refine Reg.G_on (o := { dst := some 44, op := Op.nilCheck (Operand.tmp 43), type := 0, pos := "queuing.go:38", after := #[{ on := 0, ground := Ground.data }], guard := Option.none }) (v := ?_) (by rfl) ?_ (fun wS hSw => ?_) ?_
    rotate_left
    · kernel_rfl
    · (try dsimp only at hSw); go_simp; (try with_reducible rfl)
    try simp only [Act.put, List.setIfInBounds_toArray, List.set_cons_zero, List.set_cons_succ]
    refine Reg.G_on (o := { dst := some 45, op := Op.fieldAddr 78 (Operand.tmp 44) 3, type := 0, pos := "queuing.go:38", after := #[{ on := 1, ground := Ground.data }], guard := Option.none }) (v := ?_) (by rfl) ?_ (fun wS hSw => ?_) ?_
    rotate_left
    · kernel_rfl
    · (try dsimp only at hSw); go_simp; (try with_reducible rfl)
    try simp only [Act.put, List.setIfInBounds_toArray, List.set_cons_zero, List.set_cons_succ]
    refine Reg.G_on (o := { dst := some 46, op := Op.load 67 (Operand.tmp 45), type := 67, pos := "queuing.go:38", after := #[{ on := 2, ground := Ground.data }], guard := Option.none }) (v := ?_) (by rfl) ?_ (fun wS hSw => ?_) ?_
    rotate_left
    · kernel_rfl
    · (try dsimp only at hSw); go_simp; (try with_reducible rfl)
    try simp only [Act.put, List.setIfInBounds_toArray, List.set_cons_zero, List.set_cons_succ]
    refine Reg.G_on (o := { dst := some 47, op := Op.call { callee := Callee.builtin Builtin.len, args := #[Operand.tmp 46], argTypes := #[67] }, type := 3, pos := "queuing.go:38", after := #[{ on := 3, ground := Ground.data }], guard := Option.none }) (v := ?_) (by rfl) ?_ (fun wS hSw => ?_) ?_
    rotate_left
    · kernel_rfl
    · (try dsimp only at hSw); go_simp; (try with_reducible rfl)
    try simp only [Act.put, List.setIfInBounds_toArray, List.set_cons_zero, List.set_cons_succ]
    refine Reg.G_on (o := { dst := some 48, op := Op.move (Operand.tmp 0), type := 59, pos := "queuing.go:38", after := #[], guard := Option.none }) (v := ?_) (by rfl) ?_ (fun wS hSw => ?_) ?_
    rotate_left
    · kernel_rfl
    · (try dsimp only at hSw); go_simp; (try with_reducible rfl)
    try simp only [Act.put, List.setIfInBounds_toArray, List.set_cons_zero, List.set_cons_succ]
    refine Reg.G_on (o := { dst := some 49, op := Op.nilCheck (Operand.tmp 48), type := 0, pos := "queuing.go:38", after := #[{ on := 5, ground := Ground.data }], guard := Option.none }) (v := ?_) (by rfl) ?_ (fun wS hSw => ?_) ?_
    rotate_left
    · kernel_rfl
    · (try dsimp only at hSw); go_simp; (try with_reducible rfl)
    try simp only [Act.put, List.setIfInBounds_toArray, List.set_cons_zero, List.set_cons_succ]
    refine Reg.G_on (o := { dst := some 50, op := Op.fieldAddr 78 (Operand.tmp 49) 1, type := 0, pos := "queuing.go:38", after := #[{ on := 6, ground := Ground.data }], guard := Option.none }) (v := ?_) (by rfl) ?_ (fun wS hSw => ?_) ?_
    rotate_left
    · kernel_rfl
    · (try dsimp only at hSw); go_simp; (try with_reducible rfl)
    try simp only [Act.put, List.setIfInBounds_toArray, List.set_cons_zero, List.set_cons_succ]
    refine Reg.G_on (o := { dst := some 51, op := Op.load 3 (Operand.tmp 50), type := 3, pos := "queuing.go:38", after := #[{ on := 7, ground := Ground.data }], guard := Option.none }) (v := ?_) (by rfl) ?_ (fun wS hSw => ?_) ?_
    rotate_left
    · kernel_rfl
    · (try dsimp only at hSw); go_simp; (try with_reducible rfl)
    try simp only [Act.put, List.setIfInBounds_toArray, List.set_cons_zero, List.set_cons_succ]
    refine Reg.G_on (o := { dst := some 52, op := Op.binOp BinOp.gtr 3 (Operand.tmp 47) (Operand.tmp 51) 3, type := 4, pos := "queuing.go:38", after := #[{ on := 4, ground := Ground.data }, { on := 8, ground := Ground.data }], guard := Option.none }) (v := ?_) (by rfl) ?_ (fun wS hSw => ?_) ?_
    rotate_left
    · kernel_rfl
    · (try dsimp only at hSw); go_simp; (try with_reducible rfl)
    try simp only [Act.put, List.setIfInBounds_toArray, List.set_cons_zero, List.set_cons_succ]
    refine Reg.G_done ?_
    go_wp2
    go_ret
    unfold nl nx
    rw [if_pos hd, if_pos hd]
    exact ⟨rfl, ⟨_, HQ.drew, hGr⟩, hMQ.drew⟩
  · have hdd2 : decide (d < (l.length : Int) + 1) = true := decide_eq_true (by omega)
    obtain ⟨m0, l0, e0⟩ : ∃ m0 l0, l ++ [m] = m0 :: l0 := by
      cases l with
      | nil => exact ⟨m, [], rfl⟩
      | cons a r => exact ⟨a, r ++ [m], rfl⟩
    have hnl : nl d l m = l0 := by
      unfold nl
      rw [if_neg hd, e0]
      rfl
    have hnx : nx d l x = x + 1 := by
      unfold nx
      rw [if_neg hd]
    rw [e0] at HQ
    rw [hnl, hnx]
    clear hnl hnx e0
    go_enter Try.func32, Try.ntmps32
    go_wp2_with fail
    refine Reg.wp_plan (S := fun w' => w'.cell? ⟨b, 4, none⟩ = some (.int .i64 s) ∧ w'.cell? ⟨b, 2, none⟩ = some (.int .i64 q)) 10 (.fl 0 (.fl 1 (.fl 2 (.fl 3 (.fl 4 (.fl 5 (.fl 6 (.fl 7 (.fl 8 (.fl 9 .done)))))))))) (by kernel_rfl) (by kernel_rfl) (by kernel_rfl) (by kernel_rfl) (fun _ _ _ d _ h => by cases d <;> exact h) ?_ (fun hHeld => ?_)
    · exact ⟨by simpa using c4, by simpa using c2⟩
    refine Reg.G_on (o := { dst := some 17, op := Op.move (Operand.tmp 0), type := 59, pos := "queuing.go:33", after := #[], guard := Option.none }) (v := ?_) (by rfl) ?_ (fun wS hSw => ?_) ?_
    rotate_left
    · kernel_rfl
    · (try dsimp only at hSw); go_simp; (try with_reducible rfl)
    try simp only [Act.put, List.setIfInBounds_toArray, List.set_cons_zero, List.set_cons_succ]
    refine Reg.G_on (o := { dst := some 18, op := Op.nilCheck (Operand.tmp 17), type := 0, pos := "queuing.go:33", after := #[{ on := 0, ground := Ground.data }], guard := Option.none }) (v := ?_) (by rfl) ?_ (fun wS hSw => ?_) ?_
    rotate_left
    · kernel_rfl
    · (try dsimp only at hSw); go_simp; (try with_reducible rfl)
    try simp only [Act.put, List.setIfInBounds_toArray, List.set_cons_zero, List.set_cons_succ]
    refine Reg.G_on (o := { dst := some 19, op := Op.fieldAddr 78 (Operand.tmp 18) 4, type := 0, pos := "queuing.go:33", after := #[{ on := 1, ground := Ground.data }], guard := Option.none }) (v := ?_) (by rfl) ?_ (fun wS hSw => ?_) ?_
    rotate_left
    · kernel_rfl
    · (try dsimp only at hSw); go_simp; (try with_reducible rfl)
    try simp only [Act.put, List.setIfInBounds_toArray, List.set_cons_zero, List.set_cons_succ]
    refine Reg.G_on (o := { dst := some 20, op := Op.load 3 (Operand.tmp 19), type := 3, pos := "queuing.go:33", after := #[{ on := 2, ground := Ground.data }], guard := Option.none }) (v := ?_) (by rfl) ?_ (fun wS hSw => ?_) ?_
    rotate_left
    · kernel_rfl
    · (try dsimp only at hSw); go_simp; (try with_reducible rfl)
    try simp only [Act.put, List.setIfInBounds_toArray, List.set_cons_zero, List.set_cons_succ]
    refine Reg.G_on (o := { dst := some 21, op := Op.move (Operand.tmp 0), type := 59, pos := "queuing.go:33", after := #[], guard := Option.none }) (v := ?_) (by rfl) ?_ (fun wS hSw => ?_) ?_
    rotate_left
    · kernel_rfl
    · (try dsimp only at hSw); go_simp; (try with_reducible rfl)
    try simp only [Act.put, List.setIfInBounds_toArray, List.set_cons_zero, List.set_cons_succ]
    refine Reg.G_on (o := { dst := some 22, op := Op.nilCheck (Operand.tmp 21), type := 0, pos := "queuing.go:33", after := #[{ on := 4, ground := Ground.data }], guard := Option.none }) (v := ?_) (by rfl) ?_ (fun wS hSw => ?_) ?_
    rotate_left
    · kernel_rfl
    · (try dsimp only at hSw); go_simp; (try with_reducible rfl)
    try simp only [Act.put, List.setIfInBounds_toArray, List.set_cons_zero, List.set_cons_succ]
    refine Reg.G_on (o := { dst := some 23, op := Op.fieldAddr 78 (Operand.tmp 22) 2, type := 0, pos := "queuing.go:33", after := #[{ on := 5, ground := Ground.data }], guard := Option.none }) (v := ?_) (by rfl) ?_ (fun wS hSw => ?_) ?_
    rotate_left
    · kernel_rfl
    · (try dsimp only at hSw); go_simp; (try with_reducible rfl)
    try simp only [Act.put, List.setIfInBounds_toArray, List.set_cons_zero, List.set_cons_succ]
    refine Reg.G_on (o := { dst := some 24, op := Op.load 3 (Operand.tmp 23), type := 3, pos := "queuing.go:33", after := #[{ on := 6, ground := Ground.data }], guard := Option.none }) (v := ?_) (by rfl) ?_ (fun wS hSw => ?_) ?_
    rotate_left
    · kernel_rfl
    · (try dsimp only at hSw); go_simp; (try with_reducible rfl)
    try simp only [Act.put, List.setIfInBounds_toArray, List.set_cons_zero, List.set_cons_succ]
    refine Reg.G_on (o := { dst := some 25, op := Op.binOp BinOp.geq 3 (Operand.tmp 20) (Operand.tmp 24) 3, type := 4, pos := "queuing.go:33", after := #[{ on := 3, ground := Ground.data }, { on := 7, ground := Ground.data }], guard := Option.none }) (v := ?_) (by rfl) ?_ (fun wS hSw => ?_) ?_
    rotate_left
    · kernel_rfl
    · (try dsimp only at hSw); go_simp; (try with_reducible rfl)
    try simp only [Act.put, List.setIfInBounds_toArray, List.set_cons_zero, List.set_cons_succ]
    refine Reg.G_on (o := { dst := some 16, op := Op.assign (Operand.tmp 25), type := 4, pos := "queuing.go:33", after := #[{ on := 8, ground := Ground.data }], guard := Option.none }) (v := ?_) (by rfl) ?_ (fun wS hSw => ?_) ?_
    rotate_left
    · kernel_rfl
    · (try dsimp only at hSw); go_simp; (try with_reducible rfl)
    try simp only [Act.put, List.setIfInBounds_toArray, List.set_cons_zero, List.set_cons_succ]
    refine Reg.G_done ?_
    clear hHeld
    go_wp2_with (at_builtin; refine wp_append rfl _ _ _ rfl rfl rfl HR.out ?_)
    refine Reg.wp_plan (S := fun w' => w'.cell? ⟨b, 3, none⟩ = some (.slice A1 (l.length + 1) c') ∧ w'.cell? ⟨b, 1, none⟩ = some (.int .i64 d)) 10 (.fl 0 (.fl 1 (.fl 2 (.fl 3 (.fl 4 (.fl 5 (.fl 6 (.fl 7 (.fl 8 (.fl 9 .done)))))))))) (by kernel_rfl) (by kernel_rfl) (by kernel_rfl) (by kernel_rfl) (fun _ _ _ d _ h => by cases d <;> exact h) ?_ (fun hHeld => ?_)
    · exact ⟨csame d3', coff d1' (by decide)⟩
    refine Reg.G_on (o := { dst := some 43, op := Op.move (Operand.tmp 0), type := 59, pos := "queuing.go:38", after := #[], guard := Option.none }) (v := ?_) (by rfl) ?_ (fun wS hSw => ?_) ?_
    rotate_left
    · kernel_rfl
    · (try dsimp only at hSw); go_simp; (try with_reducible rfl)
    try simp only [Act.put, List.setIfInBounds_toArray, List.set_cons_zero, List.set_cons_succ]
    refine Reg.G_on (o := { dst := some 44, op := Op.nilCheck (Operand.tmp 43), type := 0, pos := "queuing.go:38", after := #[{ on := 0, ground := Ground.data }], guard := Option.none }) (v := ?_) (by rfl) ?_ (fun wS hSw => ?_) ?_
    rotate_left
    · kernel_rfl
    · (try dsimp only at hSw); go_simp; (try with_reducible rfl)
    try simp only [Act.put, List.setIfInBounds_toArray, List.set_cons_zero, List.set_cons_succ]
    refine Reg.G_on (o := { dst := some 45, op := Op.fieldAddr 78 (Operand.tmp 44) 3, type := 0, pos := "queuing.go:38", after := #[{ on := 1, ground := Ground.data }], guard := Option.none }) (v := ?_) (by rfl) ?_ (fun wS hSw => ?_) ?_
    rotate_left
    · kernel_rfl
    · (try dsimp only at hSw); go_simp; (try with_reducible rfl)
    try simp only [Act.put, List.setIfInBounds_toArray, List.set_cons_zero, List.set_cons_succ]
    refine Reg.G_on (o := { dst := some 46, op := Op.load 67 (Operand.tmp 45), type := 67, pos := "queuing.go:38", after := #[{ on := 2, ground := Ground.data }], guard := Option.none }) (v := ?_) (by rfl) ?_ (fun wS hSw => ?_) ?_
    rotate_left
    · kernel_rfl
    · (try dsimp only at hSw); go_simp; (try with_reducible rfl)
    try simp only [Act.put, List.setIfInBounds_toArray, List.set_cons_zero, List.set_cons_succ]
    refine Reg.G_on (o := { dst := some 47, op := Op.call { callee := Callee.builtin Builtin.len, args := #[Operand.tmp 46], argTypes := #[67] }, type := 3, pos := "queuing.go:38", after := #[{ on := 3, ground := Ground.data }], guard := Option.none }) (v := ?_) (by rfl) ?_ (fun wS hSw => ?_) ?_
    rotate_left
    · kernel_rfl
    · (try dsimp only at hSw); go_simp; (try with_reducible rfl)
    try simp only [Act.put, List.setIfInBounds_toArray, List.set_cons_zero, List.set_cons_succ]
    refine Reg.G_on (o := { dst := some 48, op := Op.move (Operand.tmp 0), type := 59, pos := "queuing.go:38", after := #[], guard := Option.none }) (v := ?_) (by rfl) ?_ (fun wS hSw => ?_) ?_
    rotate_left
    · kernel_rfl
    · (try dsimp only at hSw); go_simp; (try with_reducible rfl)
    try simp only [Act.put, List.setIfInBounds_toArray, List.set_cons_zero, List.set_cons_succ]
    refine Reg.G_on (o := { dst := some 49, op := Op.nilCheck (Operand.tmp 48), type := 0, pos := "queuing.go:38", after := #[{ on := 5, ground := Ground.data }], guard := Option.none }) (v := ?_) (by rfl) ?_ (fun wS hSw => ?_) ?_
    rotate_left
    · kernel_rfl
    · (try dsimp only at hSw); go_simp; (try with_reducible rfl)
    try simp only [Act.put, List.setIfInBounds_toArray, List.set_cons_zero, List.set_cons_succ]
    refine Reg.G_on (o := { dst := some 50, op := Op.fieldAddr 78 (Operand.tmp 49) 1, type := 0, pos := "queuing.go:38", after := #[{ on := 6, ground := Ground.data }], guard := Option.none }) (v := ?_) (by rfl) ?_ (fun wS hSw => ?_) ?_
    rotate_left
    · kernel_rfl
    · (try dsimp only at hSw); go_simp; (try with_reducible rfl)
    try simp only [Act.put, List.setIfInBounds_toArray, List.set_cons_zero, List.set_cons_succ]
    refine Reg.G_on (o := { dst := some 51, op := Op.load 3 (Operand.tmp 50), type := 3, pos := "queuing.go:38", after := #[{ on := 7, ground := Ground.data }], guard := Option.none }) (v := ?_) (by rfl) ?_ (fun wS hSw => ?_) ?_
    rotate_left
    · kernel_rfl
    · (try dsimp only at hSw); go_simp; (try with_reducible rfl)
    try simp only [Act.put, List.setIfInBounds_toArray, List.set_cons_zero, List.set_cons_succ]
    refine Reg.G_on (o := { dst := some 52, op := Op.binOp BinOp.gtr 3 (Operand.tmp 47) (Operand.tmp 51) 3, type := 4, pos := "queuing.go:38", after := #[{ on := 4, ground := Ground.data }, { on := 8, ground := Ground.data }], guard := Option.none }) (v := ?_) (by rfl) ?_ (fun wS hSw => ?_) ?_
    rotate_left
    · kernel_rfl
    · (try dsimp only at hSw); go_simp; (try with_reducible rfl)
    try simp only [Act.put, List.setIfInBounds_toArray, List.set_cons_zero, List.set_cons_succ]
    refine Reg.G_done ?_
    clear hHeld
    go_wp2_with fail
    refine (cut_ _ b z d q m0 l0 (s + 1) x _ HQ.drew).mono ?_
    rintro e w' ⟨rfl, hq', hm'⟩
    obtain ⟨A, c, ⟨hb, ho⟩, c0, c1, c2, c3, c4, c5, f3, f4, f5, hlt⟩ := hq'.cells
    clear hb ho
    go_wp2
    go_ret
    refine ⟨rfl, ⟨_, hq'.put5 (x + 1), hGr⟩, (hMQ.drew.trans hm' (fun k hk => ?_)).set (.inl hF) _⟩
    exact hk.elim .inl (fun h => .inr h.1)
theorem send_nil (m : ByteArray) (w : World) : Calls Try.prog 32 #[.pointer none, .string m] w fun e w' => e = .returned (.int .i64 20) ∧ w = w' := by
  go_enter Try.func32, Try.ntmps32
  go_wp2
  go_ret
  exact ⟨rfl, rfl⟩
theorem send_long (F : Nat → Prop) (b : Nat) (z d q : Int) (m : ByteArray) (l : List ByteArray) (s x : Int) (w : World) (h : QP w F b z d q l s x) (hm : z < (m.size : Int)) :
    Calls Try.prog 32 #[.pointer (some ⟨b, 0, none⟩), .string m] w fun e w' => e = .returned (.int .i64 3) ∧ w = w' := by
  obtain ⟨A, c, ⟨hb, ho⟩, c0, c1, c2, c3, c4, c5, f3, f4, f5, hlt⟩ := h.cells
  go_enter Try.func32, Try.ntmps32
  go_wp2
  go_ret
  exact ⟨rfl, rfl⟩
theorem send_full (F : Nat → Prop) (b : Nat) (z d q : Int) (m : ByteArray) (l : List ByteArray) (s x : Int) (w : World) (h : QP w F b z d q l s x) (hm : (m.size : Int) ≤ z) (hs : q ≤ s) :
    Calls Try.prog 32 #[.pointer (some ⟨b, 0, none⟩), .string m] w fun e w' => e = .returned (.int .i64 19) ∧ w' = w.drew := by
  obtain ⟨A, c, ⟨hb, ho⟩, c0, c1, c2, c3, c4, c5, f3, f4, f5, hlt⟩ := h.cells
  have hdd : decide (q ≤ s) = true := decide_eq_true hs
  go_enter Try.func32, Try.ntmps32
  go_wp2_with fail
  refine Reg.wp_plan (S := fun w' => w'.cell? ⟨b, 4, none⟩ = some (.int .i64 s) ∧ w'.cell? ⟨b, 2, none⟩ = some (.int .i64 q)) 10 (.fl 0 (.fl 1 (.fl 2 (.fl 3 (.fl 4 (.fl 5 (.fl 6 (.fl 7 (.fl 8 (.fl 9 .done)))))))))) (by kernel_rfl) (by kernel_rfl) (by kernel_rfl) (by kernel_rfl) (fun _ _ _ d _ h => by cases d <;> exact h) ?_ (fun hHeld => ?_)
  · exact ⟨by simpa using c4, by simpa using c2⟩
  refine Reg.G_on (o := { dst := some 17, op := Op.move (Operand.tmp 0), type := 59, pos := "queuing.go:33", after := #[], guard := Option.none }) (v := ?_) (by rfl) ?_ (fun wS hSw => ?_) ?_
  rotate_left
  · kernel_rfl
  · (try dsimp only at hSw); go_simp; (try with_reducible rfl)
  try simp only [Act.put, List.setIfInBounds_toArray, List.set_cons_zero, List.set_cons_succ]
  refine Reg.G_on (o := { dst := some 18, op := Op.nilCheck (Operand.tmp 17), type := 0, pos := "queuing.go:33", after := #[{ on := 0, ground := Ground.data }], guard := Option.none }) (v := ?_) (by rfl) ?_ (fun wS hSw => ?_) ?_
  rotate_left
  · kernel_rfl
  · (try dsimp only at hSw); go_simp; (try with_reducible rfl)
  try simp only [Act.put, List.setIfInBounds_toArray, List.set_cons_zero, List.set_cons_succ]
  refine Reg.G_on (o := { dst := some 19, op := Op.fieldAddr 78 (Operand.tmp 18) 4, type := 0, pos := "queuing.go:33", after := #[{ on := 1, ground := Ground.data }], guard := Option.none }) (v := ?_) (by rfl) ?_ (fun wS hSw => ?_) ?_
  rotate_left
  · kernel_rfl
  · (try dsimp only at hSw); go_simp; (try with_reducible rfl)
  try simp only [Act.put, List.setIfInBounds_toArray, List.set_cons_zero, List.set_cons_succ]
  refine Reg.G_on (o := { dst := some 20, op := Op.load 3 (Operand.tmp 19), type := 3, pos := "queuing.go:33", after := #[{ on := 2, ground := Ground.data }], guard := Option.none }) (v := ?_) (by rfl) ?_ (fun wS hSw => ?_) ?_
  rotate_left
  · kernel_rfl
  · (try dsimp only at hSw); go_simp; (try with_reducible rfl)
  try simp only [Act.put, List.setIfInBounds_toArray, List.set_cons_zero, List.set_cons_succ]
  refine Reg.G_on (o := { dst := some 21, op := Op.move (Operand.tmp 0), type := 59, pos := "queuing.go:33", after := #[], guard := Option.none }) (v := ?_) (by rfl) ?_ (fun wS hSw => ?_) ?_
  rotate_left
  · kernel_rfl
  · (try dsimp only at hSw); go_simp; (try with_reducible rfl)
  try simp only [Act.put, List.setIfInBounds_toArray, List.set_cons_zero, List.set_cons_succ]
  refine Reg.G_on (o := { dst := some 22, op := Op.nilCheck (Operand.tmp 21), type := 0, pos := "queuing.go:33", after := #[{ on := 4, ground := Ground.data }], guard := Option.none }) (v := ?_) (by rfl) ?_ (fun wS hSw => ?_) ?_
  rotate_left
  · kernel_rfl
  · (try dsimp only at hSw); go_simp; (try with_reducible rfl)
  try simp only [Act.put, List.setIfInBounds_toArray, List.set_cons_zero, List.set_cons_succ]
  refine Reg.G_on (o := { dst := some 23, op := Op.fieldAddr 78 (Operand.tmp 22) 2, type := 0, pos := "queuing.go:33", after := #[{ on := 5, ground := Ground.data }], guard := Option.none }) (v := ?_) (by rfl) ?_ (fun wS hSw => ?_) ?_
  rotate_left
  · kernel_rfl
  · (try dsimp only at hSw); go_simp; (try with_reducible rfl)
  try simp only [Act.put, List.setIfInBounds_toArray, List.set_cons_zero, List.set_cons_succ]
  refine Reg.G_on (o := { dst := some 24, op := Op.load 3 (Operand.tmp 23), type := 3, pos := "queuing.go:33", after := #[{ on := 6, ground := Ground.data }], guard := Option.none }) (v := ?_) (by rfl) ?_ (fun wS hSw => ?_) ?_
  rotate_left
  · kernel_rfl
  · (try dsimp only at hSw); go_simp; (try with_reducible rfl)
  try simp only [Act.put, List.setIfInBounds_toArray, List.set_cons_zero, List.set_cons_succ]
  refine Reg.G_on (o := { dst := some 25, op := Op.binOp BinOp.geq 3 (Operand.tmp 20) (Operand.tmp 24) 3, type := 4, pos := "queuing.go:33", after := #[{ on := 3, ground := Ground.data }, { on := 7, ground := Ground.data }], guard := Option.none }) (v := ?_) (by rfl) ?_ (fun wS hSw => ?_) ?_
  rotate_left
  · kernel_rfl
  · (try dsimp only at hSw); go_simp; (try with_reducible rfl)
  try simp only [Act.put, List.setIfInBounds_toArray, List.set_cons_zero, List.set_cons_succ]
  refine Reg.G_on (o := { dst := some 16, op := Op.assign (Operand.tmp 25), type := 4, pos := "queuing.go:33", after := #[{ on := 8, ground := Ground.data }], guard := Option.none }) (v := ?_) (by rfl) ?_ (fun wS hSw => ?_) ?_
  rotate_left
  · kernel_rfl
  · (try dsimp only at hSw); go_simp; (try with_reducible rfl)
  try simp only [Act.put, List.setIfInBounds_toArray, List.set_cons_zero, List.set_cons_succ]
  refine Reg.G_done ?_
  go_wp2
  go_ret
  exact ⟨rfl, rfl⟩
theorem receive_nil (w : World) : Calls Try.prog 31 #[.pointer none] w fun e w' => e = .returned (.tuple #[.string ByteArray.empty, .bool false]) ∧ w = w' := by
  go_enter Try.func31, Try.ntmps31
  go_wp2
  go_ret2
  exact ⟨rfl, rfl⟩
theorem receive_none (F : Nat → Prop) (b : Nat) (z d q s x : Int) (w : World) (h : QP w F b z d q [] s x) :
    Calls Try.prog 31 #[.pointer (some ⟨b, 0, none⟩)] w fun e w' => e = .returned (.tuple #[.string ByteArray.empty, .bool false]) ∧ w = w' := by
  obtain ⟨A, c, ⟨hb, ho⟩, c0, c1, c2, c3, c4, c5, f3, f4, f5, hlt⟩ := h.cells
  clear hb ho
  go_enter Try.func31, Try.ntmps31
  go_wp2
  go_ret2
  exact ⟨rfl, rfl⟩
theorem receive_first (F : Nat → Prop) (b : Nat) (z d q : Int) (m : ByteArray) (l : List ByteArray) (s x : Int) (w : World) (h : QP w F b z d q (m :: l) s x) :
    Calls Try.prog 31 #[.pointer (some ⟨b, 0, none⟩)] w fun e w' => e = .returned (.tuple #[.string m, .bool true]) ∧ QP w' F b z d q l s x ∧ Mod F w w' := by
  obtain ⟨A, c, ⟨hb, ho⟩, c0, c1, c2, c3, c4, c5, f3, f4, f5, hlt⟩ := h.cells
  clear hb ho
  have hl : (m :: l).length = l.length + 1 := rfl
  rw [hl] at c3
  have hdd : (((l.length : Int) + 1) == 0) = false := by simp; omega
  clear hl
  go_enter Try.func31, Try.ntmps31
  go_wp2_with fail
  refine (cut_ F b z d q m l s x _ h).mono ?_
  rintro e w' ⟨rfl, hq', hm'⟩
  go_wp2
  go_ret2
  exact ⟨rfl, hq', hm'⟩
theorem frame_ (F : Nat → Prop) (b : Nat) (z d q : Int) (l : List ByteArray) (s x : Int) (w : World) (h : QP w F b z d q l s x) :
    Calls Try.prog 34 #[.pointer (some ⟨b, 0, none⟩)] w fun e w' => e = .returned (.tuple #[]) ∧ w' = w.setCell ⟨b, 4, none⟩ (.int .i64 0) := by
  obtain ⟨A, c, ⟨hb, ho⟩, c0, c1, c2, c3, c4, c5, f3, f4, f5, hlt⟩ := h.cells
  clear hb ho
  go_enter Try.func34, Try.ntmps34
  go_wp2
  go_end0
  exact ⟨rfl, rfl⟩
theorem waits_nil (w : World) : Calls Try.prog 38 #[.pointer none] w fun e w' => e = .returned (.int .i64 0) ∧ w = w' := by
  go_enter Try.func38, Try.ntmps38
  go_wp2
  go_ret
  exact ⟨rfl, rfl⟩
theorem waits (F : Nat → Prop) (b : Nat) (z d q : Int) (l : List ByteArray) (s x : Int) (w : World) (h : QP w F b z d q l s x) :
    Calls Try.prog 38 #[.pointer (some ⟨b, 0, none⟩)] w fun e w' => e = .returned (.int .i64 (l.length : Int)) ∧ w = w' := by
  obtain ⟨A, c, ⟨hb, ho⟩, c0, c1, c2, c3, c4, c5, f3, f4, f5, hlt⟩ := h.cells
  clear hb ho
  go_enter Try.func38, Try.ntmps38
  go_wp2
  go_ret
  exact ⟨rfl, rfl⟩
theorem sent_nil (w : World) : Calls Try.prog 33 #[.pointer none] w fun e w' => e = .returned (.int .i64 0) ∧ w = w' := by
  go_enter Try.func33, Try.ntmps33
  go_wp2
  go_ret
  exact ⟨rfl, rfl⟩
theorem sent (F : Nat → Prop) (b : Nat) (z d q : Int) (l : List ByteArray) (s x : Int) (w : World) (h : QP w F b z d q l s x) :
    Calls Try.prog 33 #[.pointer (some ⟨b, 0, none⟩)] w fun e w' => e = .returned (.int .i64 s) ∧ w = w' := by
  obtain ⟨A, c, ⟨hb, ho⟩, c0, c1, c2, c3, c4, c5, f3, f4, f5, hlt⟩ := h.cells
  clear hb ho
  go_enter Try.func33, Try.ntmps33
  go_wp2
  go_ret
  exact ⟨rfl, rfl⟩
theorem lost_nil (w : World) : Calls Try.prog 39 #[.pointer none] w fun e w' => e = .returned (.int .u64 0) ∧ w = w' := by
  go_enter Try.func39, Try.ntmps39
  go_wp2
  go_ret
  exact ⟨rfl, rfl⟩
theorem lost (F : Nat → Prop) (b : Nat) (z d q : Int) (l : List ByteArray) (s x : Int) (w : World) (h : QP w F b z d q l s x) :
    Calls Try.prog 39 #[.pointer (some ⟨b, 0, none⟩)] w fun e w' => e = .returned (.int .u64 x) ∧ w = w' := by
  obtain ⟨A, c, ⟨hb, ho⟩, c0, c1, c2, c3, c4, c5, f3, f4, f5, hlt⟩ := h.cells
  clear hb ho
  go_enter Try.func39, Try.ntmps39
  go_wp2
  go_ret
  exact ⟨rfl, rfl⟩
end Go.Proofs.Ytkijeknopnjamaa.Queuing
