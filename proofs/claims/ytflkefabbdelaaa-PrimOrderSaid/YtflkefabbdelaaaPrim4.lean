import Derived.Test.YtflkefabbdelaaaPrim3
import Derived.Test.YtflkefabbdelaaaRegion
set_option linter.unusedVariables false
set_option linter.unusedSimpArgs false
namespace Go.Proofs.Ytflkefabbdelaaa.Prim
open Go.RowKit Base Flat Go.Proofs.YtflkefabbdelaaaW.PrintWords Go.Proofs.YtflkefabbdelaaaW.PrintLast Go.Proofs.YtflkefabbdelaaaW.PrintMore Wd
/-- Is a datum below 0, and which number may it be? -/
def ng (dn : Bool) (dm : Int) : Bool := dn && (dm != 0)
def nn (dn : Bool) (dm : Int) : Int := if ng dn dm then (-dm) % 18446744073709551616 else dm
/-- Is some datum a number of a kind? -/
def ofb (k dk : Int) (dn : Bool) (dm : Int) (dt : ByteArray) : Bool := may k (nn dn dm) && (decide (dat k (nn dn dm) = (dk, ng dn dm, dm)) && decide (dt = ⟨#[]⟩))
def ofv (k dk : Int) (dn : Bool) (dm : Int) (dt : ByteArray) : Int := if ofb k dk dn dm dt then nn dn dm else 0
theorem nn_range {dn : Bool} {dm : Int} (h0 : 0 ≤ dm) (h1 : dm < 18446744073709551616) : 0 ≤ nn dn dm ∧ nn dn dm < 18446744073709551616 := by
  unfold nn
  split <;> omega
theorem argb {w W : World} {b o : Nat} {u : Value} (hb : Below w.heap.size w W) (hc : w.cell? ⟨b, o, none⟩ = some u) : W.cell? ⟨b, o, none⟩ = some u := cbel hb hc (World.block_lt_of_cell? w ⟨b, o, none⟩ hc)
theorem nil_list (s : ByteArray) : s.toList = [] ↔ s = ⟨#[]⟩ := by
  constructor
  · intro h
    rw [ByteArray.toList_eq] at h
    apply ByteArray.ext
    exact Array.ext' h
  · intro h
    rw [h, ByteArray.toList_eq]
set_option maxRecDepth 20000 in
set_option maxHeartbeats 2000000 in
theorem of_ (k dk : Int) (dn : Bool) (dm : Int) (dt : ByteArray) (h0 : 0 ≤ dm) (h1 : dm < 18446744073709551616) (w : World) :
    Calls Try.prog 19 #[.int .i64 k, .agg #[.int .i64 dk, .bool dn, .int .u64 dm, .string dt]] w fun e w' => e = .returned (.tuple #[.int .u64 (ofv k dk dn dm dt), .bool (ofb k dk dn dm dt)]) ∧ Below w.heap.size w w' := by
  have hrn := nn_range (dn := dn) h0 h1
  have b0 : Below w.heap.size w (w.alloc (.cells #[.int .i64 dk, .bool dn, .int .u64 dm, .string dt] 29)) := (Below.refl _ _).alloc (Nat.le_refl _) _
  have hsz : w.heap.size ≤ (w.alloc (.cells #[.int .i64 dk, .bool dn, .int .u64 dm, .string dt] 29)).drew.heap.size := by simp
  unfold ofv ofb
  cases dn with
  | false =>
    rw [show ng false dm = false from rfl, show nn false dm = dm from rfl]
    clear hrn
    have HM := fun W => may_ k dm (by omega) (by omega) W
    have HD := fun W => datum k dm (by omega) (by omega) W
    generalize may k dm = mb at *
    generalize dat k dm = dd at *
    obtain ⟨da, db, dc⟩ := dd
    generalize hr : (mb && (decide ((da, db, dc) = (dk, false, dm)) && decide (dt = ⟨#[]⟩))) = r
    clear h0 h1
    cases mb with
    | false =>
      obtain rfl : r = false := by rw [← hr]; rfl
      clear hr HD
      go_enter Try.func19, Try.ntmps19
      go_wp2_with fail
      refine Reg.wp_plan (S := fun w' => w'.cell? ⟨w.heap.size, 0, none⟩ = some (.int .i64 dk) ∧ w'.cell? ⟨w.heap.size, 1, none⟩ = some (.bool false) ∧ w'.cell? ⟨w.heap.size, 2, none⟩ = some (.int .u64 dm) ∧ w'.cell? ⟨w.heap.size, 3, none⟩ = some (.string dt)) 11 (.fl 0 (.fl 1 (.one 2 (.fl 3 (.fl 4 (.fl 5 (.fl 6 (.fl 8 (.one 7 (.fl 9 (.fl 10 .done))))))))))) (by kernel_rfl) (by kernel_rfl) (by kernel_rfl) (by kernel_rfl) (fun _ _ _ d _ h => by cases d <;> exact h) ?_ (fun hHeld => ?_)
      · exact ⟨by simp, by simp, by simp, by simp⟩
      refine Reg.G_on (o := { dst := some 21, op := Op.move (Operand.tmp 0), type := 3, pos := "prim.go:88", after := #[], guard := Option.none }) (v := ?_) (by rfl) ?_ (fun wS hSw => ?_) ?_
      rotate_left
      · kernel_rfl
      · (try dsimp only at hSw); go_simp; (try with_reducible rfl)
      try simp only [Act.put, List.setIfInBounds_toArray, List.set_cons_zero, List.set_cons_succ]
      refine Reg.G_on (o := { dst := some 22, op := Op.move (Operand.tmp 6), type := 22, pos := "prim.go:88", after := #[], guard := Option.none }) (v := ?_) (by rfl) ?_ (fun wS hSw => ?_) ?_
      rotate_left
      · kernel_rfl
      · (try dsimp only at hSw); go_simp; (try with_reducible rfl)
      try simp only [Act.put, List.setIfInBounds_toArray, List.set_cons_zero, List.set_cons_succ]
      refine Reg.G_step (o := { dst := some 23, op := Op.call { callee := Callee.value (Operand.func 12), args := #[Operand.tmp 21, Operand.tmp 22], argTypes := #[3, 22] }, type := 4, pos := "prim.go:88", after := #[{ on := 0, ground := Ground.data }, { on := 1, ground := Ground.data }], guard := Option.none }) (by rfl) ?_ (fun K hK => ?_)
      · kernel_rfl
      go_simp
      refine (HM _).mono ?_
      rintro e w' ⟨rfl, hb⟩
      refine hK.out _ _ ?_ (fun hHeld => ?_)
      · exact ⟨argb hb hHeld.1, argb hb hHeld.2.1, argb hb hHeld.2.2.1, argb hb hHeld.2.2.2⟩
      clear hK K
      try simp only [Act.put, List.setIfInBounds_toArray, List.set_cons_zero, List.set_cons_succ]
      refine Reg.G_on (o := { dst := some 24, op := Op.unOp UnOp.not 4 (Operand.tmp 23), type := 4, pos := "prim.go:88", after := #[{ on := 2, ground := Ground.data }], guard := Option.none }) (v := ?_) (by rfl) ?_ (fun wS hSw => ?_) ?_
      rotate_left
      · kernel_rfl
      · (try dsimp only at hSw); go_simp; (try with_reducible rfl)
      try simp only [Act.put, List.setIfInBounds_toArray, List.set_cons_zero, List.set_cons_succ]
      refine Reg.G_on (o := { dst := some 25, op := Op.move (Operand.tmp 24), type := 4, pos := "prim.go:88", after := #[{ on := 3, ground := Ground.data }, { on := 2, ground := Ground.chain }], guard := Option.none }) (v := ?_) (by rfl) ?_ (fun wS hSw => ?_) ?_
      rotate_left
      · kernel_rfl
      · (try dsimp only at hSw); go_simp; (try with_reducible rfl)
      try simp only [Act.put, List.setIfInBounds_toArray, List.set_cons_zero, List.set_cons_succ]
      refine Reg.G_off (o := { dst := some 26, op := Op.move (Operand.tmp 0), type := 3, pos := "prim.go:88", after := #[{ on := 4, ground := Ground.guard }], guard := some (4, false) }) (by rfl) ?_ ?_
      · kernel_rfl
      try simp only [Act.put, List.setIfInBounds_toArray, List.set_cons_zero, List.set_cons_succ]
      refine Reg.G_off (o := { dst := some 27, op := Op.move (Operand.tmp 6), type := 22, pos := "prim.go:88", after := #[{ on := 4, ground := Ground.guard }], guard := some (4, false) }) (by rfl) ?_ ?_
      · kernel_rfl
      try simp only [Act.put, List.setIfInBounds_toArray, List.set_cons_zero, List.set_cons_succ]
      refine Reg.G_off (o := { dst := some 29, op := Op.load 29 (Operand.tmp 3), type := 29, pos := "prim.go:88", after := #[{ on := 4, ground := Ground.guard }], guard := some (4, false) }) (by rfl) ?_ ?_
      · kernel_rfl
      try simp only [Act.put, List.setIfInBounds_toArray, List.set_cons_zero, List.set_cons_succ]
      refine Reg.G_skip (o := { dst := some 28, op := Op.call { callee := Callee.value (Operand.func 21), args := #[Operand.tmp 26, Operand.tmp 27], argTypes := #[3, 22] }, type := 29, pos := "prim.go:88", after := #[{ on := 5, ground := Ground.data }, { on := 6, ground := Ground.data }, { on := 4, ground := Ground.chain }, { on := 4, ground := Ground.guard }], guard := some (4, false) }) (by rfl) ?_ (by assumption) ?_
      · kernel_rfl
      try simp only [Act.put, List.setIfInBounds_toArray, List.set_cons_zero, List.set_cons_succ]
      refine Reg.G_off (o := { dst := some 30, op := Op.binOp BinOp.neq 29 (Operand.tmp 28) (Operand.tmp 29) 29, type := 4, pos := "prim.go:88", after := #[{ on := 7, ground := Ground.data }, { on := 8, ground := Ground.data }, { on := 4, ground := Ground.guard }], guard := some (4, false) }) (by rfl) ?_ ?_
      · kernel_rfl
      try simp only [Act.put, List.setIfInBounds_toArray, List.set_cons_zero, List.set_cons_succ]
      refine Reg.G_on (o := { dst := some 31, op := Op.pick (Operand.tmp 25) (Operand.const (Value.bool true)) (Operand.tmp 30), type := 4, pos := "prim.go:88", after := #[{ on := 4, ground := Ground.data }, { on := 9, ground := Ground.data }], guard := Option.none }) (v := ?_) (by rfl) ?_ (fun wS hSw => ?_) ?_
      rotate_left
      · kernel_rfl
      · (try dsimp only at hSw); go_simp; (try with_reducible rfl)
      try simp only [Act.put, List.setIfInBounds_toArray, List.set_cons_zero, List.set_cons_succ]
      refine Reg.G_done ?_
      go_wp2
      go_ret2
      exact ⟨rfl, b0.drew.trans (hb.mono hsz)⟩
    | true =>
      by_cases h1 : da = dk
      · by_cases h2 : db = false
        · by_cases h3 : dc = dm
          · by_cases h4 : dt = ⟨#[]⟩
            · subst h1 h2 h3 h4
              obtain rfl : r = true := by rw [← hr]; simp
              clear hr
              go_enter Try.func19, Try.ntmps19
              go_wp2_with fail
              refine Reg.wp_plan (S := fun w' => w'.cell? ⟨w.heap.size, 0, none⟩ = some (.int .i64 da) ∧ w'.cell? ⟨w.heap.size, 1, none⟩ = some (.bool false) ∧ w'.cell? ⟨w.heap.size, 2, none⟩ = some (.int .u64 dc) ∧ w'.cell? ⟨w.heap.size, 3, none⟩ = some (.string (⟨#[]⟩ : ByteArray))) 11 (.fl 0 (.fl 1 (.one 2 (.fl 3 (.fl 4 (.fl 5 (.fl 6 (.fl 8 (.one 7 (.fl 9 (.fl 10 .done))))))))))) (by kernel_rfl) (by kernel_rfl) (by kernel_rfl) (by kernel_rfl) (fun _ _ _ d _ h => by cases d <;> exact h) ?_ (fun hHeld => ?_)
              · exact ⟨by simp, by simp, by simp, by simp⟩
              refine Reg.G_on (o := { dst := some 21, op := Op.move (Operand.tmp 0), type := 3, pos := "prim.go:88", after := #[], guard := Option.none }) (v := ?_) (by rfl) ?_ (fun wS hSw => ?_) ?_
              rotate_left
              · kernel_rfl
              · (try dsimp only at hSw); go_simp; (try with_reducible rfl)
              try simp only [Act.put, List.setIfInBounds_toArray, List.set_cons_zero, List.set_cons_succ]
              refine Reg.G_on (o := { dst := some 22, op := Op.move (Operand.tmp 6), type := 22, pos := "prim.go:88", after := #[], guard := Option.none }) (v := ?_) (by rfl) ?_ (fun wS hSw => ?_) ?_
              rotate_left
              · kernel_rfl
              · (try dsimp only at hSw); go_simp; (try with_reducible rfl)
              try simp only [Act.put, List.setIfInBounds_toArray, List.set_cons_zero, List.set_cons_succ]
              refine Reg.G_step (o := { dst := some 23, op := Op.call { callee := Callee.value (Operand.func 12), args := #[Operand.tmp 21, Operand.tmp 22], argTypes := #[3, 22] }, type := 4, pos := "prim.go:88", after := #[{ on := 0, ground := Ground.data }, { on := 1, ground := Ground.data }], guard := Option.none }) (by rfl) ?_ (fun K hK => ?_)
              · kernel_rfl
              go_simp
              refine (HM _).mono ?_
              rintro e w' ⟨rfl, hb⟩
              refine hK.out _ _ ?_ (fun hHeld => ?_)
              · exact ⟨argb hb hHeld.1, argb hb hHeld.2.1, argb hb hHeld.2.2.1, argb hb hHeld.2.2.2⟩
              clear hK K
              try simp only [Act.put, List.setIfInBounds_toArray, List.set_cons_zero, List.set_cons_succ]
              refine Reg.G_on (o := { dst := some 24, op := Op.unOp UnOp.not 4 (Operand.tmp 23), type := 4, pos := "prim.go:88", after := #[{ on := 2, ground := Ground.data }], guard := Option.none }) (v := ?_) (by rfl) ?_ (fun wS hSw => ?_) ?_
              rotate_left
              · kernel_rfl
              · (try dsimp only at hSw); go_simp; (try with_reducible rfl)
              try simp only [Act.put, List.setIfInBounds_toArray, List.set_cons_zero, List.set_cons_succ]
              refine Reg.G_on (o := { dst := some 25, op := Op.move (Operand.tmp 24), type := 4, pos := "prim.go:88", after := #[{ on := 3, ground := Ground.data }, { on := 2, ground := Ground.chain }], guard := Option.none }) (v := ?_) (by rfl) ?_ (fun wS hSw => ?_) ?_
              rotate_left
              · kernel_rfl
              · (try dsimp only at hSw); go_simp; (try with_reducible rfl)
              try simp only [Act.put, List.setIfInBounds_toArray, List.set_cons_zero, List.set_cons_succ]
              refine Reg.G_on (o := { dst := some 26, op := Op.move (Operand.tmp 0), type := 3, pos := "prim.go:88", after := #[{ on := 4, ground := Ground.guard }], guard := some (4, false) }) (v := ?_) (by rfl) ?_ (fun wS hSw => ?_) ?_
              rotate_left
              · kernel_rfl
              · (try dsimp only at hSw); go_simp; (try with_reducible rfl)
              try simp only [Act.put, List.setIfInBounds_toArray, List.set_cons_zero, List.set_cons_succ]
              refine Reg.G_on (o := { dst := some 27, op := Op.move (Operand.tmp 6), type := 22, pos := "prim.go:88", after := #[{ on := 4, ground := Ground.guard }], guard := some (4, false) }) (v := ?_) (by rfl) ?_ (fun wS hSw => ?_) ?_
              rotate_left
              · kernel_rfl
              · (try dsimp only at hSw); go_simp; (try with_reducible rfl)
              try simp only [Act.put, List.setIfInBounds_toArray, List.set_cons_zero, List.set_cons_succ]
              refine Reg.G_on (o := { dst := some 29, op := Op.load 29 (Operand.tmp 3), type := 29, pos := "prim.go:88", after := #[{ on := 4, ground := Ground.guard }], guard := some (4, false) }) (v := ?_) (by rfl) ?_ (fun wS hSw => ?_) ?_
              rotate_left
              · kernel_rfl
              · (try dsimp only at hSw); go_simp; (try with_reducible rfl)
              try simp only [Act.put, List.setIfInBounds_toArray, List.set_cons_zero, List.set_cons_succ]
              have hb1 := hb
              clear hb
              refine Reg.G_step (o := { dst := some 28, op := Op.call { callee := Callee.value (Operand.func 21), args := #[Operand.tmp 26, Operand.tmp 27], argTypes := #[3, 22] }, type := 29, pos := "prim.go:88", after := #[{ on := 5, ground := Ground.data }, { on := 6, ground := Ground.data }, { on := 4, ground := Ground.chain }, { on := 4, ground := Ground.guard }], guard := some (4, false) }) (by rfl) ?_ (fun K hK => ?_)
              · kernel_rfl
              go_simp
              refine (HD _).mono ?_
              rintro e w' ⟨rfl, hb⟩
              refine hK.out _ _ ?_ (fun hHeld => ?_)
              · exact ⟨argb hb hHeld.1, argb hb hHeld.2.1, argb hb hHeld.2.2.1, argb hb hHeld.2.2.2⟩
              clear hK K
              try simp only [Act.put, List.setIfInBounds_toArray, List.set_cons_zero, List.set_cons_succ]
              refine Reg.G_on (o := { dst := some 30, op := Op.binOp BinOp.neq 29 (Operand.tmp 28) (Operand.tmp 29) 29, type := 4, pos := "prim.go:88", after := #[{ on := 7, ground := Ground.data }, { on := 8, ground := Ground.data }, { on := 4, ground := Ground.guard }], guard := some (4, false) }) (v := ?_) (by rfl) ?_ (fun wS hSw => ?_) ?_
              rotate_left
              · kernel_rfl
              · (try dsimp only at hSw); go_simp; (try with_reducible rfl)
              try simp only [Act.put, List.setIfInBounds_toArray, List.set_cons_zero, List.set_cons_succ]
              refine Reg.G_on (o := { dst := some 31, op := Op.pick (Operand.tmp 25) (Operand.const (Value.bool true)) (Operand.tmp 30), type := 4, pos := "prim.go:88", after := #[{ on := 4, ground := Ground.data }, { on := 9, ground := Ground.data }], guard := Option.none }) (v := ?_) (by rfl) ?_ (fun wS hSw => ?_) ?_
              rotate_left
              · kernel_rfl
              · (try dsimp only at hSw); go_simp; (try with_reducible rfl)
              try simp only [Act.put, List.setIfInBounds_toArray, List.set_cons_zero, List.set_cons_succ]
              refine Reg.G_done ?_
              go_wp2
              go_ret2
              exact ⟨rfl, b0.drew.trans ((bstep hb1 hb).mono hsz)⟩
            · obtain rfl : r = false := by rw [← hr]; simp [h4]
              have h5 : ¬ (dt.toList = []) := fun h => h4 ((nil_list dt).1 h)
              subst h1 h2 h3
              clear hr
              go_enter Try.func19, Try.ntmps19
              go_wp2_with fail
              refine Reg.wp_plan (S := fun w' => w'.cell? ⟨w.heap.size, 0, none⟩ = some (.int .i64 da) ∧ w'.cell? ⟨w.heap.size, 1, none⟩ = some (.bool false) ∧ w'.cell? ⟨w.heap.size, 2, none⟩ = some (.int .u64 dc) ∧ w'.cell? ⟨w.heap.size, 3, none⟩ = some (.string dt)) 11 (.fl 0 (.fl 1 (.one 2 (.fl 3 (.fl 4 (.fl 5 (.fl 6 (.fl 8 (.one 7 (.fl 9 (.fl 10 .done))))))))))) (by kernel_rfl) (by kernel_rfl) (by kernel_rfl) (by kernel_rfl) (fun _ _ _ d _ h => by cases d <;> exact h) ?_ (fun hHeld => ?_)
              · exact ⟨by simp, by simp, by simp, by simp⟩
              refine Reg.G_on (o := { dst := some 21, op := Op.move (Operand.tmp 0), type := 3, pos := "prim.go:88", after := #[], guard := Option.none }) (v := ?_) (by rfl) ?_ (fun wS hSw => ?_) ?_
              rotate_left
              · kernel_rfl
              · (try dsimp only at hSw); go_simp; (try with_reducible rfl)
              try simp only [Act.put, List.setIfInBounds_toArray, List.set_cons_zero, List.set_cons_succ]
              refine Reg.G_on (o := { dst := some 22, op := Op.move (Operand.tmp 6), type := 22, pos := "prim.go:88", after := #[], guard := Option.none }) (v := ?_) (by rfl) ?_ (fun wS hSw => ?_) ?_
              rotate_left
              · kernel_rfl
              · (try dsimp only at hSw); go_simp; (try with_reducible rfl)
              try simp only [Act.put, List.setIfInBounds_toArray, List.set_cons_zero, List.set_cons_succ]
              refine Reg.G_step (o := { dst := some 23, op := Op.call { callee := Callee.value (Operand.func 12), args := #[Operand.tmp 21, Operand.tmp 22], argTypes := #[3, 22] }, type := 4, pos := "prim.go:88", after := #[{ on := 0, ground := Ground.data }, { on := 1, ground := Ground.data }], guard := Option.none }) (by rfl) ?_ (fun K hK => ?_)
              · kernel_rfl
              go_simp
              refine (HM _).mono ?_
              rintro e w' ⟨rfl, hb⟩
              refine hK.out _ _ ?_ (fun hHeld => ?_)
              · exact ⟨argb hb hHeld.1, argb hb hHeld.2.1, argb hb hHeld.2.2.1, argb hb hHeld.2.2.2⟩
              clear hK K
              try simp only [Act.put, List.setIfInBounds_toArray, List.set_cons_zero, List.set_cons_succ]
              refine Reg.G_on (o := { dst := some 24, op := Op.unOp UnOp.not 4 (Operand.tmp 23), type := 4, pos := "prim.go:88", after := #[{ on := 2, ground := Ground.data }], guard := Option.none }) (v := ?_) (by rfl) ?_ (fun wS hSw => ?_) ?_
              rotate_left
              · kernel_rfl
              · (try dsimp only at hSw); go_simp; (try with_reducible rfl)
              try simp only [Act.put, List.setIfInBounds_toArray, List.set_cons_zero, List.set_cons_succ]
              refine Reg.G_on (o := { dst := some 25, op := Op.move (Operand.tmp 24), type := 4, pos := "prim.go:88", after := #[{ on := 3, ground := Ground.data }, { on := 2, ground := Ground.chain }], guard := Option.none }) (v := ?_) (by rfl) ?_ (fun wS hSw => ?_) ?_
              rotate_left
              · kernel_rfl
              · (try dsimp only at hSw); go_simp; (try with_reducible rfl)
              try simp only [Act.put, List.setIfInBounds_toArray, List.set_cons_zero, List.set_cons_succ]
              refine Reg.G_on (o := { dst := some 26, op := Op.move (Operand.tmp 0), type := 3, pos := "prim.go:88", after := #[{ on := 4, ground := Ground.guard }], guard := some (4, false) }) (v := ?_) (by rfl) ?_ (fun wS hSw => ?_) ?_
              rotate_left
              · kernel_rfl
              · (try dsimp only at hSw); go_simp; (try with_reducible rfl)
              try simp only [Act.put, List.setIfInBounds_toArray, List.set_cons_zero, List.set_cons_succ]
              refine Reg.G_on (o := { dst := some 27, op := Op.move (Operand.tmp 6), type := 22, pos := "prim.go:88", after := #[{ on := 4, ground := Ground.guard }], guard := some (4, false) }) (v := ?_) (by rfl) ?_ (fun wS hSw => ?_) ?_
              rotate_left
              · kernel_rfl
              · (try dsimp only at hSw); go_simp; (try with_reducible rfl)
              try simp only [Act.put, List.setIfInBounds_toArray, List.set_cons_zero, List.set_cons_succ]
              refine Reg.G_on (o := { dst := some 29, op := Op.load 29 (Operand.tmp 3), type := 29, pos := "prim.go:88", after := #[{ on := 4, ground := Ground.guard }], guard := some (4, false) }) (v := ?_) (by rfl) ?_ (fun wS hSw => ?_) ?_
              rotate_left
              · kernel_rfl
              · (try dsimp only at hSw); go_simp; (try with_reducible rfl)
              try simp only [Act.put, List.setIfInBounds_toArray, List.set_cons_zero, List.set_cons_succ]
              have hb1 := hb
              clear hb
              refine Reg.G_step (o := { dst := some 28, op := Op.call { callee := Callee.value (Operand.func 21), args := #[Operand.tmp 26, Operand.tmp 27], argTypes := #[3, 22] }, type := 29, pos := "prim.go:88", after := #[{ on := 5, ground := Ground.data }, { on := 6, ground := Ground.data }, { on := 4, ground := Ground.chain }, { on := 4, ground := Ground.guard }], guard := some (4, false) }) (by rfl) ?_ (fun K hK => ?_)
              · kernel_rfl
              go_simp
              refine (HD _).mono ?_
              rintro e w' ⟨rfl, hb⟩
              refine hK.out _ _ ?_ (fun hHeld => ?_)
              · exact ⟨argb hb hHeld.1, argb hb hHeld.2.1, argb hb hHeld.2.2.1, argb hb hHeld.2.2.2⟩
              clear hK K
              try simp only [Act.put, List.setIfInBounds_toArray, List.set_cons_zero, List.set_cons_succ]
              refine Reg.G_on (o := { dst := some 30, op := Op.binOp BinOp.neq 29 (Operand.tmp 28) (Operand.tmp 29) 29, type := 4, pos := "prim.go:88", after := #[{ on := 7, ground := Ground.data }, { on := 8, ground := Ground.data }, { on := 4, ground := Ground.guard }], guard := some (4, false) }) (v := ?_) (by rfl) ?_ (fun wS hSw => ?_) ?_
              rotate_left
              · kernel_rfl
              · (try dsimp only at hSw); go_simp; (try with_reducible rfl)
              try simp only [Act.put, List.setIfInBounds_toArray, List.set_cons_zero, List.set_cons_succ]
              refine Reg.G_on (o := { dst := some 31, op := Op.pick (Operand.tmp 25) (Operand.const (Value.bool true)) (Operand.tmp 30), type := 4, pos := "prim.go:88", after := #[{ on := 4, ground := Ground.data }, { on := 9, ground := Ground.data }], guard := Option.none }) (v := ?_) (by rfl) ?_ (fun wS hSw => ?_) ?_
              rotate_left
              · kernel_rfl
              · (try dsimp only at hSw); go_simp; (try with_reducible rfl)
              try simp only [Act.put, List.setIfInBounds_toArray, List.set_cons_zero, List.set_cons_succ]
              refine Reg.G_done ?_
              go_wp2
              go_ret2
              exact ⟨rfl, b0.drew.trans ((bstep hb1 hb).mono hsz)⟩
          · obtain rfl : r = false := by rw [← hr]; simp [h3]
            subst h1 h2
            clear hr
            go_enter Try.func19, Try.ntmps19
            go_wp2_with fail
            refine Reg.wp_plan (S := fun w' => w'.cell? ⟨w.heap.size, 0, none⟩ = some (.int .i64 da) ∧ w'.cell? ⟨w.heap.size, 1, none⟩ = some (.bool false) ∧ w'.cell? ⟨w.heap.size, 2, none⟩ = some (.int .u64 dm) ∧ w'.cell? ⟨w.heap.size, 3, none⟩ = some (.string dt)) 11 (.fl 0 (.fl 1 (.one 2 (.fl 3 (.fl 4 (.fl 5 (.fl 6 (.fl 8 (.one 7 (.fl 9 (.fl 10 .done))))))))))) (by kernel_rfl) (by kernel_rfl) (by kernel_rfl) (by kernel_rfl) (fun _ _ _ d _ h => by cases d <;> exact h) ?_ (fun hHeld => ?_)
            · exact ⟨by simp, by simp, by simp, by simp⟩
            refine Reg.G_on (o := { dst := some 21, op := Op.move (Operand.tmp 0), type := 3, pos := "prim.go:88", after := #[], guard := Option.none }) (v := ?_) (by rfl) ?_ (fun wS hSw => ?_) ?_
            rotate_left
            · kernel_rfl
            · (try dsimp only at hSw); go_simp; (try with_reducible rfl)
            try simp only [Act.put, List.setIfInBounds_toArray, List.set_cons_zero, List.set_cons_succ]
            refine Reg.G_on (o := { dst := some 22, op := Op.move (Operand.tmp 6), type := 22, pos := "prim.go:88", after := #[], guard := Option.none }) (v := ?_) (by rfl) ?_ (fun wS hSw => ?_) ?_
            rotate_left
            · kernel_rfl
            · (try dsimp only at hSw); go_simp; (try with_reducible rfl)
            try simp only [Act.put, List.setIfInBounds_toArray, List.set_cons_zero, List.set_cons_succ]
            refine Reg.G_step (o := { dst := some 23, op := Op.call { callee := Callee.value (Operand.func 12), args := #[Operand.tmp 21, Operand.tmp 22], argTypes := #[3, 22] }, type := 4, pos := "prim.go:88", after := #[{ on := 0, ground := Ground.data }, { on := 1, ground := Ground.data }], guard := Option.none }) (by rfl) ?_ (fun K hK => ?_)
            · kernel_rfl
            go_simp
            refine (HM _).mono ?_
            rintro e w' ⟨rfl, hb⟩
            refine hK.out _ _ ?_ (fun hHeld => ?_)
            · exact ⟨argb hb hHeld.1, argb hb hHeld.2.1, argb hb hHeld.2.2.1, argb hb hHeld.2.2.2⟩
            clear hK K
            try simp only [Act.put, List.setIfInBounds_toArray, List.set_cons_zero, List.set_cons_succ]
            refine Reg.G_on (o := { dst := some 24, op := Op.unOp UnOp.not 4 (Operand.tmp 23), type := 4, pos := "prim.go:88", after := #[{ on := 2, ground := Ground.data }], guard := Option.none }) (v := ?_) (by rfl) ?_ (fun wS hSw => ?_) ?_
            rotate_left
            · kernel_rfl
            · (try dsimp only at hSw); go_simp; (try with_reducible rfl)
            try simp only [Act.put, List.setIfInBounds_toArray, List.set_cons_zero, List.set_cons_succ]
            refine Reg.G_on (o := { dst := some 25, op := Op.move (Operand.tmp 24), type := 4, pos := "prim.go:88", after := #[{ on := 3, ground := Ground.data }, { on := 2, ground := Ground.chain }], guard := Option.none }) (v := ?_) (by rfl) ?_ (fun wS hSw => ?_) ?_
            rotate_left
            · kernel_rfl
            · (try dsimp only at hSw); go_simp; (try with_reducible rfl)
            try simp only [Act.put, List.setIfInBounds_toArray, List.set_cons_zero, List.set_cons_succ]
            refine Reg.G_on (o := { dst := some 26, op := Op.move (Operand.tmp 0), type := 3, pos := "prim.go:88", after := #[{ on := 4, ground := Ground.guard }], guard := some (4, false) }) (v := ?_) (by rfl) ?_ (fun wS hSw => ?_) ?_
            rotate_left
            · kernel_rfl
            · (try dsimp only at hSw); go_simp; (try with_reducible rfl)
            try simp only [Act.put, List.setIfInBounds_toArray, List.set_cons_zero, List.set_cons_succ]
            refine Reg.G_on (o := { dst := some 27, op := Op.move (Operand.tmp 6), type := 22, pos := "prim.go:88", after := #[{ on := 4, ground := Ground.guard }], guard := some (4, false) }) (v := ?_) (by rfl) ?_ (fun wS hSw => ?_) ?_
            rotate_left
            · kernel_rfl
            · (try dsimp only at hSw); go_simp; (try with_reducible rfl)
            try simp only [Act.put, List.setIfInBounds_toArray, List.set_cons_zero, List.set_cons_succ]
            refine Reg.G_on (o := { dst := some 29, op := Op.load 29 (Operand.tmp 3), type := 29, pos := "prim.go:88", after := #[{ on := 4, ground := Ground.guard }], guard := some (4, false) }) (v := ?_) (by rfl) ?_ (fun wS hSw => ?_) ?_
            rotate_left
            · kernel_rfl
            · (try dsimp only at hSw); go_simp; (try with_reducible rfl)
            try simp only [Act.put, List.setIfInBounds_toArray, List.set_cons_zero, List.set_cons_succ]
            have hb1 := hb
            clear hb
            refine Reg.G_step (o := { dst := some 28, op := Op.call { callee := Callee.value (Operand.func 21), args := #[Operand.tmp 26, Operand.tmp 27], argTypes := #[3, 22] }, type := 29, pos := "prim.go:88", after := #[{ on := 5, ground := Ground.data }, { on := 6, ground := Ground.data }, { on := 4, ground := Ground.chain }, { on := 4, ground := Ground.guard }], guard := some (4, false) }) (by rfl) ?_ (fun K hK => ?_)
            · kernel_rfl
            go_simp
            refine (HD _).mono ?_
            rintro e w' ⟨rfl, hb⟩
            refine hK.out _ _ ?_ (fun hHeld => ?_)
            · exact ⟨argb hb hHeld.1, argb hb hHeld.2.1, argb hb hHeld.2.2.1, argb hb hHeld.2.2.2⟩
            clear hK K
            try simp only [Act.put, List.setIfInBounds_toArray, List.set_cons_zero, List.set_cons_succ]
            refine Reg.G_on (o := { dst := some 30, op := Op.binOp BinOp.neq 29 (Operand.tmp 28) (Operand.tmp 29) 29, type := 4, pos := "prim.go:88", after := #[{ on := 7, ground := Ground.data }, { on := 8, ground := Ground.data }, { on := 4, ground := Ground.guard }], guard := some (4, false) }) (v := ?_) (by rfl) ?_ (fun wS hSw => ?_) ?_
            rotate_left
            · kernel_rfl
            · (try dsimp only at hSw); go_simp; (try with_reducible rfl)
            try simp only [Act.put, List.setIfInBounds_toArray, List.set_cons_zero, List.set_cons_succ]
            refine Reg.G_on (o := { dst := some 31, op := Op.pick (Operand.tmp 25) (Operand.const (Value.bool true)) (Operand.tmp 30), type := 4, pos := "prim.go:88", after := #[{ on := 4, ground := Ground.data }, { on := 9, ground := Ground.data }], guard := Option.none }) (v := ?_) (by rfl) ?_ (fun wS hSw => ?_) ?_
            rotate_left
            · kernel_rfl
            · (try dsimp only at hSw); go_simp; (try with_reducible rfl)
            try simp only [Act.put, List.setIfInBounds_toArray, List.set_cons_zero, List.set_cons_succ]
            refine Reg.G_done ?_
            go_wp2
            go_ret2
            exact ⟨rfl, b0.drew.trans ((bstep hb1 hb).mono hsz)⟩
        · obtain rfl : r = false := by rw [← hr]; simp [h2]
          subst h1
          have h6 : db = !false := by cases db <;> simp_all
          subst h6
          clear hr h2
          go_enter Try.func19, Try.ntmps19
          go_wp2_with fail
          refine Reg.wp_plan (S := fun w' => w'.cell? ⟨w.heap.size, 0, none⟩ = some (.int .i64 da) ∧ w'.cell? ⟨w.heap.size, 1, none⟩ = some (.bool false) ∧ w'.cell? ⟨w.heap.size, 2, none⟩ = some (.int .u64 dm) ∧ w'.cell? ⟨w.heap.size, 3, none⟩ = some (.string dt)) 11 (.fl 0 (.fl 1 (.one 2 (.fl 3 (.fl 4 (.fl 5 (.fl 6 (.fl 8 (.one 7 (.fl 9 (.fl 10 .done))))))))))) (by kernel_rfl) (by kernel_rfl) (by kernel_rfl) (by kernel_rfl) (fun _ _ _ d _ h => by cases d <;> exact h) ?_ (fun hHeld => ?_)
          · exact ⟨by simp, by simp, by simp, by simp⟩
          refine Reg.G_on (o := { dst := some 21, op := Op.move (Operand.tmp 0), type := 3, pos := "prim.go:88", after := #[], guard := Option.none }) (v := ?_) (by rfl) ?_ (fun wS hSw => ?_) ?_
          rotate_left
          · kernel_rfl
          · (try dsimp only at hSw); go_simp; (try with_reducible rfl)
          try simp only [Act.put, List.setIfInBounds_toArray, List.set_cons_zero, List.set_cons_succ]
          refine Reg.G_on (o := { dst := some 22, op := Op.move (Operand.tmp 6), type := 22, pos := "prim.go:88", after := #[], guard := Option.none }) (v := ?_) (by rfl) ?_ (fun wS hSw => ?_) ?_
          rotate_left
          · kernel_rfl
          · (try dsimp only at hSw); go_simp; (try with_reducible rfl)
          try simp only [Act.put, List.setIfInBounds_toArray, List.set_cons_zero, List.set_cons_succ]
          refine Reg.G_step (o := { dst := some 23, op := Op.call { callee := Callee.value (Operand.func 12), args := #[Operand.tmp 21, Operand.tmp 22], argTypes := #[3, 22] }, type := 4, pos := "prim.go:88", after := #[{ on := 0, ground := Ground.data }, { on := 1, ground := Ground.data }], guard := Option.none }) (by rfl) ?_ (fun K hK => ?_)
          · kernel_rfl
          go_simp
          refine (HM _).mono ?_
          rintro e w' ⟨rfl, hb⟩
          refine hK.out _ _ ?_ (fun hHeld => ?_)
          · exact ⟨argb hb hHeld.1, argb hb hHeld.2.1, argb hb hHeld.2.2.1, argb hb hHeld.2.2.2⟩
          clear hK K
          try simp only [Act.put, List.setIfInBounds_toArray, List.set_cons_zero, List.set_cons_succ]
          refine Reg.G_on (o := { dst := some 24, op := Op.unOp UnOp.not 4 (Operand.tmp 23), type := 4, pos := "prim.go:88", after := #[{ on := 2, ground := Ground.data }], guard := Option.none }) (v := ?_) (by rfl) ?_ (fun wS hSw => ?_) ?_
          rotate_left
          · kernel_rfl
          · (try dsimp only at hSw); go_simp; (try with_reducible rfl)
          try simp only [Act.put, List.setIfInBounds_toArray, List.set_cons_zero, List.set_cons_succ]
          refine Reg.G_on (o := { dst := some 25, op := Op.move (Operand.tmp 24), type := 4, pos := "prim.go:88", after := #[{ on := 3, ground := Ground.data }, { on := 2, ground := Ground.chain }], guard := Option.none }) (v := ?_) (by rfl) ?_ (fun wS hSw => ?_) ?_
          rotate_left
          · kernel_rfl
          · (try dsimp only at hSw); go_simp; (try with_reducible rfl)
          try simp only [Act.put, List.setIfInBounds_toArray, List.set_cons_zero, List.set_cons_succ]
          refine Reg.G_on (o := { dst := some 26, op := Op.move (Operand.tmp 0), type := 3, pos := "prim.go:88", after := #[{ on := 4, ground := Ground.guard }], guard := some (4, false) }) (v := ?_) (by rfl) ?_ (fun wS hSw => ?_) ?_
          rotate_left
          · kernel_rfl
          · (try dsimp only at hSw); go_simp; (try with_reducible rfl)
          try simp only [Act.put, List.setIfInBounds_toArray, List.set_cons_zero, List.set_cons_succ]
          refine Reg.G_on (o := { dst := some 27, op := Op.move (Operand.tmp 6), type := 22, pos := "prim.go:88", after := #[{ on := 4, ground := Ground.guard }], guard := some (4, false) }) (v := ?_) (by rfl) ?_ (fun wS hSw => ?_) ?_
          rotate_left
          · kernel_rfl
          · (try dsimp only at hSw); go_simp; (try with_reducible rfl)
          try simp only [Act.put, List.setIfInBounds_toArray, List.set_cons_zero, List.set_cons_succ]
          refine Reg.G_on (o := { dst := some 29, op := Op.load 29 (Operand.tmp 3), type := 29, pos := "prim.go:88", after := #[{ on := 4, ground := Ground.guard }], guard := some (4, false) }) (v := ?_) (by rfl) ?_ (fun wS hSw => ?_) ?_
          rotate_left
          · kernel_rfl
          · (try dsimp only at hSw); go_simp; (try with_reducible rfl)
          try simp only [Act.put, List.setIfInBounds_toArray, List.set_cons_zero, List.set_cons_succ]
          have hb1 := hb
          clear hb
          refine Reg.G_step (o := { dst := some 28, op := Op.call { callee := Callee.value (Operand.func 21), args := #[Operand.tmp 26, Operand.tmp 27], argTypes := #[3, 22] }, type := 29, pos := "prim.go:88", after := #[{ on := 5, ground := Ground.data }, { on := 6, ground := Ground.data }, { on := 4, ground := Ground.chain }, { on := 4, ground := Ground.guard }], guard := some (4, false) }) (by rfl) ?_ (fun K hK => ?_)
          · kernel_rfl
          go_simp
          refine (HD _).mono ?_
          rintro e w' ⟨rfl, hb⟩
          refine hK.out _ _ ?_ (fun hHeld => ?_)
          · exact ⟨argb hb hHeld.1, argb hb hHeld.2.1, argb hb hHeld.2.2.1, argb hb hHeld.2.2.2⟩
          clear hK K
          try simp only [Act.put, List.setIfInBounds_toArray, List.set_cons_zero, List.set_cons_succ]
          refine Reg.G_on (o := { dst := some 30, op := Op.binOp BinOp.neq 29 (Operand.tmp 28) (Operand.tmp 29) 29, type := 4, pos := "prim.go:88", after := #[{ on := 7, ground := Ground.data }, { on := 8, ground := Ground.data }, { on := 4, ground := Ground.guard }], guard := some (4, false) }) (v := ?_) (by rfl) ?_ (fun wS hSw => ?_) ?_
          rotate_left
          · kernel_rfl
          · (try dsimp only at hSw); go_simp; (try with_reducible rfl)
          try simp only [Act.put, List.setIfInBounds_toArray, List.set_cons_zero, List.set_cons_succ]
          refine Reg.G_on (o := { dst := some 31, op := Op.pick (Operand.tmp 25) (Operand.const (Value.bool true)) (Operand.tmp 30), type := 4, pos := "prim.go:88", after := #[{ on := 4, ground := Ground.data }, { on := 9, ground := Ground.data }], guard := Option.none }) (v := ?_) (by rfl) ?_ (fun wS hSw => ?_) ?_
          rotate_left
          · kernel_rfl
          · (try dsimp only at hSw); go_simp; (try with_reducible rfl)
          try simp only [Act.put, List.setIfInBounds_toArray, List.set_cons_zero, List.set_cons_succ]
          refine Reg.G_done ?_
          go_wp2
          go_ret2
          exact ⟨rfl, b0.drew.trans ((bstep hb1 hb).mono hsz)⟩
      · obtain rfl : r = false := by rw [← hr]; simp [h1]
        clear hr
        go_enter Try.func19, Try.ntmps19
        go_wp2_with fail
        refine Reg.wp_plan (S := fun w' => w'.cell? ⟨w.heap.size, 0, none⟩ = some (.int .i64 dk) ∧ w'.cell? ⟨w.heap.size, 1, none⟩ = some (.bool false) ∧ w'.cell? ⟨w.heap.size, 2, none⟩ = some (.int .u64 dm) ∧ w'.cell? ⟨w.heap.size, 3, none⟩ = some (.string dt)) 11 (.fl 0 (.fl 1 (.one 2 (.fl 3 (.fl 4 (.fl 5 (.fl 6 (.fl 8 (.one 7 (.fl 9 (.fl 10 .done))))))))))) (by kernel_rfl) (by kernel_rfl) (by kernel_rfl) (by kernel_rfl) (fun _ _ _ d _ h => by cases d <;> exact h) ?_ (fun hHeld => ?_)
        · exact ⟨by simp, by simp, by simp, by simp⟩
        refine Reg.G_on (o := { dst := some 21, op := Op.move (Operand.tmp 0), type := 3, pos := "prim.go:88", after := #[], guard := Option.none }) (v := ?_) (by rfl) ?_ (fun wS hSw => ?_) ?_
        rotate_left
        · kernel_rfl
        · (try dsimp only at hSw); go_simp; (try with_reducible rfl)
        try simp only [Act.put, List.setIfInBounds_toArray, List.set_cons_zero, List.set_cons_succ]
        refine Reg.G_on (o := { dst := some 22, op := Op.move (Operand.tmp 6), type := 22, pos := "prim.go:88", after := #[], guard := Option.none }) (v := ?_) (by rfl) ?_ (fun wS hSw => ?_) ?_
        rotate_left
        · kernel_rfl
        · (try dsimp only at hSw); go_simp; (try with_reducible rfl)
        try simp only [Act.put, List.setIfInBounds_toArray, List.set_cons_zero, List.set_cons_succ]
        refine Reg.G_step (o := { dst := some 23, op := Op.call { callee := Callee.value (Operand.func 12), args := #[Operand.tmp 21, Operand.tmp 22], argTypes := #[3, 22] }, type := 4, pos := "prim.go:88", after := #[{ on := 0, ground := Ground.data }, { on := 1, ground := Ground.data }], guard := Option.none }) (by rfl) ?_ (fun K hK => ?_)
        · kernel_rfl
        go_simp
        refine (HM _).mono ?_
        rintro e w' ⟨rfl, hb⟩
        refine hK.out _ _ ?_ (fun hHeld => ?_)
        · exact ⟨argb hb hHeld.1, argb hb hHeld.2.1, argb hb hHeld.2.2.1, argb hb hHeld.2.2.2⟩
        clear hK K
        try simp only [Act.put, List.setIfInBounds_toArray, List.set_cons_zero, List.set_cons_succ]
        refine Reg.G_on (o := { dst := some 24, op := Op.unOp UnOp.not 4 (Operand.tmp 23), type := 4, pos := "prim.go:88", after := #[{ on := 2, ground := Ground.data }], guard := Option.none }) (v := ?_) (by rfl) ?_ (fun wS hSw => ?_) ?_
        rotate_left
        · kernel_rfl
        · (try dsimp only at hSw); go_simp; (try with_reducible rfl)
        try simp only [Act.put, List.setIfInBounds_toArray, List.set_cons_zero, List.set_cons_succ]
        refine Reg.G_on (o := { dst := some 25, op := Op.move (Operand.tmp 24), type := 4, pos := "prim.go:88", after := #[{ on := 3, ground := Ground.data }, { on := 2, ground := Ground.chain }], guard := Option.none }) (v := ?_) (by rfl) ?_ (fun wS hSw => ?_) ?_
        rotate_left
        · kernel_rfl
        · (try dsimp only at hSw); go_simp; (try with_reducible rfl)
        try simp only [Act.put, List.setIfInBounds_toArray, List.set_cons_zero, List.set_cons_succ]
        refine Reg.G_on (o := { dst := some 26, op := Op.move (Operand.tmp 0), type := 3, pos := "prim.go:88", after := #[{ on := 4, ground := Ground.guard }], guard := some (4, false) }) (v := ?_) (by rfl) ?_ (fun wS hSw => ?_) ?_
        rotate_left
        · kernel_rfl
        · (try dsimp only at hSw); go_simp; (try with_reducible rfl)
        try simp only [Act.put, List.setIfInBounds_toArray, List.set_cons_zero, List.set_cons_succ]
        refine Reg.G_on (o := { dst := some 27, op := Op.move (Operand.tmp 6), type := 22, pos := "prim.go:88", after := #[{ on := 4, ground := Ground.guard }], guard := some (4, false) }) (v := ?_) (by rfl) ?_ (fun wS hSw => ?_) ?_
        rotate_left
        · kernel_rfl
        · (try dsimp only at hSw); go_simp; (try with_reducible rfl)
        try simp only [Act.put, List.setIfInBounds_toArray, List.set_cons_zero, List.set_cons_succ]
        refine Reg.G_on (o := { dst := some 29, op := Op.load 29 (Operand.tmp 3), type := 29, pos := "prim.go:88", after := #[{ on := 4, ground := Ground.guard }], guard := some (4, false) }) (v := ?_) (by rfl) ?_ (fun wS hSw => ?_) ?_
        rotate_left
        · kernel_rfl
        · (try dsimp only at hSw); go_simp; (try with_reducible rfl)
        try simp only [Act.put, List.setIfInBounds_toArray, List.set_cons_zero, List.set_cons_succ]
        have hb1 := hb
        clear hb
        refine Reg.G_step (o := { dst := some 28, op := Op.call { callee := Callee.value (Operand.func 21), args := #[Operand.tmp 26, Operand.tmp 27], argTypes := #[3, 22] }, type := 29, pos := "prim.go:88", after := #[{ on := 5, ground := Ground.data }, { on := 6, ground := Ground.data }, { on := 4, ground := Ground.chain }, { on := 4, ground := Ground.guard }], guard := some (4, false) }) (by rfl) ?_ (fun K hK => ?_)
        · kernel_rfl
        go_simp
        refine (HD _).mono ?_
        rintro e w' ⟨rfl, hb⟩
        refine hK.out _ _ ?_ (fun hHeld => ?_)
        · exact ⟨argb hb hHeld.1, argb hb hHeld.2.1, argb hb hHeld.2.2.1, argb hb hHeld.2.2.2⟩
        clear hK K
        try simp only [Act.put, List.setIfInBounds_toArray, List.set_cons_zero, List.set_cons_succ]
        refine Reg.G_on (o := { dst := some 30, op := Op.binOp BinOp.neq 29 (Operand.tmp 28) (Operand.tmp 29) 29, type := 4, pos := "prim.go:88", after := #[{ on := 7, ground := Ground.data }, { on := 8, ground := Ground.data }, { on := 4, ground := Ground.guard }], guard := some (4, false) }) (v := ?_) (by rfl) ?_ (fun wS hSw => ?_) ?_
        rotate_left
        · kernel_rfl
        · (try dsimp only at hSw); go_simp; (try with_reducible rfl)
        try simp only [Act.put, List.setIfInBounds_toArray, List.set_cons_zero, List.set_cons_succ]
        refine Reg.G_on (o := { dst := some 31, op := Op.pick (Operand.tmp 25) (Operand.const (Value.bool true)) (Operand.tmp 30), type := 4, pos := "prim.go:88", after := #[{ on := 4, ground := Ground.data }, { on := 9, ground := Ground.data }], guard := Option.none }) (v := ?_) (by rfl) ?_ (fun wS hSw => ?_) ?_
        rotate_left
        · kernel_rfl
        · (try dsimp only at hSw); go_simp; (try with_reducible rfl)
        try simp only [Act.put, List.setIfInBounds_toArray, List.set_cons_zero, List.set_cons_succ]
        refine Reg.G_done ?_
        go_wp2
        go_ret2
        exact ⟨rfl, b0.drew.trans ((bstep hb1 hb).mono hsz)⟩
  | true =>
    by_cases hm : dm = 0
    · subst hm
      rw [show ng true 0 = false from rfl, show nn true 0 = 0 from rfl]
      clear hrn
      have b1 : Below w.heap.size w (w.alloc (.cells #[.int .i64 dk, .bool false, .int .u64 0, .string dt] 29)) := (Below.refl _ _).alloc (Nat.le_refl _) _
      have hs1 : w.heap.size ≤ (w.alloc (.cells #[.int .i64 dk, .bool false, .int .u64 0, .string dt] 29)).drew.heap.size := by simp
      have HM := fun W => may_ k 0 (by omega) (by omega) W
      have HD := fun W => datum k 0 (by omega) (by omega) W
      generalize may k 0 = mb at *
      generalize dat k 0 = dd at *
      obtain ⟨da, db, dc⟩ := dd
      generalize hr : (mb && (decide ((da, db, dc) = (dk, false, (0 : Int))) && decide (dt = ⟨#[]⟩))) = r
      clear h0 h1
      cases mb with
      | false =>
        obtain rfl : r = false := by rw [← hr]; rfl
        clear hr HD
        go_enter Try.func19, Try.ntmps19
        go_wp2_with fail
        refine Reg.wp_plan (S := fun w' => w'.cell? ⟨w.heap.size, 0, none⟩ = some (.int .i64 dk) ∧ w'.cell? ⟨w.heap.size, 1, none⟩ = some (.bool false) ∧ w'.cell? ⟨w.heap.size, 2, none⟩ = some (.int .u64 (0 : Int)) ∧ w'.cell? ⟨w.heap.size, 3, none⟩ = some (.string dt)) 11 (.fl 0 (.fl 1 (.one 2 (.fl 3 (.fl 4 (.fl 5 (.fl 6 (.fl 8 (.one 7 (.fl 9 (.fl 10 .done))))))))))) (by kernel_rfl) (by kernel_rfl) (by kernel_rfl) (by kernel_rfl) (fun _ _ _ d _ h => by cases d <;> exact h) ?_ (fun hHeld => ?_)
        · exact ⟨by simp, by simp, by simp, by simp⟩
        refine Reg.G_on (o := { dst := some 21, op := Op.move (Operand.tmp 0), type := 3, pos := "prim.go:88", after := #[], guard := Option.none }) (v := ?_) (by rfl) ?_ (fun wS hSw => ?_) ?_
        rotate_left
        · kernel_rfl
        · (try dsimp only at hSw); go_simp; (try with_reducible rfl)
        try simp only [Act.put, List.setIfInBounds_toArray, List.set_cons_zero, List.set_cons_succ]
        refine Reg.G_on (o := { dst := some 22, op := Op.move (Operand.tmp 6), type := 22, pos := "prim.go:88", after := #[], guard := Option.none }) (v := ?_) (by rfl) ?_ (fun wS hSw => ?_) ?_
        rotate_left
        · kernel_rfl
        · (try dsimp only at hSw); go_simp; (try with_reducible rfl)
        try simp only [Act.put, List.setIfInBounds_toArray, List.set_cons_zero, List.set_cons_succ]
        refine Reg.G_step (o := { dst := some 23, op := Op.call { callee := Callee.value (Operand.func 12), args := #[Operand.tmp 21, Operand.tmp 22], argTypes := #[3, 22] }, type := 4, pos := "prim.go:88", after := #[{ on := 0, ground := Ground.data }, { on := 1, ground := Ground.data }], guard := Option.none }) (by rfl) ?_ (fun K hK => ?_)
        · kernel_rfl
        go_simp
        refine (HM _).mono ?_
        rintro e w' ⟨rfl, hb⟩
        refine hK.out _ _ ?_ (fun hHeld => ?_)
        · exact ⟨argb hb hHeld.1, argb hb hHeld.2.1, argb hb hHeld.2.2.1, argb hb hHeld.2.2.2⟩
        clear hK K
        try simp only [Act.put, List.setIfInBounds_toArray, List.set_cons_zero, List.set_cons_succ]
        refine Reg.G_on (o := { dst := some 24, op := Op.unOp UnOp.not 4 (Operand.tmp 23), type := 4, pos := "prim.go:88", after := #[{ on := 2, ground := Ground.data }], guard := Option.none }) (v := ?_) (by rfl) ?_ (fun wS hSw => ?_) ?_
        rotate_left
        · kernel_rfl
        · (try dsimp only at hSw); go_simp; (try with_reducible rfl)
        try simp only [Act.put, List.setIfInBounds_toArray, List.set_cons_zero, List.set_cons_succ]
        refine Reg.G_on (o := { dst := some 25, op := Op.move (Operand.tmp 24), type := 4, pos := "prim.go:88", after := #[{ on := 3, ground := Ground.data }, { on := 2, ground := Ground.chain }], guard := Option.none }) (v := ?_) (by rfl) ?_ (fun wS hSw => ?_) ?_
        rotate_left
        · kernel_rfl
        · (try dsimp only at hSw); go_simp; (try with_reducible rfl)
        try simp only [Act.put, List.setIfInBounds_toArray, List.set_cons_zero, List.set_cons_succ]
        refine Reg.G_off (o := { dst := some 26, op := Op.move (Operand.tmp 0), type := 3, pos := "prim.go:88", after := #[{ on := 4, ground := Ground.guard }], guard := some (4, false) }) (by rfl) ?_ ?_
        · kernel_rfl
        try simp only [Act.put, List.setIfInBounds_toArray, List.set_cons_zero, List.set_cons_succ]
        refine Reg.G_off (o := { dst := some 27, op := Op.move (Operand.tmp 6), type := 22, pos := "prim.go:88", after := #[{ on := 4, ground := Ground.guard }], guard := some (4, false) }) (by rfl) ?_ ?_
        · kernel_rfl
        try simp only [Act.put, List.setIfInBounds_toArray, List.set_cons_zero, List.set_cons_succ]
        refine Reg.G_off (o := { dst := some 29, op := Op.load 29 (Operand.tmp 3), type := 29, pos := "prim.go:88", after := #[{ on := 4, ground := Ground.guard }], guard := some (4, false) }) (by rfl) ?_ ?_
        · kernel_rfl
        try simp only [Act.put, List.setIfInBounds_toArray, List.set_cons_zero, List.set_cons_succ]
        refine Reg.G_skip (o := { dst := some 28, op := Op.call { callee := Callee.value (Operand.func 21), args := #[Operand.tmp 26, Operand.tmp 27], argTypes := #[3, 22] }, type := 29, pos := "prim.go:88", after := #[{ on := 5, ground := Ground.data }, { on := 6, ground := Ground.data }, { on := 4, ground := Ground.chain }, { on := 4, ground := Ground.guard }], guard := some (4, false) }) (by rfl) ?_ (by assumption) ?_
        · kernel_rfl
        try simp only [Act.put, List.setIfInBounds_toArray, List.set_cons_zero, List.set_cons_succ]
        refine Reg.G_off (o := { dst := some 30, op := Op.binOp BinOp.neq 29 (Operand.tmp 28) (Operand.tmp 29) 29, type := 4, pos := "prim.go:88", after := #[{ on := 7, ground := Ground.data }, { on := 8, ground := Ground.data }, { on := 4, ground := Ground.guard }], guard := some (4, false) }) (by rfl) ?_ ?_
        · kernel_rfl
        try simp only [Act.put, List.setIfInBounds_toArray, List.set_cons_zero, List.set_cons_succ]
        refine Reg.G_on (o := { dst := some 31, op := Op.pick (Operand.tmp 25) (Operand.const (Value.bool true)) (Operand.tmp 30), type := 4, pos := "prim.go:88", after := #[{ on := 4, ground := Ground.data }, { on := 9, ground := Ground.data }], guard := Option.none }) (v := ?_) (by rfl) ?_ (fun wS hSw => ?_) ?_
        rotate_left
        · kernel_rfl
        · (try dsimp only at hSw); go_simp; (try with_reducible rfl)
        try simp only [Act.put, List.setIfInBounds_toArray, List.set_cons_zero, List.set_cons_succ]
        refine Reg.G_done ?_
        go_wp2
        go_ret2
        exact ⟨rfl, b1.drew.trans (hb.mono hs1)⟩
      | true =>
        by_cases h1 : da = dk
        · by_cases h2 : db = false
          · by_cases h3 : dc = (0 : Int)
            · by_cases h4 : dt = ⟨#[]⟩
              · subst h1 h2 h3 h4
                obtain rfl : r = true := by rw [← hr]; simp
                clear hr
                go_enter Try.func19, Try.ntmps19
                go_wp2_with fail
                refine Reg.wp_plan (S := fun w' => w'.cell? ⟨w.heap.size, 0, none⟩ = some (.int .i64 da) ∧ w'.cell? ⟨w.heap.size, 1, none⟩ = some (.bool false) ∧ w'.cell? ⟨w.heap.size, 2, none⟩ = some (.int .u64 (0 : Int)) ∧ w'.cell? ⟨w.heap.size, 3, none⟩ = some (.string (⟨#[]⟩ : ByteArray))) 11 (.fl 0 (.fl 1 (.one 2 (.fl 3 (.fl 4 (.fl 5 (.fl 6 (.fl 8 (.one 7 (.fl 9 (.fl 10 .done))))))))))) (by kernel_rfl) (by kernel_rfl) (by kernel_rfl) (by kernel_rfl) (fun _ _ _ d _ h => by cases d <;> exact h) ?_ (fun hHeld => ?_)
                · exact ⟨by simp, by simp, by simp, by simp⟩
                refine Reg.G_on (o := { dst := some 21, op := Op.move (Operand.tmp 0), type := 3, pos := "prim.go:88", after := #[], guard := Option.none }) (v := ?_) (by rfl) ?_ (fun wS hSw => ?_) ?_
                rotate_left
                · kernel_rfl
                · (try dsimp only at hSw); go_simp; (try with_reducible rfl)
                try simp only [Act.put, List.setIfInBounds_toArray, List.set_cons_zero, List.set_cons_succ]
                refine Reg.G_on (o := { dst := some 22, op := Op.move (Operand.tmp 6), type := 22, pos := "prim.go:88", after := #[], guard := Option.none }) (v := ?_) (by rfl) ?_ (fun wS hSw => ?_) ?_
                rotate_left
                · kernel_rfl
                · (try dsimp only at hSw); go_simp; (try with_reducible rfl)
                try simp only [Act.put, List.setIfInBounds_toArray, List.set_cons_zero, List.set_cons_succ]
                refine Reg.G_step (o := { dst := some 23, op := Op.call { callee := Callee.value (Operand.func 12), args := #[Operand.tmp 21, Operand.tmp 22], argTypes := #[3, 22] }, type := 4, pos := "prim.go:88", after := #[{ on := 0, ground := Ground.data }, { on := 1, ground := Ground.data }], guard := Option.none }) (by rfl) ?_ (fun K hK => ?_)
                · kernel_rfl
                go_simp
                refine (HM _).mono ?_
                rintro e w' ⟨rfl, hb⟩
                refine hK.out _ _ ?_ (fun hHeld => ?_)
                · exact ⟨argb hb hHeld.1, argb hb hHeld.2.1, argb hb hHeld.2.2.1, argb hb hHeld.2.2.2⟩
                clear hK K
                try simp only [Act.put, List.setIfInBounds_toArray, List.set_cons_zero, List.set_cons_succ]
                refine Reg.G_on (o := { dst := some 24, op := Op.unOp UnOp.not 4 (Operand.tmp 23), type := 4, pos := "prim.go:88", after := #[{ on := 2, ground := Ground.data }], guard := Option.none }) (v := ?_) (by rfl) ?_ (fun wS hSw => ?_) ?_
                rotate_left
                · kernel_rfl
                · (try dsimp only at hSw); go_simp; (try with_reducible rfl)
                try simp only [Act.put, List.setIfInBounds_toArray, List.set_cons_zero, List.set_cons_succ]
                refine Reg.G_on (o := { dst := some 25, op := Op.move (Operand.tmp 24), type := 4, pos := "prim.go:88", after := #[{ on := 3, ground := Ground.data }, { on := 2, ground := Ground.chain }], guard := Option.none }) (v := ?_) (by rfl) ?_ (fun wS hSw => ?_) ?_
                rotate_left
                · kernel_rfl
                · (try dsimp only at hSw); go_simp; (try with_reducible rfl)
                try simp only [Act.put, List.setIfInBounds_toArray, List.set_cons_zero, List.set_cons_succ]
                refine Reg.G_on (o := { dst := some 26, op := Op.move (Operand.tmp 0), type := 3, pos := "prim.go:88", after := #[{ on := 4, ground := Ground.guard }], guard := some (4, false) }) (v := ?_) (by rfl) ?_ (fun wS hSw => ?_) ?_
                rotate_left
                · kernel_rfl
                · (try dsimp only at hSw); go_simp; (try with_reducible rfl)
                try simp only [Act.put, List.setIfInBounds_toArray, List.set_cons_zero, List.set_cons_succ]
                refine Reg.G_on (o := { dst := some 27, op := Op.move (Operand.tmp 6), type := 22, pos := "prim.go:88", after := #[{ on := 4, ground := Ground.guard }], guard := some (4, false) }) (v := ?_) (by rfl) ?_ (fun wS hSw => ?_) ?_
                rotate_left
                · kernel_rfl
                · (try dsimp only at hSw); go_simp; (try with_reducible rfl)
                try simp only [Act.put, List.setIfInBounds_toArray, List.set_cons_zero, List.set_cons_succ]
                refine Reg.G_on (o := { dst := some 29, op := Op.load 29 (Operand.tmp 3), type := 29, pos := "prim.go:88", after := #[{ on := 4, ground := Ground.guard }], guard := some (4, false) }) (v := ?_) (by rfl) ?_ (fun wS hSw => ?_) ?_
                rotate_left
                · kernel_rfl
                · (try dsimp only at hSw); go_simp; (try with_reducible rfl)
                try simp only [Act.put, List.setIfInBounds_toArray, List.set_cons_zero, List.set_cons_succ]
                have hb1 := hb
                clear hb
                refine Reg.G_step (o := { dst := some 28, op := Op.call { callee := Callee.value (Operand.func 21), args := #[Operand.tmp 26, Operand.tmp 27], argTypes := #[3, 22] }, type := 29, pos := "prim.go:88", after := #[{ on := 5, ground := Ground.data }, { on := 6, ground := Ground.data }, { on := 4, ground := Ground.chain }, { on := 4, ground := Ground.guard }], guard := some (4, false) }) (by rfl) ?_ (fun K hK => ?_)
                · kernel_rfl
                go_simp
                refine (HD _).mono ?_
                rintro e w' ⟨rfl, hb⟩
                refine hK.out _ _ ?_ (fun hHeld => ?_)
                · exact ⟨argb hb hHeld.1, argb hb hHeld.2.1, argb hb hHeld.2.2.1, argb hb hHeld.2.2.2⟩
                clear hK K
                try simp only [Act.put, List.setIfInBounds_toArray, List.set_cons_zero, List.set_cons_succ]
                refine Reg.G_on (o := { dst := some 30, op := Op.binOp BinOp.neq 29 (Operand.tmp 28) (Operand.tmp 29) 29, type := 4, pos := "prim.go:88", after := #[{ on := 7, ground := Ground.data }, { on := 8, ground := Ground.data }, { on := 4, ground := Ground.guard }], guard := some (4, false) }) (v := ?_) (by rfl) ?_ (fun wS hSw => ?_) ?_
                rotate_left
                · kernel_rfl
                · (try dsimp only at hSw); go_simp; (try with_reducible rfl)
                try simp only [Act.put, List.setIfInBounds_toArray, List.set_cons_zero, List.set_cons_succ]
                refine Reg.G_on (o := { dst := some 31, op := Op.pick (Operand.tmp 25) (Operand.const (Value.bool true)) (Operand.tmp 30), type := 4, pos := "prim.go:88", after := #[{ on := 4, ground := Ground.data }, { on := 9, ground := Ground.data }], guard := Option.none }) (v := ?_) (by rfl) ?_ (fun wS hSw => ?_) ?_
                rotate_left
                · kernel_rfl
                · (try dsimp only at hSw); go_simp; (try with_reducible rfl)
                try simp only [Act.put, List.setIfInBounds_toArray, List.set_cons_zero, List.set_cons_succ]
                refine Reg.G_done ?_
                go_wp2
                go_ret2
                exact ⟨rfl, b1.drew.trans ((bstep hb1 hb).mono hs1)⟩
              · obtain rfl : r = false := by rw [← hr]; simp [h4]
                have h5 : ¬ (dt.toList = []) := fun h => h4 ((nil_list dt).1 h)
                subst h1 h2 h3
                clear hr
                go_enter Try.func19, Try.ntmps19
                go_wp2_with fail
                refine Reg.wp_plan (S := fun w' => w'.cell? ⟨w.heap.size, 0, none⟩ = some (.int .i64 da) ∧ w'.cell? ⟨w.heap.size, 1, none⟩ = some (.bool false) ∧ w'.cell? ⟨w.heap.size, 2, none⟩ = some (.int .u64 (0 : Int)) ∧ w'.cell? ⟨w.heap.size, 3, none⟩ = some (.string dt)) 11 (.fl 0 (.fl 1 (.one 2 (.fl 3 (.fl 4 (.fl 5 (.fl 6 (.fl 8 (.one 7 (.fl 9 (.fl 10 .done))))))))))) (by kernel_rfl) (by kernel_rfl) (by kernel_rfl) (by kernel_rfl) (fun _ _ _ d _ h => by cases d <;> exact h) ?_ (fun hHeld => ?_)
                · exact ⟨by simp, by simp, by simp, by simp⟩
                refine Reg.G_on (o := { dst := some 21, op := Op.move (Operand.tmp 0), type := 3, pos := "prim.go:88", after := #[], guard := Option.none }) (v := ?_) (by rfl) ?_ (fun wS hSw => ?_) ?_
                rotate_left
                · kernel_rfl
                · (try dsimp only at hSw); go_simp; (try with_reducible rfl)
                try simp only [Act.put, List.setIfInBounds_toArray, List.set_cons_zero, List.set_cons_succ]
                refine Reg.G_on (o := { dst := some 22, op := Op.move (Operand.tmp 6), type := 22, pos := "prim.go:88", after := #[], guard := Option.none }) (v := ?_) (by rfl) ?_ (fun wS hSw => ?_) ?_
                rotate_left
                · kernel_rfl
                · (try dsimp only at hSw); go_simp; (try with_reducible rfl)
                try simp only [Act.put, List.setIfInBounds_toArray, List.set_cons_zero, List.set_cons_succ]
                refine Reg.G_step (o := { dst := some 23, op := Op.call { callee := Callee.value (Operand.func 12), args := #[Operand.tmp 21, Operand.tmp 22], argTypes := #[3, 22] }, type := 4, pos := "prim.go:88", after := #[{ on := 0, ground := Ground.data }, { on := 1, ground := Ground.data }], guard := Option.none }) (by rfl) ?_ (fun K hK => ?_)
                · kernel_rfl
                go_simp
                refine (HM _).mono ?_
                rintro e w' ⟨rfl, hb⟩
                refine hK.out _ _ ?_ (fun hHeld => ?_)
                · exact ⟨argb hb hHeld.1, argb hb hHeld.2.1, argb hb hHeld.2.2.1, argb hb hHeld.2.2.2⟩
                clear hK K
                try simp only [Act.put, List.setIfInBounds_toArray, List.set_cons_zero, List.set_cons_succ]
                refine Reg.G_on (o := { dst := some 24, op := Op.unOp UnOp.not 4 (Operand.tmp 23), type := 4, pos := "prim.go:88", after := #[{ on := 2, ground := Ground.data }], guard := Option.none }) (v := ?_) (by rfl) ?_ (fun wS hSw => ?_) ?_
                rotate_left
                · kernel_rfl
                · (try dsimp only at hSw); go_simp; (try with_reducible rfl)
                try simp only [Act.put, List.setIfInBounds_toArray, List.set_cons_zero, List.set_cons_succ]
                refine Reg.G_on (o := { dst := some 25, op := Op.move (Operand.tmp 24), type := 4, pos := "prim.go:88", after := #[{ on := 3, ground := Ground.data }, { on := 2, ground := Ground.chain }], guard := Option.none }) (v := ?_) (by rfl) ?_ (fun wS hSw => ?_) ?_
                rotate_left
                · kernel_rfl
                · (try dsimp only at hSw); go_simp; (try with_reducible rfl)
                try simp only [Act.put, List.setIfInBounds_toArray, List.set_cons_zero, List.set_cons_succ]
                refine Reg.G_on (o := { dst := some 26, op := Op.move (Operand.tmp 0), type := 3, pos := "prim.go:88", after := #[{ on := 4, ground := Ground.guard }], guard := some (4, false) }) (v := ?_) (by rfl) ?_ (fun wS hSw => ?_) ?_
                rotate_left
                · kernel_rfl
                · (try dsimp only at hSw); go_simp; (try with_reducible rfl)
                try simp only [Act.put, List.setIfInBounds_toArray, List.set_cons_zero, List.set_cons_succ]
                refine Reg.G_on (o := { dst := some 27, op := Op.move (Operand.tmp 6), type := 22, pos := "prim.go:88", after := #[{ on := 4, ground := Ground.guard }], guard := some (4, false) }) (v := ?_) (by rfl) ?_ (fun wS hSw => ?_) ?_
                rotate_left
                · kernel_rfl
                · (try dsimp only at hSw); go_simp; (try with_reducible rfl)
                try simp only [Act.put, List.setIfInBounds_toArray, List.set_cons_zero, List.set_cons_succ]
                refine Reg.G_on (o := { dst := some 29, op := Op.load 29 (Operand.tmp 3), type := 29, pos := "prim.go:88", after := #[{ on := 4, ground := Ground.guard }], guard := some (4, false) }) (v := ?_) (by rfl) ?_ (fun wS hSw => ?_) ?_
                rotate_left
                · kernel_rfl
                · (try dsimp only at hSw); go_simp; (try with_reducible rfl)
                try simp only [Act.put, List.setIfInBounds_toArray, List.set_cons_zero, List.set_cons_succ]
                have hb1 := hb
                clear hb
                refine Reg.G_step (o := { dst := some 28, op := Op.call { callee := Callee.value (Operand.func 21), args := #[Operand.tmp 26, Operand.tmp 27], argTypes := #[3, 22] }, type := 29, pos := "prim.go:88", after := #[{ on := 5, ground := Ground.data }, { on := 6, ground := Ground.data }, { on := 4, ground := Ground.chain }, { on := 4, ground := Ground.guard }], guard := some (4, false) }) (by rfl) ?_ (fun K hK => ?_)
                · kernel_rfl
                go_simp
                refine (HD _).mono ?_
                rintro e w' ⟨rfl, hb⟩
                refine hK.out _ _ ?_ (fun hHeld => ?_)
                · exact ⟨argb hb hHeld.1, argb hb hHeld.2.1, argb hb hHeld.2.2.1, argb hb hHeld.2.2.2⟩
                clear hK K
                try simp only [Act.put, List.setIfInBounds_toArray, List.set_cons_zero, List.set_cons_succ]
                refine Reg.G_on (o := { dst := some 30, op := Op.binOp BinOp.neq 29 (Operand.tmp 28) (Operand.tmp 29) 29, type := 4, pos := "prim.go:88", after := #[{ on := 7, ground := Ground.data }, { on := 8, ground := Ground.data }, { on := 4, ground := Ground.guard }], guard := some (4, false) }) (v := ?_) (by rfl) ?_ (fun wS hSw => ?_) ?_
                rotate_left
                · kernel_rfl
                · (try dsimp only at hSw); go_simp; (try with_reducible rfl)
                try simp only [Act.put, List.setIfInBounds_toArray, List.set_cons_zero, List.set_cons_succ]
                refine Reg.G_on (o := { dst := some 31, op := Op.pick (Operand.tmp 25) (Operand.const (Value.bool true)) (Operand.tmp 30), type := 4, pos := "prim.go:88", after := #[{ on := 4, ground := Ground.data }, { on := 9, ground := Ground.data }], guard := Option.none }) (v := ?_) (by rfl) ?_ (fun wS hSw => ?_) ?_
                rotate_left
                · kernel_rfl
                · (try dsimp only at hSw); go_simp; (try with_reducible rfl)
                try simp only [Act.put, List.setIfInBounds_toArray, List.set_cons_zero, List.set_cons_succ]
                refine Reg.G_done ?_
                go_wp2
                go_ret2
                exact ⟨rfl, b1.drew.trans ((bstep hb1 hb).mono hs1)⟩
            · obtain rfl : r = false := by rw [← hr]; simp [h3]
              subst h1 h2
              clear hr
              go_enter Try.func19, Try.ntmps19
              go_wp2_with fail
              refine Reg.wp_plan (S := fun w' => w'.cell? ⟨w.heap.size, 0, none⟩ = some (.int .i64 da) ∧ w'.cell? ⟨w.heap.size, 1, none⟩ = some (.bool false) ∧ w'.cell? ⟨w.heap.size, 2, none⟩ = some (.int .u64 (0 : Int)) ∧ w'.cell? ⟨w.heap.size, 3, none⟩ = some (.string dt)) 11 (.fl 0 (.fl 1 (.one 2 (.fl 3 (.fl 4 (.fl 5 (.fl 6 (.fl 8 (.one 7 (.fl 9 (.fl 10 .done))))))))))) (by kernel_rfl) (by kernel_rfl) (by kernel_rfl) (by kernel_rfl) (fun _ _ _ d _ h => by cases d <;> exact h) ?_ (fun hHeld => ?_)
              · exact ⟨by simp, by simp, by simp, by simp⟩
              refine Reg.G_on (o := { dst := some 21, op := Op.move (Operand.tmp 0), type := 3, pos := "prim.go:88", after := #[], guard := Option.none }) (v := ?_) (by rfl) ?_ (fun wS hSw => ?_) ?_
              rotate_left
              · kernel_rfl
              · (try dsimp only at hSw); go_simp; (try with_reducible rfl)
              try simp only [Act.put, List.setIfInBounds_toArray, List.set_cons_zero, List.set_cons_succ]
              refine Reg.G_on (o := { dst := some 22, op := Op.move (Operand.tmp 6), type := 22, pos := "prim.go:88", after := #[], guard := Option.none }) (v := ?_) (by rfl) ?_ (fun wS hSw => ?_) ?_
              rotate_left
              · kernel_rfl
              · (try dsimp only at hSw); go_simp; (try with_reducible rfl)
              try simp only [Act.put, List.setIfInBounds_toArray, List.set_cons_zero, List.set_cons_succ]
              refine Reg.G_step (o := { dst := some 23, op := Op.call { callee := Callee.value (Operand.func 12), args := #[Operand.tmp 21, Operand.tmp 22], argTypes := #[3, 22] }, type := 4, pos := "prim.go:88", after := #[{ on := 0, ground := Ground.data }, { on := 1, ground := Ground.data }], guard := Option.none }) (by rfl) ?_ (fun K hK => ?_)
              · kernel_rfl
              go_simp
              refine (HM _).mono ?_
              rintro e w' ⟨rfl, hb⟩
              refine hK.out _ _ ?_ (fun hHeld => ?_)
              · exact ⟨argb hb hHeld.1, argb hb hHeld.2.1, argb hb hHeld.2.2.1, argb hb hHeld.2.2.2⟩
              clear hK K
              try simp only [Act.put, List.setIfInBounds_toArray, List.set_cons_zero, List.set_cons_succ]
              refine Reg.G_on (o := { dst := some 24, op := Op.unOp UnOp.not 4 (Operand.tmp 23), type := 4, pos := "prim.go:88", after := #[{ on := 2, ground := Ground.data }], guard := Option.none }) (v := ?_) (by rfl) ?_ (fun wS hSw => ?_) ?_
              rotate_left
              · kernel_rfl
              · (try dsimp only at hSw); go_simp; (try with_reducible rfl)
              try simp only [Act.put, List.setIfInBounds_toArray, List.set_cons_zero, List.set_cons_succ]
              refine Reg.G_on (o := { dst := some 25, op := Op.move (Operand.tmp 24), type := 4, pos := "prim.go:88", after := #[{ on := 3, ground := Ground.data }, { on := 2, ground := Ground.chain }], guard := Option.none }) (v := ?_) (by rfl) ?_ (fun wS hSw => ?_) ?_
              rotate_left
              · kernel_rfl
              · (try dsimp only at hSw); go_simp; (try with_reducible rfl)
              try simp only [Act.put, List.setIfInBounds_toArray, List.set_cons_zero, List.set_cons_succ]
              refine Reg.G_on (o := { dst := some 26, op := Op.move (Operand.tmp 0), type := 3, pos := "prim.go:88", after := #[{ on := 4, ground := Ground.guard }], guard := some (4, false) }) (v := ?_) (by rfl) ?_ (fun wS hSw => ?_) ?_
              rotate_left
              · kernel_rfl
              · (try dsimp only at hSw); go_simp; (try with_reducible rfl)
              try simp only [Act.put, List.setIfInBounds_toArray, List.set_cons_zero, List.set_cons_succ]
              refine Reg.G_on (o := { dst := some 27, op := Op.move (Operand.tmp 6), type := 22, pos := "prim.go:88", after := #[{ on := 4, ground := Ground.guard }], guard := some (4, false) }) (v := ?_) (by rfl) ?_ (fun wS hSw => ?_) ?_
              rotate_left
              · kernel_rfl
              · (try dsimp only at hSw); go_simp; (try with_reducible rfl)
              try simp only [Act.put, List.setIfInBounds_toArray, List.set_cons_zero, List.set_cons_succ]
              refine Reg.G_on (o := { dst := some 29, op := Op.load 29 (Operand.tmp 3), type := 29, pos := "prim.go:88", after := #[{ on := 4, ground := Ground.guard }], guard := some (4, false) }) (v := ?_) (by rfl) ?_ (fun wS hSw => ?_) ?_
              rotate_left
              · kernel_rfl
              · (try dsimp only at hSw); go_simp; (try with_reducible rfl)
              try simp only [Act.put, List.setIfInBounds_toArray, List.set_cons_zero, List.set_cons_succ]
              have hb1 := hb
              clear hb
              refine Reg.G_step (o := { dst := some 28, op := Op.call { callee := Callee.value (Operand.func 21), args := #[Operand.tmp 26, Operand.tmp 27], argTypes := #[3, 22] }, type := 29, pos := "prim.go:88", after := #[{ on := 5, ground := Ground.data }, { on := 6, ground := Ground.data }, { on := 4, ground := Ground.chain }, { on := 4, ground := Ground.guard }], guard := some (4, false) }) (by rfl) ?_ (fun K hK => ?_)
              · kernel_rfl
              go_simp
              refine (HD _).mono ?_
              rintro e w' ⟨rfl, hb⟩
              refine hK.out _ _ ?_ (fun hHeld => ?_)
              · exact ⟨argb hb hHeld.1, argb hb hHeld.2.1, argb hb hHeld.2.2.1, argb hb hHeld.2.2.2⟩
              clear hK K
              try simp only [Act.put, List.setIfInBounds_toArray, List.set_cons_zero, List.set_cons_succ]
              refine Reg.G_on (o := { dst := some 30, op := Op.binOp BinOp.neq 29 (Operand.tmp 28) (Operand.tmp 29) 29, type := 4, pos := "prim.go:88", after := #[{ on := 7, ground := Ground.data }, { on := 8, ground := Ground.data }, { on := 4, ground := Ground.guard }], guard := some (4, false) }) (v := ?_) (by rfl) ?_ (fun wS hSw => ?_) ?_
              rotate_left
              · kernel_rfl
              · (try dsimp only at hSw); go_simp; (try with_reducible rfl)
              try simp only [Act.put, List.setIfInBounds_toArray, List.set_cons_zero, List.set_cons_succ]
              refine Reg.G_on (o := { dst := some 31, op := Op.pick (Operand.tmp 25) (Operand.const (Value.bool true)) (Operand.tmp 30), type := 4, pos := "prim.go:88", after := #[{ on := 4, ground := Ground.data }, { on := 9, ground := Ground.data }], guard := Option.none }) (v := ?_) (by rfl) ?_ (fun wS hSw => ?_) ?_
              rotate_left
              · kernel_rfl
              · (try dsimp only at hSw); go_simp; (try with_reducible rfl)
              try simp only [Act.put, List.setIfInBounds_toArray, List.set_cons_zero, List.set_cons_succ]
              refine Reg.G_done ?_
              go_wp2
              go_ret2
              exact ⟨rfl, b1.drew.trans ((bstep hb1 hb).mono hs1)⟩
          · obtain rfl : r = false := by rw [← hr]; simp [h2]
            subst h1
            have h6 : db = !false := by cases db <;> simp_all
            subst h6
            clear hr h2
            go_enter Try.func19, Try.ntmps19
            go_wp2_with fail
            refine Reg.wp_plan (S := fun w' => w'.cell? ⟨w.heap.size, 0, none⟩ = some (.int .i64 da) ∧ w'.cell? ⟨w.heap.size, 1, none⟩ = some (.bool false) ∧ w'.cell? ⟨w.heap.size, 2, none⟩ = some (.int .u64 (0 : Int)) ∧ w'.cell? ⟨w.heap.size, 3, none⟩ = some (.string dt)) 11 (.fl 0 (.fl 1 (.one 2 (.fl 3 (.fl 4 (.fl 5 (.fl 6 (.fl 8 (.one 7 (.fl 9 (.fl 10 .done))))))))))) (by kernel_rfl) (by kernel_rfl) (by kernel_rfl) (by kernel_rfl) (fun _ _ _ d _ h => by cases d <;> exact h) ?_ (fun hHeld => ?_)
            · exact ⟨by simp, by simp, by simp, by simp⟩
            refine Reg.G_on (o := { dst := some 21, op := Op.move (Operand.tmp 0), type := 3, pos := "prim.go:88", after := #[], guard := Option.none }) (v := ?_) (by rfl) ?_ (fun wS hSw => ?_) ?_
            rotate_left
            · kernel_rfl
            · (try dsimp only at hSw); go_simp; (try with_reducible rfl)
            try simp only [Act.put, List.setIfInBounds_toArray, List.set_cons_zero, List.set_cons_succ]
            refine Reg.G_on (o := { dst := some 22, op := Op.move (Operand.tmp 6), type := 22, pos := "prim.go:88", after := #[], guard := Option.none }) (v := ?_) (by rfl) ?_ (fun wS hSw => ?_) ?_
            rotate_left
            · kernel_rfl
            · (try dsimp only at hSw); go_simp; (try with_reducible rfl)
            try simp only [Act.put, List.setIfInBounds_toArray, List.set_cons_zero, List.set_cons_succ]
            refine Reg.G_step (o := { dst := some 23, op := Op.call { callee := Callee.value (Operand.func 12), args := #[Operand.tmp 21, Operand.tmp 22], argTypes := #[3, 22] }, type := 4, pos := "prim.go:88", after := #[{ on := 0, ground := Ground.data }, { on := 1, ground := Ground.data }], guard := Option.none }) (by rfl) ?_ (fun K hK => ?_)
            · kernel_rfl
            go_simp
            refine (HM _).mono ?_
            rintro e w' ⟨rfl, hb⟩
            refine hK.out _ _ ?_ (fun hHeld => ?_)
            · exact ⟨argb hb hHeld.1, argb hb hHeld.2.1, argb hb hHeld.2.2.1, argb hb hHeld.2.2.2⟩
            clear hK K
            try simp only [Act.put, List.setIfInBounds_toArray, List.set_cons_zero, List.set_cons_succ]
            refine Reg.G_on (o := { dst := some 24, op := Op.unOp UnOp.not 4 (Operand.tmp 23), type := 4, pos := "prim.go:88", after := #[{ on := 2, ground := Ground.data }], guard := Option.none }) (v := ?_) (by rfl) ?_ (fun wS hSw => ?_) ?_
            rotate_left
            · kernel_rfl
            · (try dsimp only at hSw); go_simp; (try with_reducible rfl)
            try simp only [Act.put, List.setIfInBounds_toArray, List.set_cons_zero, List.set_cons_succ]
            refine Reg.G_on (o := { dst := some 25, op := Op.move (Operand.tmp 24), type := 4, pos := "prim.go:88", after := #[{ on := 3, ground := Ground.data }, { on := 2, ground := Ground.chain }], guard := Option.none }) (v := ?_) (by rfl) ?_ (fun wS hSw => ?_) ?_
            rotate_left
            · kernel_rfl
            · (try dsimp only at hSw); go_simp; (try with_reducible rfl)
            try simp only [Act.put, List.setIfInBounds_toArray, List.set_cons_zero, List.set_cons_succ]
            refine Reg.G_on (o := { dst := some 26, op := Op.move (Operand.tmp 0), type := 3, pos := "prim.go:88", after := #[{ on := 4, ground := Ground.guard }], guard := some (4, false) }) (v := ?_) (by rfl) ?_ (fun wS hSw => ?_) ?_
            rotate_left
            · kernel_rfl
            · (try dsimp only at hSw); go_simp; (try with_reducible rfl)
            try simp only [Act.put, List.setIfInBounds_toArray, List.set_cons_zero, List.set_cons_succ]
            refine Reg.G_on (o := { dst := some 27, op := Op.move (Operand.tmp 6), type := 22, pos := "prim.go:88", after := #[{ on := 4, ground := Ground.guard }], guard := some (4, false) }) (v := ?_) (by rfl) ?_ (fun wS hSw => ?_) ?_
            rotate_left
            · kernel_rfl
            · (try dsimp only at hSw); go_simp; (try with_reducible rfl)
            try simp only [Act.put, List.setIfInBounds_toArray, List.set_cons_zero, List.set_cons_succ]
            refine Reg.G_on (o := { dst := some 29, op := Op.load 29 (Operand.tmp 3), type := 29, pos := "prim.go:88", after := #[{ on := 4, ground := Ground.guard }], guard := some (4, false) }) (v := ?_) (by rfl) ?_ (fun wS hSw => ?_) ?_
            rotate_left
            · kernel_rfl
            · (try dsimp only at hSw); go_simp; (try with_reducible rfl)
            try simp only [Act.put, List.setIfInBounds_toArray, List.set_cons_zero, List.set_cons_succ]
            have hb1 := hb
            clear hb
            refine Reg.G_step (o := { dst := some 28, op := Op.call { callee := Callee.value (Operand.func 21), args := #[Operand.tmp 26, Operand.tmp 27], argTypes := #[3, 22] }, type := 29, pos := "prim.go:88", after := #[{ on := 5, ground := Ground.data }, { on := 6, ground := Ground.data }, { on := 4, ground := Ground.chain }, { on := 4, ground := Ground.guard }], guard := some (4, false) }) (by rfl) ?_ (fun K hK => ?_)
            · kernel_rfl
            go_simp
            refine (HD _).mono ?_
            rintro e w' ⟨rfl, hb⟩
            refine hK.out _ _ ?_ (fun hHeld => ?_)
            · exact ⟨argb hb hHeld.1, argb hb hHeld.2.1, argb hb hHeld.2.2.1, argb hb hHeld.2.2.2⟩
            clear hK K
            try simp only [Act.put, List.setIfInBounds_toArray, List.set_cons_zero, List.set_cons_succ]
            refine Reg.G_on (o := { dst := some 30, op := Op.binOp BinOp.neq 29 (Operand.tmp 28) (Operand.tmp 29) 29, type := 4, pos := "prim.go:88", after := #[{ on := 7, ground := Ground.data }, { on := 8, ground := Ground.data }, { on := 4, ground := Ground.guard }], guard := some (4, false) }) (v := ?_) (by rfl) ?_ (fun wS hSw => ?_) ?_
            rotate_left
            · kernel_rfl
            · (try dsimp only at hSw); go_simp; (try with_reducible rfl)
            try simp only [Act.put, List.setIfInBounds_toArray, List.set_cons_zero, List.set_cons_succ]
            refine Reg.G_on (o := { dst := some 31, op := Op.pick (Operand.tmp 25) (Operand.const (Value.bool true)) (Operand.tmp 30), type := 4, pos := "prim.go:88", after := #[{ on := 4, ground := Ground.data }, { on := 9, ground := Ground.data }], guard := Option.none }) (v := ?_) (by rfl) ?_ (fun wS hSw => ?_) ?_
            rotate_left
            · kernel_rfl
            · (try dsimp only at hSw); go_simp; (try with_reducible rfl)
            try simp only [Act.put, List.setIfInBounds_toArray, List.set_cons_zero, List.set_cons_succ]
            refine Reg.G_done ?_
            go_wp2
            go_ret2
            exact ⟨rfl, b1.drew.trans ((bstep hb1 hb).mono hs1)⟩
        · obtain rfl : r = false := by rw [← hr]; simp [h1]
          clear hr
          go_enter Try.func19, Try.ntmps19
          go_wp2_with fail
          refine Reg.wp_plan (S := fun w' => w'.cell? ⟨w.heap.size, 0, none⟩ = some (.int .i64 dk) ∧ w'.cell? ⟨w.heap.size, 1, none⟩ = some (.bool false) ∧ w'.cell? ⟨w.heap.size, 2, none⟩ = some (.int .u64 (0 : Int)) ∧ w'.cell? ⟨w.heap.size, 3, none⟩ = some (.string dt)) 11 (.fl 0 (.fl 1 (.one 2 (.fl 3 (.fl 4 (.fl 5 (.fl 6 (.fl 8 (.one 7 (.fl 9 (.fl 10 .done))))))))))) (by kernel_rfl) (by kernel_rfl) (by kernel_rfl) (by kernel_rfl) (fun _ _ _ d _ h => by cases d <;> exact h) ?_ (fun hHeld => ?_)
          · exact ⟨by simp, by simp, by simp, by simp⟩
          refine Reg.G_on (o := { dst := some 21, op := Op.move (Operand.tmp 0), type := 3, pos := "prim.go:88", after := #[], guard := Option.none }) (v := ?_) (by rfl) ?_ (fun wS hSw => ?_) ?_
          rotate_left
          · kernel_rfl
          · (try dsimp only at hSw); go_simp; (try with_reducible rfl)
          try simp only [Act.put, List.setIfInBounds_toArray, List.set_cons_zero, List.set_cons_succ]
          refine Reg.G_on (o := { dst := some 22, op := Op.move (Operand.tmp 6), type := 22, pos := "prim.go:88", after := #[], guard := Option.none }) (v := ?_) (by rfl) ?_ (fun wS hSw => ?_) ?_
          rotate_left
          · kernel_rfl
          · (try dsimp only at hSw); go_simp; (try with_reducible rfl)
          try simp only [Act.put, List.setIfInBounds_toArray, List.set_cons_zero, List.set_cons_succ]
          refine Reg.G_step (o := { dst := some 23, op := Op.call { callee := Callee.value (Operand.func 12), args := #[Operand.tmp 21, Operand.tmp 22], argTypes := #[3, 22] }, type := 4, pos := "prim.go:88", after := #[{ on := 0, ground := Ground.data }, { on := 1, ground := Ground.data }], guard := Option.none }) (by rfl) ?_ (fun K hK => ?_)
          · kernel_rfl
          go_simp
          refine (HM _).mono ?_
          rintro e w' ⟨rfl, hb⟩
          refine hK.out _ _ ?_ (fun hHeld => ?_)
          · exact ⟨argb hb hHeld.1, argb hb hHeld.2.1, argb hb hHeld.2.2.1, argb hb hHeld.2.2.2⟩
          clear hK K
          try simp only [Act.put, List.setIfInBounds_toArray, List.set_cons_zero, List.set_cons_succ]
          refine Reg.G_on (o := { dst := some 24, op := Op.unOp UnOp.not 4 (Operand.tmp 23), type := 4, pos := "prim.go:88", after := #[{ on := 2, ground := Ground.data }], guard := Option.none }) (v := ?_) (by rfl) ?_ (fun wS hSw => ?_) ?_
          rotate_left
          · kernel_rfl
          · (try dsimp only at hSw); go_simp; (try with_reducible rfl)
          try simp only [Act.put, List.setIfInBounds_toArray, List.set_cons_zero, List.set_cons_succ]
          refine Reg.G_on (o := { dst := some 25, op := Op.move (Operand.tmp 24), type := 4, pos := "prim.go:88", after := #[{ on := 3, ground := Ground.data }, { on := 2, ground := Ground.chain }], guard := Option.none }) (v := ?_) (by rfl) ?_ (fun wS hSw => ?_) ?_
          rotate_left
          · kernel_rfl
          · (try dsimp only at hSw); go_simp; (try with_reducible rfl)
          try simp only [Act.put, List.setIfInBounds_toArray, List.set_cons_zero, List.set_cons_succ]
          refine Reg.G_on (o := { dst := some 26, op := Op.move (Operand.tmp 0), type := 3, pos := "prim.go:88", after := #[{ on := 4, ground := Ground.guard }], guard := some (4, false) }) (v := ?_) (by rfl) ?_ (fun wS hSw => ?_) ?_
          rotate_left
          · kernel_rfl
          · (try dsimp only at hSw); go_simp; (try with_reducible rfl)
          try simp only [Act.put, List.setIfInBounds_toArray, List.set_cons_zero, List.set_cons_succ]
          refine Reg.G_on (o := { dst := some 27, op := Op.move (Operand.tmp 6), type := 22, pos := "prim.go:88", after := #[{ on := 4, ground := Ground.guard }], guard := some (4, false) }) (v := ?_) (by rfl) ?_ (fun wS hSw => ?_) ?_
          rotate_left
          · kernel_rfl
          · (try dsimp only at hSw); go_simp; (try with_reducible rfl)
          try simp only [Act.put, List.setIfInBounds_toArray, List.set_cons_zero, List.set_cons_succ]
          refine Reg.G_on (o := { dst := some 29, op := Op.load 29 (Operand.tmp 3), type := 29, pos := "prim.go:88", after := #[{ on := 4, ground := Ground.guard }], guard := some (4, false) }) (v := ?_) (by rfl) ?_ (fun wS hSw => ?_) ?_
          rotate_left
          · kernel_rfl
          · (try dsimp only at hSw); go_simp; (try with_reducible rfl)
          try simp only [Act.put, List.setIfInBounds_toArray, List.set_cons_zero, List.set_cons_succ]
          have hb1 := hb
          clear hb
          refine Reg.G_step (o := { dst := some 28, op := Op.call { callee := Callee.value (Operand.func 21), args := #[Operand.tmp 26, Operand.tmp 27], argTypes := #[3, 22] }, type := 29, pos := "prim.go:88", after := #[{ on := 5, ground := Ground.data }, { on := 6, ground := Ground.data }, { on := 4, ground := Ground.chain }, { on := 4, ground := Ground.guard }], guard := some (4, false) }) (by rfl) ?_ (fun K hK => ?_)
          · kernel_rfl
          go_simp
          refine (HD _).mono ?_
          rintro e w' ⟨rfl, hb⟩
          refine hK.out _ _ ?_ (fun hHeld => ?_)
          · exact ⟨argb hb hHeld.1, argb hb hHeld.2.1, argb hb hHeld.2.2.1, argb hb hHeld.2.2.2⟩
          clear hK K
          try simp only [Act.put, List.setIfInBounds_toArray, List.set_cons_zero, List.set_cons_succ]
          refine Reg.G_on (o := { dst := some 30, op := Op.binOp BinOp.neq 29 (Operand.tmp 28) (Operand.tmp 29) 29, type := 4, pos := "prim.go:88", after := #[{ on := 7, ground := Ground.data }, { on := 8, ground := Ground.data }, { on := 4, ground := Ground.guard }], guard := some (4, false) }) (v := ?_) (by rfl) ?_ (fun wS hSw => ?_) ?_
          rotate_left
          · kernel_rfl
          · (try dsimp only at hSw); go_simp; (try with_reducible rfl)
          try simp only [Act.put, List.setIfInBounds_toArray, List.set_cons_zero, List.set_cons_succ]
          refine Reg.G_on (o := { dst := some 31, op := Op.pick (Operand.tmp 25) (Operand.const (Value.bool true)) (Operand.tmp 30), type := 4, pos := "prim.go:88", after := #[{ on := 4, ground := Ground.data }, { on := 9, ground := Ground.data }], guard := Option.none }) (v := ?_) (by rfl) ?_ (fun wS hSw => ?_) ?_
          rotate_left
          · kernel_rfl
          · (try dsimp only at hSw); go_simp; (try with_reducible rfl)
          try simp only [Act.put, List.setIfInBounds_toArray, List.set_cons_zero, List.set_cons_succ]
          refine Reg.G_done ?_
          go_wp2
          go_ret2
          exact ⟨rfl, b1.drew.trans ((bstep hb1 hb).mono hs1)⟩
    · have hm2 : (dm != 0) = true := by simpa using hm
      have hm3 : (dm == 0) = false := by simpa using hm
      rw [show ng true dm = true from by unfold ng; rw [hm2]; rfl]
      have hx : nn true dm = (-dm) % 18446744073709551616 := by
        unfold nn ng
        rw [hm2]
        rfl
      rw [hx] at hrn ⊢
      have hng : IntKind.u64.wrap (-dm) = (-dm) % 18446744073709551616 := u64_mod _
      clear hx
      generalize (-dm) % 18446744073709551616 = x at *
      have HM := fun W => may_ k x (by omega) (by omega) W
      have HD := fun W => datum k x (by omega) (by omega) W
      generalize may k x = mb at *
      generalize dat k x = dd at *
      obtain ⟨da, db, dc⟩ := dd
      generalize hr : (mb && (decide ((da, db, dc) = (dk, true, dm)) && decide (dt = ⟨#[]⟩))) = r
      clear h0 h1
      cases mb with
      | false =>
        obtain rfl : r = false := by rw [← hr]; rfl
        clear hr HD
        go_enter Try.func19, Try.ntmps19
        go_wp2_with fail
        refine Reg.wp_plan (S := fun w' => w'.cell? ⟨w.heap.size, 0, none⟩ = some (.int .i64 dk) ∧ w'.cell? ⟨w.heap.size, 1, none⟩ = some (.bool true) ∧ w'.cell? ⟨w.heap.size, 2, none⟩ = some (.int .u64 dm) ∧ w'.cell? ⟨w.heap.size, 3, none⟩ = some (.string dt)) 11 (.fl 0 (.fl 1 (.one 2 (.fl 3 (.fl 4 (.fl 5 (.fl 6 (.fl 8 (.one 7 (.fl 9 (.fl 10 .done))))))))))) (by kernel_rfl) (by kernel_rfl) (by kernel_rfl) (by kernel_rfl) (fun _ _ _ d _ h => by cases d <;> exact h) ?_ (fun hHeld => ?_)
        · exact ⟨by simp, by simp, by simp, by simp⟩
        refine Reg.G_on (o := { dst := some 21, op := Op.move (Operand.tmp 0), type := 3, pos := "prim.go:88", after := #[], guard := Option.none }) (v := ?_) (by rfl) ?_ (fun wS hSw => ?_) ?_
        rotate_left
        · kernel_rfl
        · (try dsimp only at hSw); go_simp; (try with_reducible rfl)
        try simp only [Act.put, List.setIfInBounds_toArray, List.set_cons_zero, List.set_cons_succ]
        refine Reg.G_on (o := { dst := some 22, op := Op.move (Operand.tmp 6), type := 22, pos := "prim.go:88", after := #[], guard := Option.none }) (v := ?_) (by rfl) ?_ (fun wS hSw => ?_) ?_
        rotate_left
        · kernel_rfl
        · (try dsimp only at hSw); go_simp; (try with_reducible rfl)
        try simp only [Act.put, List.setIfInBounds_toArray, List.set_cons_zero, List.set_cons_succ]
        refine Reg.G_step (o := { dst := some 23, op := Op.call { callee := Callee.value (Operand.func 12), args := #[Operand.tmp 21, Operand.tmp 22], argTypes := #[3, 22] }, type := 4, pos := "prim.go:88", after := #[{ on := 0, ground := Ground.data }, { on := 1, ground := Ground.data }], guard := Option.none }) (by rfl) ?_ (fun K hK => ?_)
        · kernel_rfl
        go_simp
        refine (HM _).mono ?_
        rintro e w' ⟨rfl, hb⟩
        refine hK.out _ _ ?_ (fun hHeld => ?_)
        · exact ⟨argb hb hHeld.1, argb hb hHeld.2.1, argb hb hHeld.2.2.1, argb hb hHeld.2.2.2⟩
        clear hK K
        try simp only [Act.put, List.setIfInBounds_toArray, List.set_cons_zero, List.set_cons_succ]
        refine Reg.G_on (o := { dst := some 24, op := Op.unOp UnOp.not 4 (Operand.tmp 23), type := 4, pos := "prim.go:88", after := #[{ on := 2, ground := Ground.data }], guard := Option.none }) (v := ?_) (by rfl) ?_ (fun wS hSw => ?_) ?_
        rotate_left
        · kernel_rfl
        · (try dsimp only at hSw); go_simp; (try with_reducible rfl)
        try simp only [Act.put, List.setIfInBounds_toArray, List.set_cons_zero, List.set_cons_succ]
        refine Reg.G_on (o := { dst := some 25, op := Op.move (Operand.tmp 24), type := 4, pos := "prim.go:88", after := #[{ on := 3, ground := Ground.data }, { on := 2, ground := Ground.chain }], guard := Option.none }) (v := ?_) (by rfl) ?_ (fun wS hSw => ?_) ?_
        rotate_left
        · kernel_rfl
        · (try dsimp only at hSw); go_simp; (try with_reducible rfl)
        try simp only [Act.put, List.setIfInBounds_toArray, List.set_cons_zero, List.set_cons_succ]
        refine Reg.G_off (o := { dst := some 26, op := Op.move (Operand.tmp 0), type := 3, pos := "prim.go:88", after := #[{ on := 4, ground := Ground.guard }], guard := some (4, false) }) (by rfl) ?_ ?_
        · kernel_rfl
        try simp only [Act.put, List.setIfInBounds_toArray, List.set_cons_zero, List.set_cons_succ]
        refine Reg.G_off (o := { dst := some 27, op := Op.move (Operand.tmp 6), type := 22, pos := "prim.go:88", after := #[{ on := 4, ground := Ground.guard }], guard := some (4, false) }) (by rfl) ?_ ?_
        · kernel_rfl
        try simp only [Act.put, List.setIfInBounds_toArray, List.set_cons_zero, List.set_cons_succ]
        refine Reg.G_off (o := { dst := some 29, op := Op.load 29 (Operand.tmp 3), type := 29, pos := "prim.go:88", after := #[{ on := 4, ground := Ground.guard }], guard := some (4, false) }) (by rfl) ?_ ?_
        · kernel_rfl
        try simp only [Act.put, List.setIfInBounds_toArray, List.set_cons_zero, List.set_cons_succ]
        refine Reg.G_skip (o := { dst := some 28, op := Op.call { callee := Callee.value (Operand.func 21), args := #[Operand.tmp 26, Operand.tmp 27], argTypes := #[3, 22] }, type := 29, pos := "prim.go:88", after := #[{ on := 5, ground := Ground.data }, { on := 6, ground := Ground.data }, { on := 4, ground := Ground.chain }, { on := 4, ground := Ground.guard }], guard := some (4, false) }) (by rfl) ?_ (by assumption) ?_
        · kernel_rfl
        try simp only [Act.put, List.setIfInBounds_toArray, List.set_cons_zero, List.set_cons_succ]
        refine Reg.G_off (o := { dst := some 30, op := Op.binOp BinOp.neq 29 (Operand.tmp 28) (Operand.tmp 29) 29, type := 4, pos := "prim.go:88", after := #[{ on := 7, ground := Ground.data }, { on := 8, ground := Ground.data }, { on := 4, ground := Ground.guard }], guard := some (4, false) }) (by rfl) ?_ ?_
        · kernel_rfl
        try simp only [Act.put, List.setIfInBounds_toArray, List.set_cons_zero, List.set_cons_succ]
        refine Reg.G_on (o := { dst := some 31, op := Op.pick (Operand.tmp 25) (Operand.const (Value.bool true)) (Operand.tmp 30), type := 4, pos := "prim.go:88", after := #[{ on := 4, ground := Ground.data }, { on := 9, ground := Ground.data }], guard := Option.none }) (v := ?_) (by rfl) ?_ (fun wS hSw => ?_) ?_
        rotate_left
        · kernel_rfl
        · (try dsimp only at hSw); go_simp; (try with_reducible rfl)
        try simp only [Act.put, List.setIfInBounds_toArray, List.set_cons_zero, List.set_cons_succ]
        refine Reg.G_done ?_
        go_wp2
        go_ret2
        exact ⟨rfl, b0.drew.trans (hb.mono hsz)⟩
      | true =>
        by_cases h1 : da = dk
        · by_cases h2 : db = true
          · by_cases h3 : dc = dm
            · by_cases h4 : dt = ⟨#[]⟩
              · subst h1 h2 h3 h4
                obtain rfl : r = true := by rw [← hr]; simp
                clear hr
                go_enter Try.func19, Try.ntmps19
                go_wp2_with fail
                refine Reg.wp_plan (S := fun w' => w'.cell? ⟨w.heap.size, 0, none⟩ = some (.int .i64 da) ∧ w'.cell? ⟨w.heap.size, 1, none⟩ = some (.bool true) ∧ w'.cell? ⟨w.heap.size, 2, none⟩ = some (.int .u64 dc) ∧ w'.cell? ⟨w.heap.size, 3, none⟩ = some (.string (⟨#[]⟩ : ByteArray))) 11 (.fl 0 (.fl 1 (.one 2 (.fl 3 (.fl 4 (.fl 5 (.fl 6 (.fl 8 (.one 7 (.fl 9 (.fl 10 .done))))))))))) (by kernel_rfl) (by kernel_rfl) (by kernel_rfl) (by kernel_rfl) (fun _ _ _ d _ h => by cases d <;> exact h) ?_ (fun hHeld => ?_)
                · exact ⟨by simp, by simp, by simp, by simp⟩
                refine Reg.G_on (o := { dst := some 21, op := Op.move (Operand.tmp 0), type := 3, pos := "prim.go:88", after := #[], guard := Option.none }) (v := ?_) (by rfl) ?_ (fun wS hSw => ?_) ?_
                rotate_left
                · kernel_rfl
                · (try dsimp only at hSw); go_simp; (try with_reducible rfl)
                try simp only [Act.put, List.setIfInBounds_toArray, List.set_cons_zero, List.set_cons_succ]
                refine Reg.G_on (o := { dst := some 22, op := Op.move (Operand.tmp 6), type := 22, pos := "prim.go:88", after := #[], guard := Option.none }) (v := ?_) (by rfl) ?_ (fun wS hSw => ?_) ?_
                rotate_left
                · kernel_rfl
                · (try dsimp only at hSw); go_simp; (try with_reducible rfl)
                try simp only [Act.put, List.setIfInBounds_toArray, List.set_cons_zero, List.set_cons_succ]
                refine Reg.G_step (o := { dst := some 23, op := Op.call { callee := Callee.value (Operand.func 12), args := #[Operand.tmp 21, Operand.tmp 22], argTypes := #[3, 22] }, type := 4, pos := "prim.go:88", after := #[{ on := 0, ground := Ground.data }, { on := 1, ground := Ground.data }], guard := Option.none }) (by rfl) ?_ (fun K hK => ?_)
                · kernel_rfl
                go_simp
                refine (HM _).mono ?_
                rintro e w' ⟨rfl, hb⟩
                refine hK.out _ _ ?_ (fun hHeld => ?_)
                · exact ⟨argb hb hHeld.1, argb hb hHeld.2.1, argb hb hHeld.2.2.1, argb hb hHeld.2.2.2⟩
                clear hK K
                try simp only [Act.put, List.setIfInBounds_toArray, List.set_cons_zero, List.set_cons_succ]
                refine Reg.G_on (o := { dst := some 24, op := Op.unOp UnOp.not 4 (Operand.tmp 23), type := 4, pos := "prim.go:88", after := #[{ on := 2, ground := Ground.data }], guard := Option.none }) (v := ?_) (by rfl) ?_ (fun wS hSw => ?_) ?_
                rotate_left
                · kernel_rfl
                · (try dsimp only at hSw); go_simp; (try with_reducible rfl)
                try simp only [Act.put, List.setIfInBounds_toArray, List.set_cons_zero, List.set_cons_succ]
                refine Reg.G_on (o := { dst := some 25, op := Op.move (Operand.tmp 24), type := 4, pos := "prim.go:88", after := #[{ on := 3, ground := Ground.data }, { on := 2, ground := Ground.chain }], guard := Option.none }) (v := ?_) (by rfl) ?_ (fun wS hSw => ?_) ?_
                rotate_left
                · kernel_rfl
                · (try dsimp only at hSw); go_simp; (try with_reducible rfl)
                try simp only [Act.put, List.setIfInBounds_toArray, List.set_cons_zero, List.set_cons_succ]
                refine Reg.G_on (o := { dst := some 26, op := Op.move (Operand.tmp 0), type := 3, pos := "prim.go:88", after := #[{ on := 4, ground := Ground.guard }], guard := some (4, false) }) (v := ?_) (by rfl) ?_ (fun wS hSw => ?_) ?_
                rotate_left
                · kernel_rfl
                · (try dsimp only at hSw); go_simp; (try with_reducible rfl)
                try simp only [Act.put, List.setIfInBounds_toArray, List.set_cons_zero, List.set_cons_succ]
                refine Reg.G_on (o := { dst := some 27, op := Op.move (Operand.tmp 6), type := 22, pos := "prim.go:88", after := #[{ on := 4, ground := Ground.guard }], guard := some (4, false) }) (v := ?_) (by rfl) ?_ (fun wS hSw => ?_) ?_
                rotate_left
                · kernel_rfl
                · (try dsimp only at hSw); go_simp; (try with_reducible rfl)
                try simp only [Act.put, List.setIfInBounds_toArray, List.set_cons_zero, List.set_cons_succ]
                refine Reg.G_on (o := { dst := some 29, op := Op.load 29 (Operand.tmp 3), type := 29, pos := "prim.go:88", after := #[{ on := 4, ground := Ground.guard }], guard := some (4, false) }) (v := ?_) (by rfl) ?_ (fun wS hSw => ?_) ?_
                rotate_left
                · kernel_rfl
                · (try dsimp only at hSw); go_simp; (try with_reducible rfl)
                try simp only [Act.put, List.setIfInBounds_toArray, List.set_cons_zero, List.set_cons_succ]
                have hb1 := hb
                clear hb
                refine Reg.G_step (o := { dst := some 28, op := Op.call { callee := Callee.value (Operand.func 21), args := #[Operand.tmp 26, Operand.tmp 27], argTypes := #[3, 22] }, type := 29, pos := "prim.go:88", after := #[{ on := 5, ground := Ground.data }, { on := 6, ground := Ground.data }, { on := 4, ground := Ground.chain }, { on := 4, ground := Ground.guard }], guard := some (4, false) }) (by rfl) ?_ (fun K hK => ?_)
                · kernel_rfl
                go_simp
                refine (HD _).mono ?_
                rintro e w' ⟨rfl, hb⟩
                refine hK.out _ _ ?_ (fun hHeld => ?_)
                · exact ⟨argb hb hHeld.1, argb hb hHeld.2.1, argb hb hHeld.2.2.1, argb hb hHeld.2.2.2⟩
                clear hK K
                try simp only [Act.put, List.setIfInBounds_toArray, List.set_cons_zero, List.set_cons_succ]
                refine Reg.G_on (o := { dst := some 30, op := Op.binOp BinOp.neq 29 (Operand.tmp 28) (Operand.tmp 29) 29, type := 4, pos := "prim.go:88", after := #[{ on := 7, ground := Ground.data }, { on := 8, ground := Ground.data }, { on := 4, ground := Ground.guard }], guard := some (4, false) }) (v := ?_) (by rfl) ?_ (fun wS hSw => ?_) ?_
                rotate_left
                · kernel_rfl
                · (try dsimp only at hSw); go_simp; (try with_reducible rfl)
                try simp only [Act.put, List.setIfInBounds_toArray, List.set_cons_zero, List.set_cons_succ]
                refine Reg.G_on (o := { dst := some 31, op := Op.pick (Operand.tmp 25) (Operand.const (Value.bool true)) (Operand.tmp 30), type := 4, pos := "prim.go:88", after := #[{ on := 4, ground := Ground.data }, { on := 9, ground := Ground.data }], guard := Option.none }) (v := ?_) (by rfl) ?_ (fun wS hSw => ?_) ?_
                rotate_left
                · kernel_rfl
                · (try dsimp only at hSw); go_simp; (try with_reducible rfl)
                try simp only [Act.put, List.setIfInBounds_toArray, List.set_cons_zero, List.set_cons_succ]
                refine Reg.G_done ?_
                go_wp2
                go_ret2
                exact ⟨rfl, b0.drew.trans ((bstep hb1 hb).mono hsz)⟩
              · obtain rfl : r = false := by rw [← hr]; simp [h4]
                have h5 : ¬ (dt.toList = []) := fun h => h4 ((nil_list dt).1 h)
                subst h1 h2 h3
                clear hr
                go_enter Try.func19, Try.ntmps19
                go_wp2_with fail
                refine Reg.wp_plan (S := fun w' => w'.cell? ⟨w.heap.size, 0, none⟩ = some (.int .i64 da) ∧ w'.cell? ⟨w.heap.size, 1, none⟩ = some (.bool true) ∧ w'.cell? ⟨w.heap.size, 2, none⟩ = some (.int .u64 dc) ∧ w'.cell? ⟨w.heap.size, 3, none⟩ = some (.string dt)) 11 (.fl 0 (.fl 1 (.one 2 (.fl 3 (.fl 4 (.fl 5 (.fl 6 (.fl 8 (.one 7 (.fl 9 (.fl 10 .done))))))))))) (by kernel_rfl) (by kernel_rfl) (by kernel_rfl) (by kernel_rfl) (fun _ _ _ d _ h => by cases d <;> exact h) ?_ (fun hHeld => ?_)
                · exact ⟨by simp, by simp, by simp, by simp⟩
                refine Reg.G_on (o := { dst := some 21, op := Op.move (Operand.tmp 0), type := 3, pos := "prim.go:88", after := #[], guard := Option.none }) (v := ?_) (by rfl) ?_ (fun wS hSw => ?_) ?_
                rotate_left
                · kernel_rfl
                · (try dsimp only at hSw); go_simp; (try with_reducible rfl)
                try simp only [Act.put, List.setIfInBounds_toArray, List.set_cons_zero, List.set_cons_succ]
                refine Reg.G_on (o := { dst := some 22, op := Op.move (Operand.tmp 6), type := 22, pos := "prim.go:88", after := #[], guard := Option.none }) (v := ?_) (by rfl) ?_ (fun wS hSw => ?_) ?_
                rotate_left
                · kernel_rfl
                · (try dsimp only at hSw); go_simp; (try with_reducible rfl)
                try simp only [Act.put, List.setIfInBounds_toArray, List.set_cons_zero, List.set_cons_succ]
                refine Reg.G_step (o := { dst := some 23, op := Op.call { callee := Callee.value (Operand.func 12), args := #[Operand.tmp 21, Operand.tmp 22], argTypes := #[3, 22] }, type := 4, pos := "prim.go:88", after := #[{ on := 0, ground := Ground.data }, { on := 1, ground := Ground.data }], guard := Option.none }) (by rfl) ?_ (fun K hK => ?_)
                · kernel_rfl
                go_simp
                refine (HM _).mono ?_
                rintro e w' ⟨rfl, hb⟩
                refine hK.out _ _ ?_ (fun hHeld => ?_)
                · exact ⟨argb hb hHeld.1, argb hb hHeld.2.1, argb hb hHeld.2.2.1, argb hb hHeld.2.2.2⟩
                clear hK K
                try simp only [Act.put, List.setIfInBounds_toArray, List.set_cons_zero, List.set_cons_succ]
                refine Reg.G_on (o := { dst := some 24, op := Op.unOp UnOp.not 4 (Operand.tmp 23), type := 4, pos := "prim.go:88", after := #[{ on := 2, ground := Ground.data }], guard := Option.none }) (v := ?_) (by rfl) ?_ (fun wS hSw => ?_) ?_
                rotate_left
                · kernel_rfl
                · (try dsimp only at hSw); go_simp; (try with_reducible rfl)
                try simp only [Act.put, List.setIfInBounds_toArray, List.set_cons_zero, List.set_cons_succ]
                refine Reg.G_on (o := { dst := some 25, op := Op.move (Operand.tmp 24), type := 4, pos := "prim.go:88", after := #[{ on := 3, ground := Ground.data }, { on := 2, ground := Ground.chain }], guard := Option.none }) (v := ?_) (by rfl) ?_ (fun wS hSw => ?_) ?_
                rotate_left
                · kernel_rfl
                · (try dsimp only at hSw); go_simp; (try with_reducible rfl)
                try simp only [Act.put, List.setIfInBounds_toArray, List.set_cons_zero, List.set_cons_succ]
                refine Reg.G_on (o := { dst := some 26, op := Op.move (Operand.tmp 0), type := 3, pos := "prim.go:88", after := #[{ on := 4, ground := Ground.guard }], guard := some (4, false) }) (v := ?_) (by rfl) ?_ (fun wS hSw => ?_) ?_
                rotate_left
                · kernel_rfl
                · (try dsimp only at hSw); go_simp; (try with_reducible rfl)
                try simp only [Act.put, List.setIfInBounds_toArray, List.set_cons_zero, List.set_cons_succ]
                refine Reg.G_on (o := { dst := some 27, op := Op.move (Operand.tmp 6), type := 22, pos := "prim.go:88", after := #[{ on := 4, ground := Ground.guard }], guard := some (4, false) }) (v := ?_) (by rfl) ?_ (fun wS hSw => ?_) ?_
                rotate_left
                · kernel_rfl
                · (try dsimp only at hSw); go_simp; (try with_reducible rfl)
                try simp only [Act.put, List.setIfInBounds_toArray, List.set_cons_zero, List.set_cons_succ]
                refine Reg.G_on (o := { dst := some 29, op := Op.load 29 (Operand.tmp 3), type := 29, pos := "prim.go:88", after := #[{ on := 4, ground := Ground.guard }], guard := some (4, false) }) (v := ?_) (by rfl) ?_ (fun wS hSw => ?_) ?_
                rotate_left
                · kernel_rfl
                · (try dsimp only at hSw); go_simp; (try with_reducible rfl)
                try simp only [Act.put, List.setIfInBounds_toArray, List.set_cons_zero, List.set_cons_succ]
                have hb1 := hb
                clear hb
                refine Reg.G_step (o := { dst := some 28, op := Op.call { callee := Callee.value (Operand.func 21), args := #[Operand.tmp 26, Operand.tmp 27], argTypes := #[3, 22] }, type := 29, pos := "prim.go:88", after := #[{ on := 5, ground := Ground.data }, { on := 6, ground := Ground.data }, { on := 4, ground := Ground.chain }, { on := 4, ground := Ground.guard }], guard := some (4, false) }) (by rfl) ?_ (fun K hK => ?_)
                · kernel_rfl
                go_simp
                refine (HD _).mono ?_
                rintro e w' ⟨rfl, hb⟩
                refine hK.out _ _ ?_ (fun hHeld => ?_)
                · exact ⟨argb hb hHeld.1, argb hb hHeld.2.1, argb hb hHeld.2.2.1, argb hb hHeld.2.2.2⟩
                clear hK K
                try simp only [Act.put, List.setIfInBounds_toArray, List.set_cons_zero, List.set_cons_succ]
                refine Reg.G_on (o := { dst := some 30, op := Op.binOp BinOp.neq 29 (Operand.tmp 28) (Operand.tmp 29) 29, type := 4, pos := "prim.go:88", after := #[{ on := 7, ground := Ground.data }, { on := 8, ground := Ground.data }, { on := 4, ground := Ground.guard }], guard := some (4, false) }) (v := ?_) (by rfl) ?_ (fun wS hSw => ?_) ?_
                rotate_left
                · kernel_rfl
                · (try dsimp only at hSw); go_simp; (try with_reducible rfl)
                try simp only [Act.put, List.setIfInBounds_toArray, List.set_cons_zero, List.set_cons_succ]
                refine Reg.G_on (o := { dst := some 31, op := Op.pick (Operand.tmp 25) (Operand.const (Value.bool true)) (Operand.tmp 30), type := 4, pos := "prim.go:88", after := #[{ on := 4, ground := Ground.data }, { on := 9, ground := Ground.data }], guard := Option.none }) (v := ?_) (by rfl) ?_ (fun wS hSw => ?_) ?_
                rotate_left
                · kernel_rfl
                · (try dsimp only at hSw); go_simp; (try with_reducible rfl)
                try simp only [Act.put, List.setIfInBounds_toArray, List.set_cons_zero, List.set_cons_succ]
                refine Reg.G_done ?_
                go_wp2
                go_ret2
                exact ⟨rfl, b0.drew.trans ((bstep hb1 hb).mono hsz)⟩
            · obtain rfl : r = false := by rw [← hr]; simp [h3]
              subst h1 h2
              clear hr
              go_enter Try.func19, Try.ntmps19
              go_wp2_with fail
              refine Reg.wp_plan (S := fun w' => w'.cell? ⟨w.heap.size, 0, none⟩ = some (.int .i64 da) ∧ w'.cell? ⟨w.heap.size, 1, none⟩ = some (.bool true) ∧ w'.cell? ⟨w.heap.size, 2, none⟩ = some (.int .u64 dm) ∧ w'.cell? ⟨w.heap.size, 3, none⟩ = some (.string dt)) 11 (.fl 0 (.fl 1 (.one 2 (.fl 3 (.fl 4 (.fl 5 (.fl 6 (.fl 8 (.one 7 (.fl 9 (.fl 10 .done))))))))))) (by kernel_rfl) (by kernel_rfl) (by kernel_rfl) (by kernel_rfl) (fun _ _ _ d _ h => by cases d <;> exact h) ?_ (fun hHeld => ?_)
              · exact ⟨by simp, by simp, by simp, by simp⟩
              refine Reg.G_on (o := { dst := some 21, op := Op.move (Operand.tmp 0), type := 3, pos := "prim.go:88", after := #[], guard := Option.none }) (v := ?_) (by rfl) ?_ (fun wS hSw => ?_) ?_
              rotate_left
              · kernel_rfl
              · (try dsimp only at hSw); go_simp; (try with_reducible rfl)
              try simp only [Act.put, List.setIfInBounds_toArray, List.set_cons_zero, List.set_cons_succ]
              refine Reg.G_on (o := { dst := some 22, op := Op.move (Operand.tmp 6), type := 22, pos := "prim.go:88", after := #[], guard := Option.none }) (v := ?_) (by rfl) ?_ (fun wS hSw => ?_) ?_
              rotate_left
              · kernel_rfl
              · (try dsimp only at hSw); go_simp; (try with_reducible rfl)
              try simp only [Act.put, List.setIfInBounds_toArray, List.set_cons_zero, List.set_cons_succ]
              refine Reg.G_step (o := { dst := some 23, op := Op.call { callee := Callee.value (Operand.func 12), args := #[Operand.tmp 21, Operand.tmp 22], argTypes := #[3, 22] }, type := 4, pos := "prim.go:88", after := #[{ on := 0, ground := Ground.data }, { on := 1, ground := Ground.data }], guard := Option.none }) (by rfl) ?_ (fun K hK => ?_)
              · kernel_rfl
              go_simp
              refine (HM _).mono ?_
              rintro e w' ⟨rfl, hb⟩
              refine hK.out _ _ ?_ (fun hHeld => ?_)
              · exact ⟨argb hb hHeld.1, argb hb hHeld.2.1, argb hb hHeld.2.2.1, argb hb hHeld.2.2.2⟩
              clear hK K
              try simp only [Act.put, List.setIfInBounds_toArray, List.set_cons_zero, List.set_cons_succ]
              refine Reg.G_on (o := { dst := some 24, op := Op.unOp UnOp.not 4 (Operand.tmp 23), type := 4, pos := "prim.go:88", after := #[{ on := 2, ground := Ground.data }], guard := Option.none }) (v := ?_) (by rfl) ?_ (fun wS hSw => ?_) ?_
              rotate_left
              · kernel_rfl
              · (try dsimp only at hSw); go_simp; (try with_reducible rfl)
              try simp only [Act.put, List.setIfInBounds_toArray, List.set_cons_zero, List.set_cons_succ]
              refine Reg.G_on (o := { dst := some 25, op := Op.move (Operand.tmp 24), type := 4, pos := "prim.go:88", after := #[{ on := 3, ground := Ground.data }, { on := 2, ground := Ground.chain }], guard := Option.none }) (v := ?_) (by rfl) ?_ (fun wS hSw => ?_) ?_
              rotate_left
              · kernel_rfl
              · (try dsimp only at hSw); go_simp; (try with_reducible rfl)
              try simp only [Act.put, List.setIfInBounds_toArray, List.set_cons_zero, List.set_cons_succ]
              refine Reg.G_on (o := { dst := some 26, op := Op.move (Operand.tmp 0), type := 3, pos := "prim.go:88", after := #[{ on := 4, ground := Ground.guard }], guard := some (4, false) }) (v := ?_) (by rfl) ?_ (fun wS hSw => ?_) ?_
              rotate_left
              · kernel_rfl
              · (try dsimp only at hSw); go_simp; (try with_reducible rfl)
              try simp only [Act.put, List.setIfInBounds_toArray, List.set_cons_zero, List.set_cons_succ]
              refine Reg.G_on (o := { dst := some 27, op := Op.move (Operand.tmp 6), type := 22, pos := "prim.go:88", after := #[{ on := 4, ground := Ground.guard }], guard := some (4, false) }) (v := ?_) (by rfl) ?_ (fun wS hSw => ?_) ?_
              rotate_left
              · kernel_rfl
              · (try dsimp only at hSw); go_simp; (try with_reducible rfl)
              try simp only [Act.put, List.setIfInBounds_toArray, List.set_cons_zero, List.set_cons_succ]
              refine Reg.G_on (o := { dst := some 29, op := Op.load 29 (Operand.tmp 3), type := 29, pos := "prim.go:88", after := #[{ on := 4, ground := Ground.guard }], guard := some (4, false) }) (v := ?_) (by rfl) ?_ (fun wS hSw => ?_) ?_
              rotate_left
              · kernel_rfl
              · (try dsimp only at hSw); go_simp; (try with_reducible rfl)
              try simp only [Act.put, List.setIfInBounds_toArray, List.set_cons_zero, List.set_cons_succ]
              have hb1 := hb
              clear hb
              refine Reg.G_step (o := { dst := some 28, op := Op.call { callee := Callee.value (Operand.func 21), args := #[Operand.tmp 26, Operand.tmp 27], argTypes := #[3, 22] }, type := 29, pos := "prim.go:88", after := #[{ on := 5, ground := Ground.data }, { on := 6, ground := Ground.data }, { on := 4, ground := Ground.chain }, { on := 4, ground := Ground.guard }], guard := some (4, false) }) (by rfl) ?_ (fun K hK => ?_)
              · kernel_rfl
              go_simp
              refine (HD _).mono ?_
              rintro e w' ⟨rfl, hb⟩
              refine hK.out _ _ ?_ (fun hHeld => ?_)
              · exact ⟨argb hb hHeld.1, argb hb hHeld.2.1, argb hb hHeld.2.2.1, argb hb hHeld.2.2.2⟩
              clear hK K
              try simp only [Act.put, List.setIfInBounds_toArray, List.set_cons_zero, List.set_cons_succ]
              refine Reg.G_on (o := { dst := some 30, op := Op.binOp BinOp.neq 29 (Operand.tmp 28) (Operand.tmp 29) 29, type := 4, pos := "prim.go:88", after := #[{ on := 7, ground := Ground.data }, { on := 8, ground := Ground.data }, { on := 4, ground := Ground.guard }], guard := some (4, false) }) (v := ?_) (by rfl) ?_ (fun wS hSw => ?_) ?_
              rotate_left
              · kernel_rfl
              · (try dsimp only at hSw); go_simp; (try with_reducible rfl)
              try simp only [Act.put, List.setIfInBounds_toArray, List.set_cons_zero, List.set_cons_succ]
              refine Reg.G_on (o := { dst := some 31, op := Op.pick (Operand.tmp 25) (Operand.const (Value.bool true)) (Operand.tmp 30), type := 4, pos := "prim.go:88", after := #[{ on := 4, ground := Ground.data }, { on := 9, ground := Ground.data }], guard := Option.none }) (v := ?_) (by rfl) ?_ (fun wS hSw => ?_) ?_
              rotate_left
              · kernel_rfl
              · (try dsimp only at hSw); go_simp; (try with_reducible rfl)
              try simp only [Act.put, List.setIfInBounds_toArray, List.set_cons_zero, List.set_cons_succ]
              refine Reg.G_done ?_
              go_wp2
              go_ret2
              exact ⟨rfl, b0.drew.trans ((bstep hb1 hb).mono hsz)⟩
          · obtain rfl : r = false := by rw [← hr]; simp [h2]
            subst h1
            have h6 : db = !true := by cases db <;> simp_all
            subst h6
            clear hr h2
            go_enter Try.func19, Try.ntmps19
            go_wp2_with fail
            refine Reg.wp_plan (S := fun w' => w'.cell? ⟨w.heap.size, 0, none⟩ = some (.int .i64 da) ∧ w'.cell? ⟨w.heap.size, 1, none⟩ = some (.bool true) ∧ w'.cell? ⟨w.heap.size, 2, none⟩ = some (.int .u64 dm) ∧ w'.cell? ⟨w.heap.size, 3, none⟩ = some (.string dt)) 11 (.fl 0 (.fl 1 (.one 2 (.fl 3 (.fl 4 (.fl 5 (.fl 6 (.fl 8 (.one 7 (.fl 9 (.fl 10 .done))))))))))) (by kernel_rfl) (by kernel_rfl) (by kernel_rfl) (by kernel_rfl) (fun _ _ _ d _ h => by cases d <;> exact h) ?_ (fun hHeld => ?_)
            · exact ⟨by simp, by simp, by simp, by simp⟩
            refine Reg.G_on (o := { dst := some 21, op := Op.move (Operand.tmp 0), type := 3, pos := "prim.go:88", after := #[], guard := Option.none }) (v := ?_) (by rfl) ?_ (fun wS hSw => ?_) ?_
            rotate_left
            · kernel_rfl
            · (try dsimp only at hSw); go_simp; (try with_reducible rfl)
            try simp only [Act.put, List.setIfInBounds_toArray, List.set_cons_zero, List.set_cons_succ]
            refine Reg.G_on (o := { dst := some 22, op := Op.move (Operand.tmp 6), type := 22, pos := "prim.go:88", after := #[], guard := Option.none }) (v := ?_) (by rfl) ?_ (fun wS hSw => ?_) ?_
            rotate_left
            · kernel_rfl
            · (try dsimp only at hSw); go_simp; (try with_reducible rfl)
            try simp only [Act.put, List.setIfInBounds_toArray, List.set_cons_zero, List.set_cons_succ]
            refine Reg.G_step (o := { dst := some 23, op := Op.call { callee := Callee.value (Operand.func 12), args := #[Operand.tmp 21, Operand.tmp 22], argTypes := #[3, 22] }, type := 4, pos := "prim.go:88", after := #[{ on := 0, ground := Ground.data }, { on := 1, ground := Ground.data }], guard := Option.none }) (by rfl) ?_ (fun K hK => ?_)
            · kernel_rfl
            go_simp
            refine (HM _).mono ?_
            rintro e w' ⟨rfl, hb⟩
            refine hK.out _ _ ?_ (fun hHeld => ?_)
            · exact ⟨argb hb hHeld.1, argb hb hHeld.2.1, argb hb hHeld.2.2.1, argb hb hHeld.2.2.2⟩
            clear hK K
            try simp only [Act.put, List.setIfInBounds_toArray, List.set_cons_zero, List.set_cons_succ]
            refine Reg.G_on (o := { dst := some 24, op := Op.unOp UnOp.not 4 (Operand.tmp 23), type := 4, pos := "prim.go:88", after := #[{ on := 2, ground := Ground.data }], guard := Option.none }) (v := ?_) (by rfl) ?_ (fun wS hSw => ?_) ?_
            rotate_left
            · kernel_rfl
            · (try dsimp only at hSw); go_simp; (try with_reducible rfl)
            try simp only [Act.put, List.setIfInBounds_toArray, List.set_cons_zero, List.set_cons_succ]
            refine Reg.G_on (o := { dst := some 25, op := Op.move (Operand.tmp 24), type := 4, pos := "prim.go:88", after := #[{ on := 3, ground := Ground.data }, { on := 2, ground := Ground.chain }], guard := Option.none }) (v := ?_) (by rfl) ?_ (fun wS hSw => ?_) ?_
            rotate_left
            · kernel_rfl
            · (try dsimp only at hSw); go_simp; (try with_reducible rfl)
            try simp only [Act.put, List.setIfInBounds_toArray, List.set_cons_zero, List.set_cons_succ]
            refine Reg.G_on (o := { dst := some 26, op := Op.move (Operand.tmp 0), type := 3, pos := "prim.go:88", after := #[{ on := 4, ground := Ground.guard }], guard := some (4, false) }) (v := ?_) (by rfl) ?_ (fun wS hSw => ?_) ?_
            rotate_left
            · kernel_rfl
            · (try dsimp only at hSw); go_simp; (try with_reducible rfl)
            try simp only [Act.put, List.setIfInBounds_toArray, List.set_cons_zero, List.set_cons_succ]
            refine Reg.G_on (o := { dst := some 27, op := Op.move (Operand.tmp 6), type := 22, pos := "prim.go:88", after := #[{ on := 4, ground := Ground.guard }], guard := some (4, false) }) (v := ?_) (by rfl) ?_ (fun wS hSw => ?_) ?_
            rotate_left
            · kernel_rfl
            · (try dsimp only at hSw); go_simp; (try with_reducible rfl)
            try simp only [Act.put, List.setIfInBounds_toArray, List.set_cons_zero, List.set_cons_succ]
            refine Reg.G_on (o := { dst := some 29, op := Op.load 29 (Operand.tmp 3), type := 29, pos := "prim.go:88", after := #[{ on := 4, ground := Ground.guard }], guard := some (4, false) }) (v := ?_) (by rfl) ?_ (fun wS hSw => ?_) ?_
            rotate_left
            · kernel_rfl
            · (try dsimp only at hSw); go_simp; (try with_reducible rfl)
            try simp only [Act.put, List.setIfInBounds_toArray, List.set_cons_zero, List.set_cons_succ]
            have hb1 := hb
            clear hb
            refine Reg.G_step (o := { dst := some 28, op := Op.call { callee := Callee.value (Operand.func 21), args := #[Operand.tmp 26, Operand.tmp 27], argTypes := #[3, 22] }, type := 29, pos := "prim.go:88", after := #[{ on := 5, ground := Ground.data }, { on := 6, ground := Ground.data }, { on := 4, ground := Ground.chain }, { on := 4, ground := Ground.guard }], guard := some (4, false) }) (by rfl) ?_ (fun K hK => ?_)
            · kernel_rfl
            go_simp
            refine (HD _).mono ?_
            rintro e w' ⟨rfl, hb⟩
            refine hK.out _ _ ?_ (fun hHeld => ?_)
            · exact ⟨argb hb hHeld.1, argb hb hHeld.2.1, argb hb hHeld.2.2.1, argb hb hHeld.2.2.2⟩
            clear hK K
            try simp only [Act.put, List.setIfInBounds_toArray, List.set_cons_zero, List.set_cons_succ]
            refine Reg.G_on (o := { dst := some 30, op := Op.binOp BinOp.neq 29 (Operand.tmp 28) (Operand.tmp 29) 29, type := 4, pos := "prim.go:88", after := #[{ on := 7, ground := Ground.data }, { on := 8, ground := Ground.data }, { on := 4, ground := Ground.guard }], guard := some (4, false) }) (v := ?_) (by rfl) ?_ (fun wS hSw => ?_) ?_
            rotate_left
            · kernel_rfl
            · (try dsimp only at hSw); go_simp; (try with_reducible rfl)
            try simp only [Act.put, List.setIfInBounds_toArray, List.set_cons_zero, List.set_cons_succ]
            refine Reg.G_on (o := { dst := some 31, op := Op.pick (Operand.tmp 25) (Operand.const (Value.bool true)) (Operand.tmp 30), type := 4, pos := "prim.go:88", after := #[{ on := 4, ground := Ground.data }, { on := 9, ground := Ground.data }], guard := Option.none }) (v := ?_) (by rfl) ?_ (fun wS hSw => ?_) ?_
            rotate_left
            · kernel_rfl
            · (try dsimp only at hSw); go_simp; (try with_reducible rfl)
            try simp only [Act.put, List.setIfInBounds_toArray, List.set_cons_zero, List.set_cons_succ]
            refine Reg.G_done ?_
            go_wp2
            go_ret2
            exact ⟨rfl, b0.drew.trans ((bstep hb1 hb).mono hsz)⟩
        · obtain rfl : r = false := by rw [← hr]; simp [h1]
          clear hr
          go_enter Try.func19, Try.ntmps19
          go_wp2_with fail
          refine Reg.wp_plan (S := fun w' => w'.cell? ⟨w.heap.size, 0, none⟩ = some (.int .i64 dk) ∧ w'.cell? ⟨w.heap.size, 1, none⟩ = some (.bool true) ∧ w'.cell? ⟨w.heap.size, 2, none⟩ = some (.int .u64 dm) ∧ w'.cell? ⟨w.heap.size, 3, none⟩ = some (.string dt)) 11 (.fl 0 (.fl 1 (.one 2 (.fl 3 (.fl 4 (.fl 5 (.fl 6 (.fl 8 (.one 7 (.fl 9 (.fl 10 .done))))))))))) (by kernel_rfl) (by kernel_rfl) (by kernel_rfl) (by kernel_rfl) (fun _ _ _ d _ h => by cases d <;> exact h) ?_ (fun hHeld => ?_)
          · exact ⟨by simp, by simp, by simp, by simp⟩
          refine Reg.G_on (o := { dst := some 21, op := Op.move (Operand.tmp 0), type := 3, pos := "prim.go:88", after := #[], guard := Option.none }) (v := ?_) (by rfl) ?_ (fun wS hSw => ?_) ?_
          rotate_left
          · kernel_rfl
          · (try dsimp only at hSw); go_simp; (try with_reducible rfl)
          try simp only [Act.put, List.setIfInBounds_toArray, List.set_cons_zero, List.set_cons_succ]
          refine Reg.G_on (o := { dst := some 22, op := Op.move (Operand.tmp 6), type := 22, pos := "prim.go:88", after := #[], guard := Option.none }) (v := ?_) (by rfl) ?_ (fun wS hSw => ?_) ?_
          rotate_left
          · kernel_rfl
          · (try dsimp only at hSw); go_simp; (try with_reducible rfl)
          try simp only [Act.put, List.setIfInBounds_toArray, List.set_cons_zero, List.set_cons_succ]
          refine Reg.G_step (o := { dst := some 23, op := Op.call { callee := Callee.value (Operand.func 12), args := #[Operand.tmp 21, Operand.tmp 22], argTypes := #[3, 22] }, type := 4, pos := "prim.go:88", after := #[{ on := 0, ground := Ground.data }, { on := 1, ground := Ground.data }], guard := Option.none }) (by rfl) ?_ (fun K hK => ?_)
          · kernel_rfl
          go_simp
          refine (HM _).mono ?_
          rintro e w' ⟨rfl, hb⟩
          refine hK.out _ _ ?_ (fun hHeld => ?_)
          · exact ⟨argb hb hHeld.1, argb hb hHeld.2.1, argb hb hHeld.2.2.1, argb hb hHeld.2.2.2⟩
          clear hK K
          try simp only [Act.put, List.setIfInBounds_toArray, List.set_cons_zero, List.set_cons_succ]
          refine Reg.G_on (o := { dst := some 24, op := Op.unOp UnOp.not 4 (Operand.tmp 23), type := 4, pos := "prim.go:88", after := #[{ on := 2, ground := Ground.data }], guard := Option.none }) (v := ?_) (by rfl) ?_ (fun wS hSw => ?_) ?_
          rotate_left
          · kernel_rfl
          · (try dsimp only at hSw); go_simp; (try with_reducible rfl)
          try simp only [Act.put, List.setIfInBounds_toArray, List.set_cons_zero, List.set_cons_succ]
          refine Reg.G_on (o := { dst := some 25, op := Op.move (Operand.tmp 24), type := 4, pos := "prim.go:88", after := #[{ on := 3, ground := Ground.data }, { on := 2, ground := Ground.chain }], guard := Option.none }) (v := ?_) (by rfl) ?_ (fun wS hSw => ?_) ?_
          rotate_left
          · kernel_rfl
          · (try dsimp only at hSw); go_simp; (try with_reducible rfl)
          try simp only [Act.put, List.setIfInBounds_toArray, List.set_cons_zero, List.set_cons_succ]
          refine Reg.G_on (o := { dst := some 26, op := Op.move (Operand.tmp 0), type := 3, pos := "prim.go:88", after := #[{ on := 4, ground := Ground.guard }], guard := some (4, false) }) (v := ?_) (by rfl) ?_ (fun wS hSw => ?_) ?_
          rotate_left
          · kernel_rfl
          · (try dsimp only at hSw); go_simp; (try with_reducible rfl)
          try simp only [Act.put, List.setIfInBounds_toArray, List.set_cons_zero, List.set_cons_succ]
          refine Reg.G_on (o := { dst := some 27, op := Op.move (Operand.tmp 6), type := 22, pos := "prim.go:88", after := #[{ on := 4, ground := Ground.guard }], guard := some (4, false) }) (v := ?_) (by rfl) ?_ (fun wS hSw => ?_) ?_
          rotate_left
          · kernel_rfl
          · (try dsimp only at hSw); go_simp; (try with_reducible rfl)
          try simp only [Act.put, List.setIfInBounds_toArray, List.set_cons_zero, List.set_cons_succ]
          refine Reg.G_on (o := { dst := some 29, op := Op.load 29 (Operand.tmp 3), type := 29, pos := "prim.go:88", after := #[{ on := 4, ground := Ground.guard }], guard := some (4, false) }) (v := ?_) (by rfl) ?_ (fun wS hSw => ?_) ?_
          rotate_left
          · kernel_rfl
          · (try dsimp only at hSw); go_simp; (try with_reducible rfl)
          try simp only [Act.put, List.setIfInBounds_toArray, List.set_cons_zero, List.set_cons_succ]
          have hb1 := hb
          clear hb
          refine Reg.G_step (o := { dst := some 28, op := Op.call { callee := Callee.value (Operand.func 21), args := #[Operand.tmp 26, Operand.tmp 27], argTypes := #[3, 22] }, type := 29, pos := "prim.go:88", after := #[{ on := 5, ground := Ground.data }, { on := 6, ground := Ground.data }, { on := 4, ground := Ground.chain }, { on := 4, ground := Ground.guard }], guard := some (4, false) }) (by rfl) ?_ (fun K hK => ?_)
          · kernel_rfl
          go_simp
          refine (HD _).mono ?_
          rintro e w' ⟨rfl, hb⟩
          refine hK.out _ _ ?_ (fun hHeld => ?_)
          · exact ⟨argb hb hHeld.1, argb hb hHeld.2.1, argb hb hHeld.2.2.1, argb hb hHeld.2.2.2⟩
          clear hK K
          try simp only [Act.put, List.setIfInBounds_toArray, List.set_cons_zero, List.set_cons_succ]
          refine Reg.G_on (o := { dst := some 30, op := Op.binOp BinOp.neq 29 (Operand.tmp 28) (Operand.tmp 29) 29, type := 4, pos := "prim.go:88", after := #[{ on := 7, ground := Ground.data }, { on := 8, ground := Ground.data }, { on := 4, ground := Ground.guard }], guard := some (4, false) }) (v := ?_) (by rfl) ?_ (fun wS hSw => ?_) ?_
          rotate_left
          · kernel_rfl
          · (try dsimp only at hSw); go_simp; (try with_reducible rfl)
          try simp only [Act.put, List.setIfInBounds_toArray, List.set_cons_zero, List.set_cons_succ]
          refine Reg.G_on (o := { dst := some 31, op := Op.pick (Operand.tmp 25) (Operand.const (Value.bool true)) (Operand.tmp 30), type := 4, pos := "prim.go:88", after := #[{ on := 4, ground := Ground.data }, { on := 9, ground := Ground.data }], guard := Option.none }) (v := ?_) (by rfl) ?_ (fun wS hSw => ?_) ?_
          rotate_left
          · kernel_rfl
          · (try dsimp only at hSw); go_simp; (try with_reducible rfl)
          try simp only [Act.put, List.setIfInBounds_toArray, List.set_cons_zero, List.set_cons_succ]
          refine Reg.G_done ?_
          go_wp2
          go_ret2
          exact ⟨rfl, b0.drew.trans ((bstep hb1 hb).mono hsz)⟩
end Go.Proofs.Ytflkefabbdelaaa.Prim
