import Derived.Test.YtjlgkebecpagjaaPart
import Derived.Test.YtjlgkebecpagjaaRegion
set_option linter.unusedVariables false
set_option linter.unusedSimpArgs false
namespace Go.Proofs.Ytjlgkebecpagjaa.Part
open Go.RowKit Base Sp Flat Go.Proofs.YtjlgkebecpagjaaW.PrintWords Go.Proofs.YtjlgkebecpagjaaW.PrintLast Go.Lib
theorem window (b : Nat) (f l : Int) (s : Bool) (p : Value) (m n : Int) (w : World) (h : PB w b f l s p m) :
    Calls Try.prog 23 #[.pointer (some ⟨b, 0, none⟩), .int .i64 n] w fun e w' => e = .returned (.tuple #[]) ∧ PB w' b f (bl s n) s p m ∧ Mod (At b) w w' := by
  have H := begin_ b f l s p m n w h
  clear h
  go_enter Try.func23, Try.ntmps23
  go_wp2_with fail
  refine H.mono ?_
  rintro e w' ⟨rfl, h1, h2⟩
  go_wp2
  go_end0
  exact ⟨rfl, h1, h2⟩
theorem may (b : Nat) (f l : Int) (s : Bool) (p : Value) (m : Int) (w : World) (h : PB w b f l s p m) (hl : 0 ≤ l) (hl2 : l < 9223372036854775808) :
    Calls Try.prog 24 #[.pointer (some ⟨b, 0, none⟩)] w fun e w' => e = .returned (.bool (l != 0)) ∧ PB w' b f (ol l) s p m ∧ Mod (At b) w w' := by
  have H := one_ b f l s p m w h hl hl2
  clear h hl hl2
  go_enter Try.func24, Try.ntmps24
  go_wp2_with fail
  refine H.mono ?_
  rintro e w' ⟨rfl, h1, h2⟩
  go_wp2
  go_ret
  exact ⟨rfl, h1, h2⟩
theorem fault (b : Nat) (f l : Int) (s : Bool) (p : Value) (m : Int) (w : World) (h : PB w b f l s p m) (hl : 0 ≤ f) (hl2 : f < 9223372036854775807) :
    Calls Try.prog 25 #[.pointer (some ⟨b, 0, none⟩)] w fun e w' => e = .returned (.tuple #[]) ∧ PB w' b (ef s f) (el s l) (es s m f) p m ∧ Mod (At b) w w' := by
  have H := fun w h => end_ b f l s p m m w h hl hl2
  have hb : PB w.drew b f l s p m := h
  obtain ⟨⟨c0, c1, c2, c3, c4⟩, g0, g1, g2⟩ := five h
  have HH := Lib.hid h
  clear h hl hl2
  go_enter Try.func25, Try.ntmps25
  go_wp2_with fail
  refine Reg.wp_plan (S := fun w' => w'.cell? ⟨b, 4, none⟩ = some (.int .i64 m)) 7 (.fl 0 (.fl 1 (.fl 2 (.fl 3 (.fl 4 (.fl 5 (.fl 6 (.one 7 .done)))))))) (by kernel_rfl) (by kernel_rfl) (by kernel_rfl) (by kernel_rfl) (fun _ _ _ d _ h => by cases d <;> exact h) ?_ (fun hHeld => ?_)
  · simpa using c4
  refine Reg.G_on (o := { dst := some 4, op := Op.move (Operand.tmp 0), type := 35, pos := "part.go:78", after := #[], guard := Option.none }) (v := ?_) (by rfl) ?_ (fun wS hSw => ?_) ?_
  rotate_left
  · kernel_rfl
  · (try dsimp only at hSw); go_simp; (try with_reducible rfl)
  try simp only [Act.put, List.setIfInBounds_toArray, List.set_cons_zero, List.set_cons_succ]
  refine Reg.G_on (o := { dst := some 5, op := Op.nilCheck (Operand.tmp 4), type := 0, pos := "part.go:78", after := #[{ on := 0, ground := Ground.data }], guard := Option.none }) (v := ?_) (by rfl) ?_ (fun wS hSw => ?_) ?_
  rotate_left
  · kernel_rfl
  · (try dsimp only at hSw); go_simp; (try with_reducible rfl)
  try simp only [Act.put, List.setIfInBounds_toArray, List.set_cons_zero, List.set_cons_succ]
  refine Reg.G_on (o := { dst := some 6, op := Op.fieldAddr 56 (Operand.tmp 5) 0, type := 0, pos := "part.go:78", after := #[{ on := 1, ground := Ground.data }], guard := Option.none }) (v := ?_) (by rfl) ?_ (fun wS hSw => ?_) ?_
  rotate_left
  · kernel_rfl
  · (try dsimp only at hSw); go_simp; (try with_reducible rfl)
  try simp only [Act.put, List.setIfInBounds_toArray, List.set_cons_zero, List.set_cons_succ]
  refine Reg.G_on (o := { dst := some 7, op := Op.move (Operand.tmp 0), type := 35, pos := "part.go:78", after := #[], guard := Option.none }) (v := ?_) (by rfl) ?_ (fun wS hSw => ?_) ?_
  rotate_left
  · kernel_rfl
  · (try dsimp only at hSw); go_simp; (try with_reducible rfl)
  try simp only [Act.put, List.setIfInBounds_toArray, List.set_cons_zero, List.set_cons_succ]
  refine Reg.G_on (o := { dst := some 8, op := Op.nilCheck (Operand.tmp 7), type := 0, pos := "part.go:78", after := #[{ on := 3, ground := Ground.data }], guard := Option.none }) (v := ?_) (by rfl) ?_ (fun wS hSw => ?_) ?_
  rotate_left
  · kernel_rfl
  · (try dsimp only at hSw); go_simp; (try with_reducible rfl)
  try simp only [Act.put, List.setIfInBounds_toArray, List.set_cons_zero, List.set_cons_succ]
  refine Reg.G_on (o := { dst := some 9, op := Op.fieldAddr 56 (Operand.tmp 8) 2, type := 0, pos := "part.go:78", after := #[{ on := 4, ground := Ground.data }], guard := Option.none }) (v := ?_) (by rfl) ?_ (fun wS hSw => ?_) ?_
  rotate_left
  · kernel_rfl
  · (try dsimp only at hSw); go_simp; (try with_reducible rfl)
  try simp only [Act.put, List.setIfInBounds_toArray, List.set_cons_zero, List.set_cons_succ]
  refine Reg.G_on (o := { dst := some 10, op := Op.load 3 (Operand.tmp 9), type := 3, pos := "part.go:78", after := #[{ on := 5, ground := Ground.data }], guard := Option.none }) (v := ?_) (by rfl) ?_ (fun wS hSw => ?_) ?_
  rotate_left
  · kernel_rfl
  · (try dsimp only at hSw); go_simp; (try with_reducible rfl)
  try simp only [Act.put, List.setIfInBounds_toArray, List.set_cons_zero, List.set_cons_succ]
  refine Reg.G_last (o := { dst := some 11, op := Op.call { callee := Callee.value (Operand.func 72), args := #[Operand.tmp 6, Operand.tmp 10], argTypes := #[53, 3] }, type := 0, pos := "part.go:78", after := #[{ on := 2, ground := Ground.data }, { on := 6, ground := Ground.data }], guard := Option.none }) (by rfl) (by rfl) ?_ (fun K hK => ?_)
  · kernel_rfl
  go_simp
  refine (H w.drew HH.out).mono ?_
  rintro e w' ⟨rfl, h1, h2⟩
  refine hK.out _ _ ?_
  clear hK K
  try simp only [Act.put, List.setIfInBounds_toArray, List.set_cons_zero, List.set_cons_succ]
  go_wp2
  go_end0
  exact ⟨rfl, h1, (Mod.refl (At b) w).drew.trans h2 (fun k hk => .inl hk)⟩
theorem state (b : Nat) (f l : Int) (s : Bool) (p : Value) (m : Int) (w : World) (h : PB w b f l s p m) :
    Calls Try.prog 26 #[.pointer (some ⟨b, 0, none⟩)] w fun e w' => e = .returned (.agg #[.int .i64 f, .int .i64 l, .bool s]) ∧ Below w.heap.size w w' := by
  obtain ⟨⟨c0, c1, c2, c3, c4⟩, g0, g1, g2⟩ := five h
  have hlt := blk_lt h
  clear h
  go_enter Try.func26, Try.ntmps26
  go_wp2
  exact bodyPost_ret (v := .agg #[.int .i64 f, .int .i64 l, .bool s]) (by simp [results, Try.results26, go_sem]) rfl ⟨rfl, (Below.refl _ _).alloc (Nat.le_refl _) _⟩
theorem mem (b : Nat) (f l : Int) (s : Bool) (p : Value) (m : Int) (w : World) (h : PB w b f l s p m) :
    Calls Try.prog 31 #[.pointer (some ⟨b, 0, none⟩)] w fun e w' => e = .returned p ∧ w = w' := by
  obtain ⟨⟨c0, c1, c2, c3, c4⟩, g0, g1, g2⟩ := five h
  clear h
  go_enter Try.func31, Try.ntmps31
  go_wp2
  go_ret
  exact ⟨rfl, rfl⟩
theorem window_nil (n : Int) (w : World) : Calls Try.prog 23 #[.pointer none, .int .i64 n] w fun e w' => e = .returned (.tuple #[]) ∧ w = w' := by
  go_enter Try.func23, Try.ntmps23
  go_wp2
  go_end0
  exact ⟨rfl, rfl⟩
theorem may_nil (w : World) : Calls Try.prog 24 #[.pointer none] w fun e w' => e = .returned (.bool false) ∧ w = w' := by
  go_enter Try.func24, Try.ntmps24
  go_wp2
  go_ret
  exact ⟨rfl, rfl⟩
theorem fault_nil (w : World) : Calls Try.prog 25 #[.pointer none] w fun e w' => e = .returned (.tuple #[]) ∧ w = w' := by
  go_enter Try.func25, Try.ntmps25
  go_wp2
  go_end0
  exact ⟨rfl, rfl⟩
theorem mem_nil (w : World) : Calls Try.prog 31 #[.pointer none] w fun e w' => e = .returned (.pointer none) ∧ w = w' := by
  go_enter Try.func31, Try.ntmps31
  go_wp2
  go_ret
  exact ⟨rfl, rfl⟩
theorem state_nil (w : World) : Calls Try.prog 26 #[.pointer none] w fun e w' => e = .returned (.agg #[.int .i64 0, .int .i64 0, .bool false]) ∧ Below w.heap.size w w' := by
  go_enter Try.func26, Try.ntmps26
  go_wp2
  exact bodyPost_ret (v := .agg #[.int .i64 0, .int .i64 0, .bool false]) (by simp [results, Try.results26, go_sem]) rfl ⟨rfl, (Below.refl _ _).alloc (Nat.le_refl _) _⟩
end Go.Proofs.Ytjlgkebecpagjaa.Part
