import Derived.Test.YtfjcgbkoohjmnaaCrcLaw
import Derived.Test.YtfjcgbkoohjmnaaCrcBurst
import Derived.Test.YtfjcgbkoohjmnaaBytes
import Derived.Test.YtfjcgbkoohjmnaaOpen
set_option linter.unusedVariables false
set_option linter.unusedSimpArgs false
namespace Go.Proofs.Ytfjcgbkoohjmnaa.CrcR
open Go.RowKit CrcP Base Crc

/-- The bytes from a place on, k of them changed. -/
def hit (l : List UInt8) (p : Nat) (f : Nat → UInt8) : Nat → List UInt8
  | 0 => l
  | k + 1 => (hit l p f k).set (p + k) ((hit l p f k).getD (p + k) 0 ^^^ f k)
theorem hit_len (l : List UInt8) (p : Nat) (f : Nat → UInt8) (k : Nat) : (hit l p f k).length = l.length := by
  induction k with
  | zero => rfl
  | succ k ih => rw [hit, List.length_set, ih]
theorem hit_far (l : List UInt8) (p : Nat) (f : Nat → UInt8) (k m : Nat) (h : m < p ∨ p + k ≤ m) : (hit l p f k)[m]? = l[m]? := by
  induction k with
  | zero => rfl
  | succ k ih => rw [hit, List.getElem?_set_ne (by omega), ih (by omega)]
theorem hit_sum (a : ByteArray) (p k : Nat) (f : Nat → UInt8) (hk : k ≤ 4) :
    (hit a.data.toList p f k == a.toList) = (num (CrcP.sum (Crc.bytes ⟨(hit a.data.toList p f k).toArray⟩)) == num (CrcP.sum (Crc.bytes a))) := by
  have h := CrcP.burst (a := hit a.data.toList p f k) (b := a.data.toList) p (hit_len _ _ _ _) (fun m hm => hit_far _ _ _ _ _ (by omega))
  have e1 : Crc.bytes ⟨(hit a.data.toList p f k).toArray⟩ = hit a.data.toList p f k := rfl
  have e2 : Crc.bytes a = a.data.toList := rfl
  have e3 : a.toList = a.data.toList := ByteArray.toList_eq a
  rw [e1, e2, e3, Bool.eq_iff_iff, beq_iff_eq, beq_iff_eq]
  exact ⟨fun e => by rw [h.2 e], fun e => h.1 (num_inj e)⟩

set_option maxHeartbeats 2000000 in
theorem burst (a : ByteArray) (t : Int) (f : Nat → UInt8) (w : World) (ha : a.size ≤ 140737488351232) :
    Calls Try.prog 7 #[.string a, .int .i64 t, .agg #[.int .u8 ((f 0).toNat : Int), .int .u8 ((f 1).toNat : Int), .int .u8 ((f 2).toNat : Int), .int .u8 ((f 3).toNat : Int)]] w fun e w' => e = .returned (.bool true) ∧ Below w.heap.size w w' := by
  by_cases h : 5000 < a.size
  · go_enter Try.func7, Try.ntmps7
    go_wp2_with fail
    refine (awake _).mono ?_
    rintro e w' ⟨rfl, rfl⟩
    go_wp2
    go_ret
    exact ⟨rfl, (Below.refl _ _).alloc (Nat.le_refl _) _⟩
  by_cases h2 : a.size = 0
  · go_enter Try.func7, Try.ntmps7
    go_wp2_with fail
    refine (awake _).mono ?_
    rintro e w' ⟨rfl, rfl⟩
    go_wp2
    go_ret
    exact ⟨rfl, (Below.refl _ _).alloc (Nat.le_refl _) _⟩
  have h3 : ((a.size : Int) == 0) = false := by rw [beq_eq_false_iff_ne]; omega
  have h5 : 0 < a.size := by omega
  have h4 : a.size ≤ 5000 := by omega
  clear h h2
  have hcv : ∀ w : World, (convert 9 41 (.string a)).run Try.prog w = .ok (.slice (some ⟨w.heap.size, 0, none⟩) a.size (grownCap w a.size 0 5)) (Lib.bytesWorld w 5 a) :=
    fun w => Lib.run_convert_string_bytes w _ _ _ a Try.underlying9 Try.underlying41 Try.underlying5
  have hst := Row8.start (w.alloc (.cells #[.int .u8 ((f 0).toNat : Int), .int .u8 ((f 1).toNat : Int), .int .u8 ((f 2).toNat : Int), .int .u8 ((f 3).toNat : Int)] 40)) 5 a
  have HST := Lib.hid hst
  clear hst
  obtain ⟨p, hp0, hp⟩ : ∃ p : Nat, p < a.size ∧ wrap64 ((IntKind.u64.wrap t).tmod (a.size : Int)) = (p : Int) := by
    have h0 : 0 ≤ IntKind.u64.wrap t := by simp [IntKind.wrap, IntKind.bits, IntKind.signed]; omega
    have h1 : 0 ≤ (IntKind.u64.wrap t).tmod (a.size : Int) := Int.tmod_nonneg _ h0
    have h2 : (IntKind.u64.wrap t).tmod (a.size : Int) < (a.size : Int) := Int.tmod_lt_of_pos _ (by omega)
    refine ⟨((IntKind.u64.wrap t).tmod (a.size : Int)).toNat, by omega, ?_⟩
    unfold wrap64
    omega
  have hp1 : (p : Int) < (a.size : Int) := by omega
  go_enter Try.func7, Try.ntmps7
  go_wp2
  rw [hp]
  clear hp
  go_loopw [9] (fun i w' => ∃ k : Nat, k ≤ 4 ∧ i = .int .i64 (k : Int) ∧ Row8.Row w' (w.heap.size + 1) a.size (hit a.data.toList p f k) ∧
      (∀ j, j < 4 → w'.cell? ⟨w.heap.size, j, none⟩ = some (.int .u8 ((f j).toNat : Int))) ∧ Below w.heap.size w w' ∧ w.heap.size + 1 < w'.heap.size) (fun i _ => (4 - (intOf i).toNat))
  case atStart =>
    refine ⟨0, by omega, rfl, by have := HST.out; rw [World.size_alloc] at this; exact this, fun j hj => ?_, ?_, by rw [Lib.bytesWorld_size]; simp⟩
    · rw [Lib.bytesWorld_old _ _ _ _ (by simp)]
      match j, hj with
      | 0, _ => simp
      | 1, _ => simp
      | 2, _ => simp
      | 3, _ => simp
    · exact ((Below.refl w.heap.size w).alloc (Nat.le_refl _) _).trans ⟨rfl, rfl, rfl, by rw [Lib.bytesWorld_size]; omega, fun j hj => Lib.bytesWorld_at_old _ _ _ _ (by simp; omega)⟩
  case round =>
    obtain ⟨k, k1, rfl, hr, hf, hb, hs⟩ := hrel
    by_cases hk : k < 4 ∧ p + k < a.size
    · obtain ⟨hk1, hk2⟩ := hk
      have k0 : (0 : Int) ≤ (k : Int) := by omega
      have k2 : (k : Int) < 4 := by omega
      have k3 : (p : Int) + (k : Int) < (a.size : Int) := by omega
      have k4 : (0 : Int) ≤ (p : Int) + (k : Int) := by omega
      have k5 : ((p : Int) + (k : Int)).toNat = p + k := by omega
      have ew : IntKind.i64.wrap ((p : Int) + (k : Int)) = (p : Int) + (k : Int) := wrapi64 (by omega) (by omega)
      have hl := hit_len a.data.toList p f k
      have hc3 : Hid (wr.cell? ⟨w.heap.size + 1, p + k, none⟩ = some (.int .u8 (((hit a.data.toList p f k).getD (p + k) 0).toNat : Int)) ∧ wr.cell? ⟨w.heap.size, k, none⟩ = some (.int .u8 ((f k).toNat : Int))) := ⟨(hr.2 _ hk2).1, hf k hk1⟩
      have hfz := (hr.2 _ hk2).2
      have hx := Row8.u8_xor ((hit a.data.toList p f k).getD (p + k) 0) (f k)
      have HR := Lib.hid (Row8.set hr hk2 ((hit a.data.toList p f k).getD (p + k) 0 ^^^ f k))
      have HF := Lib.hid hf
      have HH : Hid ((hit a.data.toList p f k).set (p + k) ((hit a.data.toList p f k).getD (p + k) 0 ^^^ f k) = hit a.data.toList p f (k + 1)) := rfl
      clear hr hf hl
      generalize (hit a.data.toList p f k).getD (p + k) 0 = c at *
      generalize hfk : f k = fk at *
      clear hfk
      go_wp2
      refine Reg.wp_plan (S := fun w' => w'.cell? ⟨w.heap.size + 1, p + k, none⟩ = some (.int .u8 (c.toNat : Int)) ∧ w'.cell? ⟨w.heap.size, k, none⟩ = some (.int .u8 (fk.toNat : Int))) 11 [(0, true), (1, true), (2, true), (3, true), (4, true), (5, true), (6, true), (7, true), (8, true), (9, true), (10, true), (11, false)] (by kernel_rfl) (by kernel_rfl) (by kernel_rfl) (by kernel_rfl) (fun _ _ _ d _ h => by cases d <;> exact h) ?_ (fun hHeld => ?_)
      · exact hc3.out
      refine Reg.G_on (o := { dst := some 40, op := Op.move (Operand.tmp 8), type := 41, pos := "law.go:33", after := #[], guard := Option.none }) (v := ?_) (by rfl) ?_ (fun wS hSw => ?_) ?_
      rotate_left
      · kernel_rfl
      · (try dsimp only at hSw); go_simp; (try with_reducible rfl)
      try simp only [Act.put, List.setIfInBounds_toArray, List.set_cons_zero, List.set_cons_succ]
      refine Reg.G_on (o := { dst := some 41, op := Op.move (Operand.tmp 7), type := 3, pos := "law.go:33", after := #[], guard := Option.none }) (v := ?_) (by rfl) ?_ (fun wS hSw => ?_) ?_
      rotate_left
      · kernel_rfl
      · (try dsimp only at hSw); go_simp; (try with_reducible rfl)
      try simp only [Act.put, List.setIfInBounds_toArray, List.set_cons_zero, List.set_cons_succ]
      refine Reg.G_on (o := { dst := some 42, op := Op.move (Operand.tmp 9), type := 3, pos := "law.go:33", after := #[], guard := Option.none }) (v := ?_) (by rfl) ?_ (fun wS hSw => ?_) ?_
      rotate_left
      · kernel_rfl
      · (try dsimp only at hSw); go_simp; (try with_reducible rfl)
      try simp only [Act.put, List.setIfInBounds_toArray, List.set_cons_zero, List.set_cons_succ]
      refine Reg.G_on (o := { dst := some 43, op := Op.binOp BinOp.add 3 (Operand.tmp 41) (Operand.tmp 42) 3, type := 3, pos := "law.go:33", after := #[{ on := 1, ground := Ground.data }, { on := 2, ground := Ground.data }], guard := Option.none }) (v := ?_) (by rfl) ?_ (fun wS hSw => ?_) ?_
      rotate_left
      · kernel_rfl
      · (try dsimp only at hSw); go_simp; (try with_reducible rfl)
      try simp only [Act.put, List.setIfInBounds_toArray, List.set_cons_zero, List.set_cons_succ]
      refine Reg.G_on (o := { dst := some 44, op := Op.indexAddr 41 (Operand.tmp 40) (Operand.tmp 43), type := 0, pos := "law.go:33", after := #[{ on := 0, ground := Ground.data }, { on := 3, ground := Ground.data }], guard := Option.none }) (v := ?_) (by rfl) ?_ (fun wS hSw => ?_) ?_
      rotate_left
      · kernel_rfl
      · (try dsimp only at hSw); go_simp; (try with_reducible rfl)
      try simp only [Act.put, List.setIfInBounds_toArray, List.set_cons_zero, List.set_cons_succ]
      refine Reg.G_on (o := { dst := some 45, op := Op.load 5 (Operand.tmp 44), type := 5, pos := "law.go:33", after := #[{ on := 4, ground := Ground.data }], guard := Option.none }) (v := ?_) (by rfl) ?_ (fun wS hSw => ?_) ?_
      rotate_left
      · kernel_rfl
      · (try dsimp only at hSw); go_simp; (try with_reducible rfl)
      try simp only [Act.put, List.setIfInBounds_toArray, List.set_cons_zero, List.set_cons_succ]
      refine Reg.G_on (o := { dst := some 46, op := Op.move (Operand.tmp 9), type := 3, pos := "law.go:33", after := #[], guard := Option.none }) (v := ?_) (by rfl) ?_ (fun wS hSw => ?_) ?_
      rotate_left
      · kernel_rfl
      · (try dsimp only at hSw); go_simp; (try with_reducible rfl)
      try simp only [Act.put, List.setIfInBounds_toArray, List.set_cons_zero, List.set_cons_succ]
      refine Reg.G_on (o := { dst := some 47, op := Op.indexAddr 40 (Operand.tmp 5) (Operand.tmp 46), type := 0, pos := "law.go:33", after := #[{ on := 6, ground := Ground.data }], guard := Option.none }) (v := ?_) (by rfl) ?_ (fun wS hSw => ?_) ?_
      rotate_left
      · kernel_rfl
      · (try dsimp only at hSw); go_simp; (try with_reducible rfl)
      try simp only [Act.put, List.setIfInBounds_toArray, List.set_cons_zero, List.set_cons_succ]
      refine Reg.G_on (o := { dst := some 48, op := Op.load 5 (Operand.tmp 47), type := 5, pos := "law.go:33", after := #[{ on := 7, ground := Ground.data }], guard := Option.none }) (v := ?_) (by rfl) ?_ (fun wS hSw => ?_) ?_
      rotate_left
      · kernel_rfl
      · (try dsimp only at hSw); go_simp; (try with_reducible rfl)
      try simp only [Act.put, List.setIfInBounds_toArray, List.set_cons_zero, List.set_cons_succ]
      refine Reg.G_on (o := { dst := some 49, op := Op.binOp BinOp.xor 5 (Operand.tmp 45) (Operand.tmp 48) 5, type := 5, pos := "law.go:33", after := #[{ on := 5, ground := Ground.data }, { on := 8, ground := Ground.data }], guard := Option.none }) (v := ?_) (by rfl) ?_ (fun wS hSw => ?_) ?_
      rotate_left
      · kernel_rfl
      · (try dsimp only at hSw); go_simp; (try with_reducible rfl)
      try simp only [Act.put, List.setIfInBounds_toArray, List.set_cons_zero, List.set_cons_succ]
      refine Reg.G_on (o := { dst := some 50, op := Op.indexAddr 41 (Operand.tmp 40) (Operand.tmp 43), type := 0, pos := "law.go:33", after := #[{ on := 0, ground := Ground.data }, { on := 3, ground := Ground.data }, { on := 0, ground := Ground.phase }, { on := 1, ground := Ground.phase }, { on := 2, ground := Ground.phase }, { on := 3, ground := Ground.phase }, { on := 4, ground := Ground.phase }, { on := 5, ground := Ground.phase }, { on := 6, ground := Ground.phase }, { on := 7, ground := Ground.phase }, { on := 8, ground := Ground.phase }, { on := 9, ground := Ground.phase }], guard := Option.none }) (v := ?_) (by rfl) ?_ (fun wS hSw => ?_) ?_
      rotate_left
      · kernel_rfl
      · (try dsimp only at hSw); go_simp; (try with_reducible rfl)
      try simp only [Act.put, List.setIfInBounds_toArray, List.set_cons_zero, List.set_cons_succ]
      refine Reg.G_last (o := { dst := Option.none, op := Op.store 5 (Operand.tmp 50) (Operand.tmp 49), type := 0, pos := "law.go:33", after := #[{ on := 10, ground := Ground.data }, { on := 9, ground := Ground.data }, { on := 0, ground := Ground.phase }, { on := 1, ground := Ground.phase }, { on := 2, ground := Ground.phase }, { on := 3, ground := Ground.phase }, { on := 4, ground := Ground.phase }, { on := 5, ground := Ground.phase }, { on := 6, ground := Ground.phase }, { on := 7, ground := Ground.phase }, { on := 8, ground := Ground.phase }, { on := 9, ground := Ground.phase }], guard := Option.none }) (by rfl) (by rfl) ?_ (fun K hK => ?_)
      · kernel_rfl
      go_simp
      refine hK.out _ _ ?_
      clear hK K
      try simp only [Act.put, List.setIfInBounds_toArray, List.set_cons_zero, List.set_cons_succ]
      go_wp2
      go_roundw
      case rel => exact ⟨k + 1, by omega, by go_num, by rw [← HH.out]; exact HR.out, fun j hj => cfar (HF.out j hj) (by simp), (hb.setCell (by simp) _).drew, by simpa [World.setCell, World.drew] using hs⟩
      case measure => simp [intOf]; omega
    · have HF := Lib.hid hf
      have HE := Lib.hid (hit_sum a p k f k1)
      have HR := Lib.hid hr
      have hcs := fun (W : World) (h : Row8.Row W (w.heap.size + 1) a.size (hit a.data.toList p f k)) (c : Nat) => Row8.string (P := Try.prog) (c := c) Try.underlying41 Try.underlying5 Try.underlying9 h
      have HC := Lib.hid hcs
      clear hf hr hcs
      have stop2 : (k < 4 ∧ (a.size : Int) ≤ (p : Int) + (k : Int)) ∨ 4 ≤ k := by omega
      clear hk
      have hawk : ∀ W : World, Row8.Row W (w.heap.size + 1) a.size (hit a.data.toList p f k) → Row8.Row W (w.heap.size + 1) a.size (hit a.data.toList p f k) := fun _ h => h
      have hsz : (⟨(hit a.data.toList p f k).toArray⟩ : ByteArray).size ≤ maxLen := by
        have : (⟨(hit a.data.toList p f k).toArray⟩ : ByteArray).size = a.size := by
          show (hit a.data.toList p f k).toArray.size = a.size
          rw [List.size_toArray, hit_len]
          simp
        unfold maxLen
        omega
      have hsz2 : a.size ≤ maxLen := by unfold maxLen; omega
      have hC : ∀ W : World, Row8.Row W (w.heap.size + 1) a.size (hit a.data.toList p f k) → ∀ c : Nat, (convert 41 9 (.slice (some ⟨w.heap.size + 1, 0, none⟩) a.size c)).run Try.prog W = .ok (.string ⟨(hit a.data.toList p f k).toArray⟩) W := fun W h c => HC.out W h c
      rcases stop2 with ⟨hk1, hk2⟩ | hk1
      · have k2 : (k : Int) < 4 := by omega
        go_wp2
        refine Reg.wp_plan (S := fun w' => Row8.Row w' (w.heap.size + 1) a.size (hit a.data.toList p f k)) 15 [(0, true), (1, true), (2, true), (3, true), (4, true), (5, true), (7, true), (6, false), (8, false), (9, true), (10, true), (11, true), (12, false), (13, true), (14, true)] (by kernel_rfl) (by kernel_rfl) (by kernel_rfl) (by kernel_rfl) (fun _ _ _ d _ h => by cases d <;> exact h) ?_ (fun hHeld => ?_)
        · exact HR.out
        refine Reg.G_on (o := { dst := some 51, op := Op.move (Operand.tmp 8), type := 41, pos := "law.go:35", after := #[], guard := Option.none }) (v := ?_) (by rfl) ?_ (fun wS hSw => ?_) ?_
        rotate_left
        · kernel_rfl
        · (try dsimp only at hSw); go_simp; (try with_reducible rfl)
        try simp only [Act.put, List.setIfInBounds_toArray, List.set_cons_zero, List.set_cons_succ]
        refine Reg.G_on (o := { dst := some 52, op := Op.convert 41 9 (Operand.tmp 51), type := 9, pos := "law.go:35", after := #[{ on := 0, ground := Ground.data }], guard := Option.none }) (v := ?_) (by rfl) ?_ (fun wS hSw => ?_) ?_
        rotate_left
        · kernel_rfl
        · (try dsimp only at hSw); go_simp; (try with_reducible rfl)
        try simp only [Act.put, List.setIfInBounds_toArray, List.set_cons_zero, List.set_cons_succ]
        refine Reg.G_on (o := { dst := some 53, op := Op.move (Operand.tmp 0), type := 9, pos := "law.go:35", after := #[], guard := Option.none }) (v := ?_) (by rfl) ?_ (fun wS hSw => ?_) ?_
        rotate_left
        · kernel_rfl
        · (try dsimp only at hSw); go_simp; (try with_reducible rfl)
        try simp only [Act.put, List.setIfInBounds_toArray, List.set_cons_zero, List.set_cons_succ]
        refine Reg.G_on (o := { dst := some 54, op := Op.binOp BinOp.eql 9 (Operand.tmp 52) (Operand.tmp 53) 9, type := 4, pos := "law.go:35", after := #[{ on := 1, ground := Ground.data }, { on := 2, ground := Ground.data }], guard := Option.none }) (v := ?_) (by rfl) ?_ (fun wS hSw => ?_) ?_
        rotate_left
        · kernel_rfl
        · (try dsimp only at hSw); go_simp; (try with_reducible rfl)
        try simp only [Act.put, List.setIfInBounds_toArray, List.set_cons_zero, List.set_cons_succ]
        refine Reg.G_on (o := { dst := some 55, op := Op.move (Operand.tmp 8), type := 41, pos := "law.go:35", after := #[], guard := Option.none }) (v := ?_) (by rfl) ?_ (fun wS hSw => ?_) ?_
        rotate_left
        · kernel_rfl
        · (try dsimp only at hSw); go_simp; (try with_reducible rfl)
        try simp only [Act.put, List.setIfInBounds_toArray, List.set_cons_zero, List.set_cons_succ]
        refine Reg.G_on (o := { dst := some 56, op := Op.convert 41 9 (Operand.tmp 55), type := 9, pos := "law.go:35", after := #[{ on := 4, ground := Ground.data }], guard := Option.none }) (v := ?_) (by rfl) ?_ (fun wS hSw => ?_) ?_
        rotate_left
        · kernel_rfl
        · (try dsimp only at hSw); go_simp; (try with_reducible rfl)
        try simp only [Act.put, List.setIfInBounds_toArray, List.set_cons_zero, List.set_cons_succ]
        refine Reg.G_on (o := { dst := some 58, op := Op.move (Operand.tmp 0), type := 9, pos := "law.go:35", after := #[], guard := Option.none }) (v := ?_) (by rfl) ?_ (fun wS hSw => ?_) ?_
        rotate_left
        · kernel_rfl
        · (try dsimp only at hSw); go_simp; (try with_reducible rfl)
        try simp only [Act.put, List.setIfInBounds_toArray, List.set_cons_zero, List.set_cons_succ]
        refine Reg.G_step (o := { dst := some 57, op := Op.call { callee := Callee.value (Operand.func 21), args := #[Operand.tmp 56], argTypes := #[9] }, type := 35, pos := "law.go:35", after := #[{ on := 5, ground := Ground.data }], guard := Option.none }) (by rfl) ?_ (fun K hK => ?_)
        · kernel_rfl
        go_simp
        refine (Crc.sum _ _ hsz).mono ?_
        rintro e w' ⟨rfl, rfl⟩
        refine hK.out _ _ ?_ (fun hHeld => ?_)
        · exact HR.out
        clear hK K
        try simp only [Act.put, List.setIfInBounds_toArray, List.set_cons_zero, List.set_cons_succ]
        skip
        refine Reg.G_step (o := { dst := some 59, op := Op.call { callee := Callee.value (Operand.func 21), args := #[Operand.tmp 58], argTypes := #[9] }, type := 35, pos := "law.go:35", after := #[{ on := 7, ground := Ground.data }, { on := 6, ground := Ground.chain }], guard := Option.none }) (by rfl) ?_ (fun K hK => ?_)
        · kernel_rfl
        go_simp
        refine (Crc.sum _ _ hsz2).mono ?_
        rintro e w' ⟨rfl, rfl⟩
        refine hK.out _ _ ?_ (fun hHeld => ?_)
        · exact HR.out
        clear hK K
        try simp only [Act.put, List.setIfInBounds_toArray, List.set_cons_zero, List.set_cons_succ]
        have hE := HE.out
        refine Reg.G_on (o := { dst := some 60, op := Op.binOp BinOp.eql 35 (Operand.tmp 57) (Operand.tmp 59) 35, type := 4, pos := "law.go:35", after := #[{ on := 6, ground := Ground.data }, { on := 8, ground := Ground.data }], guard := Option.none }) (v := ?_) (by rfl) ?_ (fun wS hSw => ?_) ?_
        rotate_left
        · kernel_rfl
        · (try dsimp only at hSw); go_simp; (try with_reducible rfl)
        try simp only [Act.put, List.setIfInBounds_toArray, List.set_cons_zero, List.set_cons_succ]
        refine Reg.G_on (o := { dst := some 61, op := Op.binOp BinOp.eql 4 (Operand.tmp 54) (Operand.tmp 60) 4, type := 4, pos := "law.go:35", after := #[{ on := 3, ground := Ground.data }, { on := 9, ground := Ground.data }], guard := Option.none }) (v := ?_) (by rfl) ?_ (fun wS hSw => ?_) ?_
        rotate_left
        · kernel_rfl
        · (try dsimp only at hSw); go_simp; (try with_reducible rfl)
        try simp only [Act.put, List.setIfInBounds_toArray, List.set_cons_zero, List.set_cons_succ]
        refine Reg.G_on (o := { dst := some 62, op := Op.move (Operand.tmp 61), type := 4, pos := "law.go:35", after := #[{ on := 10, ground := Ground.data }, { on := 8, ground := Ground.chain }], guard := Option.none }) (v := ?_) (by rfl) ?_ (fun wS hSw => ?_) ?_
        rotate_left
        · kernel_rfl
        · (try dsimp only at hSw); go_simp; (try with_reducible rfl)
        try simp only [Act.put, List.setIfInBounds_toArray, List.set_cons_zero, List.set_cons_succ]
        refine Reg.G_step (o := { dst := some 63, op := Op.call { callee := Callee.value (Operand.func 23), args := #[], argTypes := #[] }, type := 4, pos := "law.go:35", after := #[{ on := 11, ground := Ground.chain }, { on := 11, ground := Ground.guard }], guard := some (11, true) }) (by rfl) ?_ (fun K hK => ?_)
        · kernel_rfl
        go_simp
        refine (awake _).mono ?_
        rintro e w' ⟨rfl, rfl⟩
        refine hK.out _ _ ?_ (fun hHeld => ?_)
        · exact HR.out
        clear hK K
        try simp only [Act.put, List.setIfInBounds_toArray, List.set_cons_zero, List.set_cons_succ]
        refine Reg.G_on (o := { dst := some 64, op := Op.pick (Operand.tmp 62) (Operand.tmp 63) (Operand.const (Value.bool false)), type := 4, pos := "law.go:35", after := #[{ on := 11, ground := Ground.data }, { on := 12, ground := Ground.data }], guard := Option.none }) (v := ?_) (by rfl) ?_ (fun wS hSw => ?_) ?_
        rotate_left
        · kernel_rfl
        · (try dsimp only at hSw); go_simp; (try with_reducible rfl)
        try simp only [Act.put, List.setIfInBounds_toArray, List.set_cons_zero, List.set_cons_succ]
        refine Reg.G_on (o := { dst := some 6, op := Op.assign (Operand.tmp 64), type := 4, pos := "law.go:35", after := #[{ on := 13, ground := Ground.data }, { on := 12, ground := Ground.chain }, { on := 0, ground := Ground.phase }, { on := 1, ground := Ground.phase }, { on := 2, ground := Ground.phase }, { on := 3, ground := Ground.phase }, { on := 4, ground := Ground.phase }, { on := 5, ground := Ground.phase }, { on := 6, ground := Ground.phase }, { on := 7, ground := Ground.phase }, { on := 8, ground := Ground.phase }, { on := 9, ground := Ground.phase }, { on := 10, ground := Ground.phase }, { on := 11, ground := Ground.phase }, { on := 12, ground := Ground.phase }, { on := 13, ground := Ground.phase }], guard := Option.none }) (v := ?_) (by rfl) ?_ (fun wS hSw => ?_) ?_
        rotate_left
        · kernel_rfl
        · (try dsimp only at hSw); go_simp; (try with_reducible rfl)
        try simp only [Act.put, List.setIfInBounds_toArray, List.set_cons_zero, List.set_cons_succ]
        refine Reg.G_done ?_
        go_wp2
        go_ret
        exact ⟨rfl, hb.drew⟩
      · have k2 : (4 : Int) ≤ (k : Int) := by omega
        go_wp2
        refine Reg.wp_plan (S := fun w' => Row8.Row w' (w.heap.size + 1) a.size (hit a.data.toList p f k)) 15 [(0, true), (1, true), (2, true), (3, true), (4, true), (5, true), (7, true), (6, false), (8, false), (9, true), (10, true), (11, true), (12, false), (13, true), (14, true)] (by kernel_rfl) (by kernel_rfl) (by kernel_rfl) (by kernel_rfl) (fun _ _ _ d _ h => by cases d <;> exact h) ?_ (fun hHeld => ?_)
        · exact HR.out
        refine Reg.G_on (o := { dst := some 51, op := Op.move (Operand.tmp 8), type := 41, pos := "law.go:35", after := #[], guard := Option.none }) (v := ?_) (by rfl) ?_ (fun wS hSw => ?_) ?_
        rotate_left
        · kernel_rfl
        · (try dsimp only at hSw); go_simp; (try with_reducible rfl)
        try simp only [Act.put, List.setIfInBounds_toArray, List.set_cons_zero, List.set_cons_succ]
        refine Reg.G_on (o := { dst := some 52, op := Op.convert 41 9 (Operand.tmp 51), type := 9, pos := "law.go:35", after := #[{ on := 0, ground := Ground.data }], guard := Option.none }) (v := ?_) (by rfl) ?_ (fun wS hSw => ?_) ?_
        rotate_left
        · kernel_rfl
        · (try dsimp only at hSw); go_simp; (try with_reducible rfl)
        try simp only [Act.put, List.setIfInBounds_toArray, List.set_cons_zero, List.set_cons_succ]
        refine Reg.G_on (o := { dst := some 53, op := Op.move (Operand.tmp 0), type := 9, pos := "law.go:35", after := #[], guard := Option.none }) (v := ?_) (by rfl) ?_ (fun wS hSw => ?_) ?_
        rotate_left
        · kernel_rfl
        · (try dsimp only at hSw); go_simp; (try with_reducible rfl)
        try simp only [Act.put, List.setIfInBounds_toArray, List.set_cons_zero, List.set_cons_succ]
        refine Reg.G_on (o := { dst := some 54, op := Op.binOp BinOp.eql 9 (Operand.tmp 52) (Operand.tmp 53) 9, type := 4, pos := "law.go:35", after := #[{ on := 1, ground := Ground.data }, { on := 2, ground := Ground.data }], guard := Option.none }) (v := ?_) (by rfl) ?_ (fun wS hSw => ?_) ?_
        rotate_left
        · kernel_rfl
        · (try dsimp only at hSw); go_simp; (try with_reducible rfl)
        try simp only [Act.put, List.setIfInBounds_toArray, List.set_cons_zero, List.set_cons_succ]
        refine Reg.G_on (o := { dst := some 55, op := Op.move (Operand.tmp 8), type := 41, pos := "law.go:35", after := #[], guard := Option.none }) (v := ?_) (by rfl) ?_ (fun wS hSw => ?_) ?_
        rotate_left
        · kernel_rfl
        · (try dsimp only at hSw); go_simp; (try with_reducible rfl)
        try simp only [Act.put, List.setIfInBounds_toArray, List.set_cons_zero, List.set_cons_succ]
        refine Reg.G_on (o := { dst := some 56, op := Op.convert 41 9 (Operand.tmp 55), type := 9, pos := "law.go:35", after := #[{ on := 4, ground := Ground.data }], guard := Option.none }) (v := ?_) (by rfl) ?_ (fun wS hSw => ?_) ?_
        rotate_left
        · kernel_rfl
        · (try dsimp only at hSw); go_simp; (try with_reducible rfl)
        try simp only [Act.put, List.setIfInBounds_toArray, List.set_cons_zero, List.set_cons_succ]
        refine Reg.G_on (o := { dst := some 58, op := Op.move (Operand.tmp 0), type := 9, pos := "law.go:35", after := #[], guard := Option.none }) (v := ?_) (by rfl) ?_ (fun wS hSw => ?_) ?_
        rotate_left
        · kernel_rfl
        · (try dsimp only at hSw); go_simp; (try with_reducible rfl)
        try simp only [Act.put, List.setIfInBounds_toArray, List.set_cons_zero, List.set_cons_succ]
        refine Reg.G_step (o := { dst := some 57, op := Op.call { callee := Callee.value (Operand.func 21), args := #[Operand.tmp 56], argTypes := #[9] }, type := 35, pos := "law.go:35", after := #[{ on := 5, ground := Ground.data }], guard := Option.none }) (by rfl) ?_ (fun K hK => ?_)
        · kernel_rfl
        go_simp
        refine (Crc.sum _ _ hsz).mono ?_
        rintro e w' ⟨rfl, rfl⟩
        refine hK.out _ _ ?_ (fun hHeld => ?_)
        · exact HR.out
        clear hK K
        try simp only [Act.put, List.setIfInBounds_toArray, List.set_cons_zero, List.set_cons_succ]
        skip
        refine Reg.G_step (o := { dst := some 59, op := Op.call { callee := Callee.value (Operand.func 21), args := #[Operand.tmp 58], argTypes := #[9] }, type := 35, pos := "law.go:35", after := #[{ on := 7, ground := Ground.data }, { on := 6, ground := Ground.chain }], guard := Option.none }) (by rfl) ?_ (fun K hK => ?_)
        · kernel_rfl
        go_simp
        refine (Crc.sum _ _ hsz2).mono ?_
        rintro e w' ⟨rfl, rfl⟩
        refine hK.out _ _ ?_ (fun hHeld => ?_)
        · exact HR.out
        clear hK K
        try simp only [Act.put, List.setIfInBounds_toArray, List.set_cons_zero, List.set_cons_succ]
        have hE := HE.out
        refine Reg.G_on (o := { dst := some 60, op := Op.binOp BinOp.eql 35 (Operand.tmp 57) (Operand.tmp 59) 35, type := 4, pos := "law.go:35", after := #[{ on := 6, ground := Ground.data }, { on := 8, ground := Ground.data }], guard := Option.none }) (v := ?_) (by rfl) ?_ (fun wS hSw => ?_) ?_
        rotate_left
        · kernel_rfl
        · (try dsimp only at hSw); go_simp; (try with_reducible rfl)
        try simp only [Act.put, List.setIfInBounds_toArray, List.set_cons_zero, List.set_cons_succ]
        refine Reg.G_on (o := { dst := some 61, op := Op.binOp BinOp.eql 4 (Operand.tmp 54) (Operand.tmp 60) 4, type := 4, pos := "law.go:35", after := #[{ on := 3, ground := Ground.data }, { on := 9, ground := Ground.data }], guard := Option.none }) (v := ?_) (by rfl) ?_ (fun wS hSw => ?_) ?_
        rotate_left
        · kernel_rfl
        · (try dsimp only at hSw); go_simp; (try with_reducible rfl)
        try simp only [Act.put, List.setIfInBounds_toArray, List.set_cons_zero, List.set_cons_succ]
        refine Reg.G_on (o := { dst := some 62, op := Op.move (Operand.tmp 61), type := 4, pos := "law.go:35", after := #[{ on := 10, ground := Ground.data }, { on := 8, ground := Ground.chain }], guard := Option.none }) (v := ?_) (by rfl) ?_ (fun wS hSw => ?_) ?_
        rotate_left
        · kernel_rfl
        · (try dsimp only at hSw); go_simp; (try with_reducible rfl)
        try simp only [Act.put, List.setIfInBounds_toArray, List.set_cons_zero, List.set_cons_succ]
        refine Reg.G_step (o := { dst := some 63, op := Op.call { callee := Callee.value (Operand.func 23), args := #[], argTypes := #[] }, type := 4, pos := "law.go:35", after := #[{ on := 11, ground := Ground.chain }, { on := 11, ground := Ground.guard }], guard := some (11, true) }) (by rfl) ?_ (fun K hK => ?_)
        · kernel_rfl
        go_simp
        refine (awake _).mono ?_
        rintro e w' ⟨rfl, rfl⟩
        refine hK.out _ _ ?_ (fun hHeld => ?_)
        · exact HR.out
        clear hK K
        try simp only [Act.put, List.setIfInBounds_toArray, List.set_cons_zero, List.set_cons_succ]
        refine Reg.G_on (o := { dst := some 64, op := Op.pick (Operand.tmp 62) (Operand.tmp 63) (Operand.const (Value.bool false)), type := 4, pos := "law.go:35", after := #[{ on := 11, ground := Ground.data }, { on := 12, ground := Ground.data }], guard := Option.none }) (v := ?_) (by rfl) ?_ (fun wS hSw => ?_) ?_
        rotate_left
        · kernel_rfl
        · (try dsimp only at hSw); go_simp; (try with_reducible rfl)
        try simp only [Act.put, List.setIfInBounds_toArray, List.set_cons_zero, List.set_cons_succ]
        refine Reg.G_on (o := { dst := some 6, op := Op.assign (Operand.tmp 64), type := 4, pos := "law.go:35", after := #[{ on := 13, ground := Ground.data }, { on := 12, ground := Ground.chain }, { on := 0, ground := Ground.phase }, { on := 1, ground := Ground.phase }, { on := 2, ground := Ground.phase }, { on := 3, ground := Ground.phase }, { on := 4, ground := Ground.phase }, { on := 5, ground := Ground.phase }, { on := 6, ground := Ground.phase }, { on := 7, ground := Ground.phase }, { on := 8, ground := Ground.phase }, { on := 9, ground := Ground.phase }, { on := 10, ground := Ground.phase }, { on := 11, ground := Ground.phase }, { on := 12, ground := Ground.phase }, { on := 13, ground := Ground.phase }], guard := Option.none }) (v := ?_) (by rfl) ?_ (fun wS hSw => ?_) ?_
        rotate_left
        · kernel_rfl
        · (try dsimp only at hSw); go_simp; (try with_reducible rfl)
        try simp only [Act.put, List.setIfInBounds_toArray, List.set_cons_zero, List.set_cons_succ]
        refine Reg.G_done ?_
        go_wp2
        go_ret
        exact ⟨rfl, hb.drew⟩
end Go.Proofs.Ytfjcgbkoohjmnaa.CrcR
