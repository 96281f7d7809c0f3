import Derived.Test.YtkijeknopnjamaaBase
import Derived.Test.YtkijeknopnjamaaRegion
set_option linter.unusedVariables false
set_option linter.unusedSimpArgs false
namespace Go.Proofs.Ytkijeknopnjamaa.Sampling
open Go.RowKit Base

/-- Age: how long ago. -/
def age (a b : Int) : Int := if a ≤ b then 0 else a - b
theorem beyond_u (a b : Int) (w : World) (ha : a < 18446744073709551616) (hb : 0 ≤ b) :
    Calls Try.prog 62 #[.int .u64 a, .int .u64 b] w fun e w' => e = .returned (.int .u64 (age a b)) ∧ w = w' := by
  by_cases h : a ≤ b
  · go_enter Try.func62, Try.ntmps62
    go_wp2
    go_ret
    exact ⟨bx (by unfold age; rw [if_pos h]), rfl⟩
  · have hw : IntKind.u64.wrap (a - b) = a - b := wrapu64 (by omega) (by omega)
    go_enter Try.func62, Try.ntmps62
    go_wp2
    go_ret
    exact ⟨bx (by unfold age; rw [if_neg (by omega)]), rfl⟩
theorem age_u (a b : Int) (w : World) (ha : a < 18446744073709551616) (hb : 0 ≤ b) :
    Calls Try.prog 50 #[.int .u64 a, .int .u64 b] w fun e w' => e = .returned (.int .u64 (age a b)) ∧ w = w' := by
  go_enter Try.func50, Try.ntmps50
  go_wp2_with fail
  refine (beyond_u a b _ ha hb).mono ?_
  rintro e w' ⟨rfl, rfl⟩
  go_wp2
  go_ret
  exact ⟨rfl, rfl⟩

def mx (n : Int) : Int := if n < 0 then 0 else n
theorem mx_ge (n : Int) : 0 ≤ mx n := by unfold mx; split <;> omega

theorem new (n : Int) (w : World) :
    Calls Try.prog 16 #[.int .i64 n] w fun e w' => e = .returned (.pointer (some ⟨w.heap.size, 0, none⟩)) ∧ w' = w.alloc (.cells #[.int .i64 (mx n), .bool false, .string ByteArray.empty, .int .u64 0] 43) := by
  unfold mx
  by_cases h : n < 0
  · rw [if_pos h]
    go_enter Try.func16, Try.ntmps16
    go_wp2
    go_ret
    exact ⟨rfl, rfl⟩
  · rw [if_neg h]
    go_enter Try.func16, Try.ntmps16
    go_wp2
    go_ret
    exact ⟨rfl, rfl⟩

theorem size_nil (w : World) : Calls Try.prog 21 #[.pointer none] w fun e w' => e = .returned (.int .i64 0) ∧ w = w' := by
  go_enter Try.func21, Try.ntmps21
  go_wp2
  go_ret
  exact ⟨rfl, rfl⟩
theorem size_ (n : Int) (a : Addr) (w : World) (hc : w.cell? a = some (.int .i64 n)) : Calls Try.prog 21 #[.pointer (some a)] w fun e w' => e = .returned (.int .i64 n) ∧ w = w' := by
  go_enter Try.func21, Try.ntmps21
  go_wp2
  go_ret
  exact ⟨rfl, rfl⟩
theorem write_nil (s : ByteArray) (n : Int) (w : World) : Calls Try.prog 20 #[.pointer none, .string s, .int .u64 n] w fun e w' => e = .returned (.int .i64 20) ∧ w = w' := by
  go_enter Try.func20, Try.ntmps20
  go_wp2
  go_ret
  exact ⟨rfl, rfl⟩
theorem write_long (s : ByteArray) (n z : Int) (b : Nat) (w : World) (hc : w.cell? ⟨b, 0, none⟩ = some (.int .i64 z)) (h : z < (s.size : Int)) :
    Calls Try.prog 20 #[.pointer (some ⟨b, 0, none⟩), .string s, .int .u64 n] w fun e w' => e = .returned (.int .i64 3) ∧ w = w' := by
  go_enter Try.func20, Try.ntmps20
  go_wp2
  go_ret
  exact ⟨rfl, rfl⟩
/-- A port's cells. -/
def Port (w : World) (b : Nat) (z : Int) (t : Bool) (s : ByteArray) (f : Int) : Prop :=
  w.cell? ⟨b, 0, none⟩ = some (.int .i64 z) ∧ w.cell? ⟨b, 1, none⟩ = some (.bool t) ∧ w.cell? ⟨b, 2, none⟩ = some (.string s) ∧ w.cell? ⟨b, 3, none⟩ = some (.int .u64 f) ∧
  w.frozen? ⟨b, 1, none⟩ = false ∧ w.frozen? ⟨b, 2, none⟩ = false ∧ w.frozen? ⟨b, 3, none⟩ = false
theorem write_ok (s : ByteArray) (n z : Int) (b : Nat) (t0 : Bool) (s0 : ByteArray) (f0 : Int) (w : World) (hp : Port w b z t0 s0 f0) (h : (s.size : Int) ≤ z) :
    Calls Try.prog 20 #[.pointer (some ⟨b, 0, none⟩), .string s, .int .u64 n] w fun e w' => e = .returned (.int .i64 0) ∧
      w' = ((w.setCell ⟨b, 1, none⟩ (.bool true)).setCell ⟨b, 2, none⟩ (.string s)).setCell ⟨b, 3, none⟩ (.int .u64 n) := by
  obtain ⟨h0, h1, h2, h3, f1, f2, f3⟩ := hp
  go_enter Try.func20, Try.ntmps20
  go_wp2
  go_ret
  exact ⟨rfl, rfl⟩
theorem read_nil (n : Int) (w : World) : Calls Try.prog 17 #[.pointer none, .int .u64 n] w fun e w' => e = .returned (.tuple #[.string ByteArray.empty, .int .u64 0, .int .i64 18]) ∧ w = w' := by
  go_enter Try.func17, Try.ntmps17
  go_wp2
  go_ret3
  exact ⟨rfl, rfl⟩
theorem read_none (n z : Int) (b : Nat) (w : World) (hp : Port w b z false ByteArray.empty 0) :
    Calls Try.prog 17 #[.pointer (some ⟨b, 0, none⟩), .int .u64 n] w fun e w' => e = .returned (.tuple #[.string ByteArray.empty, .int .u64 0, .int .i64 18]) ∧ w = w' := by
  obtain ⟨h0, h1, h2, h3, f1, f2, f3⟩ := hp
  go_enter Try.func17, Try.ntmps17
  go_wp2
  go_ret3
  exact ⟨rfl, rfl⟩
theorem read_last (n z f : Int) (s : ByteArray) (b : Nat) (w : World) (hp : Port w b z true s f) (hn : n < 18446744073709551616) (hf : 0 ≤ f) :
    Calls Try.prog 17 #[.pointer (some ⟨b, 0, none⟩), .int .u64 n] w fun e w' => e = .returned (.tuple #[.string s, .int .u64 (age n f), .int .i64 0]) ∧ w' = w.drew := by
  obtain ⟨h0, h1, h2, h3, f1, f2, f3⟩ := hp
  go_enter Try.func17, Try.ntmps17
  go_wp2_with fail
  refine Reg.wp_plan (S := fun w' => w'.cell? ⟨b, 1, none⟩ = some (.bool true) ∧ w'.cell? ⟨b, 2, none⟩ = some (.string s) ∧ w'.cell? ⟨b, 3, none⟩ = some (.int .u64 f)) 15 [(0, true), (1, true), (2, true), (3, true), (4, true), (5, true), (6, true), (7, true), (8, true), (9, true), (10, true), (11, false), (12, true), (13, true), (14, true)] (by kernel_rfl) (by kernel_rfl) (by kernel_rfl) (by kernel_rfl) (fun _ _ _ d _ h => by cases d <;> exact h) ?_ (fun hHeld => ?_)
  · exact ⟨by simpa using h1, by simpa using h2, by simpa using h3⟩
  refine Reg.G_on (o := { dst := some 17, op := Op.move (Operand.tmp 0), type := 24, pos := "sampling.go:50", after := #[], guard := Option.none }) (v := ?_) (by rfl) ?_ (fun wS hSw => ?_) ?_
  rotate_left
  · kernel_rfl
  · (try dsimp only at hSw); go_simp; (try with_reducible rfl)
  try simp only [Act.put, List.setIfInBounds_toArray, List.set_cons_zero, List.set_cons_succ]
  refine Reg.G_on (o := { dst := some 18, op := Op.nilCheck (Operand.tmp 17), type := 0, pos := "sampling.go:50", after := #[{ on := 0, ground := Ground.data }], guard := Option.none }) (v := ?_) (by rfl) ?_ (fun wS hSw => ?_) ?_
  rotate_left
  · kernel_rfl
  · (try dsimp only at hSw); go_simp; (try with_reducible rfl)
  try simp only [Act.put, List.setIfInBounds_toArray, List.set_cons_zero, List.set_cons_succ]
  refine Reg.G_on (o := { dst := some 19, op := Op.fieldAddr 43 (Operand.tmp 18) 1, type := 0, pos := "sampling.go:50", after := #[{ on := 1, ground := Ground.data }], guard := Option.none }) (v := ?_) (by rfl) ?_ (fun wS hSw => ?_) ?_
  rotate_left
  · kernel_rfl
  · (try dsimp only at hSw); go_simp; (try with_reducible rfl)
  try simp only [Act.put, List.setIfInBounds_toArray, List.set_cons_zero, List.set_cons_succ]
  refine Reg.G_on (o := { dst := some 20, op := Op.fieldAddr 41 (Operand.tmp 19) 1, type := 0, pos := "sampling.go:50", after := #[{ on := 2, ground := Ground.data }], guard := Option.none }) (v := ?_) (by rfl) ?_ (fun wS hSw => ?_) ?_
  rotate_left
  · kernel_rfl
  · (try dsimp only at hSw); go_simp; (try with_reducible rfl)
  try simp only [Act.put, List.setIfInBounds_toArray, List.set_cons_zero, List.set_cons_succ]
  refine Reg.G_on (o := { dst := some 21, op := Op.load 9 (Operand.tmp 20), type := 9, pos := "sampling.go:50", after := #[{ on := 3, ground := Ground.data }], guard := Option.none }) (v := ?_) (by rfl) ?_ (fun wS hSw => ?_) ?_
  rotate_left
  · kernel_rfl
  · (try dsimp only at hSw); go_simp; (try with_reducible rfl)
  try simp only [Act.put, List.setIfInBounds_toArray, List.set_cons_zero, List.set_cons_succ]
  refine Reg.G_on (o := { dst := some 22, op := Op.move (Operand.tmp 1), type := 27, pos := "sampling.go:50", after := #[], guard := Option.none }) (v := ?_) (by rfl) ?_ (fun wS hSw => ?_) ?_
  rotate_left
  · kernel_rfl
  · (try dsimp only at hSw); go_simp; (try with_reducible rfl)
  try simp only [Act.put, List.setIfInBounds_toArray, List.set_cons_zero, List.set_cons_succ]
  refine Reg.G_on (o := { dst := some 23, op := Op.move (Operand.tmp 0), type := 24, pos := "sampling.go:50", after := #[], guard := Option.none }) (v := ?_) (by rfl) ?_ (fun wS hSw => ?_) ?_
  rotate_left
  · kernel_rfl
  · (try dsimp only at hSw); go_simp; (try with_reducible rfl)
  try simp only [Act.put, List.setIfInBounds_toArray, List.set_cons_zero, List.set_cons_succ]
  refine Reg.G_on (o := { dst := some 24, op := Op.nilCheck (Operand.tmp 23), type := 0, pos := "sampling.go:50", after := #[{ on := 6, ground := Ground.data }], guard := Option.none }) (v := ?_) (by rfl) ?_ (fun wS hSw => ?_) ?_
  rotate_left
  · kernel_rfl
  · (try dsimp only at hSw); go_simp; (try with_reducible rfl)
  try simp only [Act.put, List.setIfInBounds_toArray, List.set_cons_zero, List.set_cons_succ]
  refine Reg.G_on (o := { dst := some 25, op := Op.fieldAddr 43 (Operand.tmp 24) 1, type := 0, pos := "sampling.go:50", after := #[{ on := 7, ground := Ground.data }], guard := Option.none }) (v := ?_) (by rfl) ?_ (fun wS hSw => ?_) ?_
  rotate_left
  · kernel_rfl
  · (try dsimp only at hSw); go_simp; (try with_reducible rfl)
  try simp only [Act.put, List.setIfInBounds_toArray, List.set_cons_zero, List.set_cons_succ]
  refine Reg.G_on (o := { dst := some 26, op := Op.fieldAddr 41 (Operand.tmp 25) 2, type := 0, pos := "sampling.go:50", after := #[{ on := 8, ground := Ground.data }], guard := Option.none }) (v := ?_) (by rfl) ?_ (fun wS hSw => ?_) ?_
  rotate_left
  · kernel_rfl
  · (try dsimp only at hSw); go_simp; (try with_reducible rfl)
  try simp only [Act.put, List.setIfInBounds_toArray, List.set_cons_zero, List.set_cons_succ]
  refine Reg.G_on (o := { dst := some 27, op := Op.load 27 (Operand.tmp 26), type := 27, pos := "sampling.go:50", after := #[{ on := 9, ground := Ground.data }], guard := Option.none }) (v := ?_) (by rfl) ?_ (fun wS hSw => ?_) ?_
  rotate_left
  · kernel_rfl
  · (try dsimp only at hSw); go_simp; (try with_reducible rfl)
  try simp only [Act.put, List.setIfInBounds_toArray, List.set_cons_zero, List.set_cons_succ]
  refine Reg.G_step (o := { dst := some 28, op := Op.call { callee := Callee.value (Operand.func 50), args := #[Operand.tmp 22, Operand.tmp 27], argTypes := #[27, 27] }, type := 27, pos := "sampling.go:50", after := #[{ on := 5, ground := Ground.data }, { on := 10, ground := Ground.data }], guard := Option.none }) (by rfl) ?_ (fun K hK => ?_)
  · kernel_rfl
  go_simp
  refine (age_u n f _ hn hf).mono ?_
  rintro e w' ⟨rfl, rfl⟩
  refine hK.out _ _ ?_ (fun hHeld => ?_)
  · exact hHeld
  clear hK K
  try simp only [Act.put, List.setIfInBounds_toArray, List.set_cons_zero, List.set_cons_succ]
  refine Reg.G_on (o := { dst := some 4, op := Op.assign (Operand.tmp 21), type := 9, pos := "sampling.go:50", after := #[{ on := 4, ground := Ground.data }, { on := 11, ground := Ground.chain }, { on := 0, ground := Ground.phase }, { on := 1, ground := Ground.phase }, { on := 2, ground := Ground.phase }, { on := 3, ground := Ground.phase }, { on := 4, ground := Ground.phase }, { on := 5, ground := Ground.textOnly Departure.lateStores }, { on := 6, ground := Ground.textOnly Departure.lateStores }, { on := 7, ground := Ground.textOnly Departure.lateStores }, { on := 8, ground := Ground.textOnly Departure.lateStores }, { on := 9, ground := Ground.textOnly Departure.lateStores }, { on := 10, ground := Ground.textOnly Departure.lateStores }, { on := 11, ground := Ground.textOnly Departure.lateStoresUnsure }], guard := Option.none }) (v := ?_) (by rfl) ?_ (fun wS hSw => ?_) ?_
  rotate_left
  · kernel_rfl
  · (try dsimp only at hSw); go_simp; (try with_reducible rfl)
  try simp only [Act.put, List.setIfInBounds_toArray, List.set_cons_zero, List.set_cons_succ]
  refine Reg.G_on (o := { dst := some 5, op := Op.assign (Operand.tmp 28), type := 27, pos := "sampling.go:50", after := #[{ on := 11, ground := Ground.data }, { on := 12, ground := Ground.chain }, { on := 0, ground := Ground.phase }, { on := 1, ground := Ground.phase }, { on := 2, ground := Ground.phase }, { on := 3, ground := Ground.phase }, { on := 4, ground := Ground.phase }, { on := 5, ground := Ground.phase }, { on := 6, ground := Ground.phase }, { on := 7, ground := Ground.phase }, { on := 8, ground := Ground.phase }, { on := 9, ground := Ground.phase }, { on := 10, ground := Ground.phase }, { on := 11, ground := Ground.phase }, { on := 12, ground := Ground.phase }], guard := Option.none }) (v := ?_) (by rfl) ?_ (fun wS hSw => ?_) ?_
  rotate_left
  · kernel_rfl
  · (try dsimp only at hSw); go_simp; (try with_reducible rfl)
  try simp only [Act.put, List.setIfInBounds_toArray, List.set_cons_zero, List.set_cons_succ]
  refine Reg.G_on (o := { dst := some 6, op := Op.assign (Operand.const (Value.int IntKind.i64 0)), type := 30, pos := "sampling.go:50", after := #[{ on := 13, ground := Ground.chain }, { on := 0, ground := Ground.phase }, { on := 1, ground := Ground.phase }, { on := 2, ground := Ground.phase }, { on := 3, ground := Ground.phase }, { on := 4, ground := Ground.phase }, { on := 5, ground := Ground.phase }, { on := 6, ground := Ground.phase }, { on := 7, ground := Ground.phase }, { on := 8, ground := Ground.phase }, { on := 9, ground := Ground.phase }, { on := 10, ground := Ground.phase }, { on := 11, ground := Ground.phase }, { on := 12, ground := Ground.phase }, { on := 13, ground := Ground.phase }], guard := Option.none }) (v := ?_) (by rfl) ?_ (fun wS hSw => ?_) ?_
  rotate_left
  · kernel_rfl
  · (try dsimp only at hSw); go_simp; (try with_reducible rfl)
  try simp only [Act.put, List.setIfInBounds_toArray, List.set_cons_zero, List.set_cons_succ]
  refine Reg.G_done ?_
  go_wp2
  go_ret3
  exact ⟨rfl, rfl⟩
theorem Port.below {w w' : World} {b : Nat} {z : Int} {t : Bool} {s : ByteArray} {f : Int} (h : Port w b z t s f) (hb : Below w.heap.size w w') (hl : b < w.heap.size) : Port w' b z t s f :=
  let ⟨h0, h1, h2, h3, f1, f2, f3⟩ := h
  ⟨cbel hb h0 hl, cbel hb h1 hl, cbel hb h2 hl, cbel hb h3 hl, fbel hb f1 hl, fbel hb f2 hl, fbel hb f3 hl⟩
theorem Port.new (w : World) (z : Int) : Port (w.alloc (.cells #[.int .i64 z, .bool false, .string ByteArray.empty, .int .u64 0] 43)) w.heap.size z false ByteArray.empty 0 := by
  refine ⟨?_, ?_, ?_, ?_, ?_, ?_, ?_⟩ <;> simp
/-- The world behind a Write. -/
def put (w : World) (b : Nat) (s : ByteArray) (n : Int) : World := ((w.setCell ⟨b, 1, none⟩ (.bool true)).setCell ⟨b, 2, none⟩ (.string s)).setCell ⟨b, 3, none⟩ (.int .u64 n)
theorem Port.put {w : World} {b : Nat} {z : Int} {t : Bool} {s0 : ByteArray} {f0 : Int} (h : Port w b z t s0 f0) (s : ByteArray) (n : Int) : Port (put w b s n) b z true s n := by
  obtain ⟨h0, h1, h2, h3, f1, f2, f3⟩ := h
  unfold Sampling.put
  refine ⟨coff (coff (coff h0 (by decide)) (by decide)) (by decide), coff (coff (csame h1) (by decide)) (by decide), coff (csame (coff h2 (by decide))) (by decide), csame (coff (coff h3 (by decide)) (by decide)), ?_, ?_, ?_⟩ <;> simpa
theorem Port.far {w : World} {b c : Nat} {z : Int} {t : Bool} {s0 : ByteArray} {f0 : Int} (h : Port w b z t s0 f0) (s : ByteArray) (n : Int) (hn : c ≠ b) : Port (Sampling.put w c s n) b z t s0 f0 := by
  obtain ⟨h0, h1, h2, h3, f1, f2, f3⟩ := h
  unfold Sampling.put
  refine ⟨cfar (cfar (cfar h0 hn) hn) hn, cfar (cfar (cfar h1 hn) hn) hn, cfar (cfar (cfar h2 hn) hn) hn, cfar (cfar (cfar h3 hn) hn) hn, ?_, ?_, ?_⟩ <;> simpa
theorem put_below {B : Nat} {w w' : World} {b : Nat} {s : ByteArray} {n : Int} (h : Below B w w') (hb : B ≤ b) : Below B w (put w' b s n) :=
  ((h.setCell hb _).setCell hb _).setCell hb _
theorem put_size (w : World) (b : Nat) (s : ByteArray) (n : Int) : (put w b s n).heap.size = w.heap.size := by unfold put; simp

theorem write (s : ByteArray) (n z : Int) (b : Nat) (t0 : Bool) (s0 : ByteArray) (f0 : Int) (w : World) (hp : Port w b z t0 s0 f0) (h : (s.size : Int) ≤ z) :
    Calls Try.prog 20 #[.pointer (some ⟨b, 0, none⟩), .string s, .int .u64 n] w fun e w' => e = .returned (.int .i64 0) ∧ w' = put w b s n := write_ok s n z b t0 s0 f0 w hp h
theorem awake (w : World) : Calls Try.prog 15 #[] w fun e w' => e = .returned (.bool true) ∧ Below w.heap.size w w' := by
  have p0 := Port.new w (mx 2)
  go_enter Try.func15, Try.ntmps15
  go_wp2_with fail
  refine (new 2 _).mono ?_
  rintro e w' ⟨rfl, rfl⟩
  go_wp2_with fail
  refine (write_long _ 1 (mx 2) _ _ p0.1 (by decide)).mono ?_
  rintro e w' ⟨rfl, rfl⟩
  go_wp2_with fail
  refine (write _ 1 (mx 2) _ _ _ _ _ p0 (by decide)).mono ?_
  rintro e w' ⟨rfl, rfl⟩
  have p1 := p0.put ⟨#[97, 98]⟩ 1
  go_wp2_with fail
  refine (read_last 4 (mx 2) 1 _ _ _ p1 (by decide) (by decide)).mono ?_
  rintro e w' ⟨rfl, rfl⟩
  go_wp2
  go_ret
  exact ⟨rfl, (put_below ((Below.refl _ _).alloc (Nat.le_refl _) _) (Nat.le_refl _)).drew⟩
end Go.Proofs.Ytkijeknopnjamaa.Sampling
