import Derived.Test.YtimalojaiaofkaaSqRingNone7
set_option linter.unusedVariables false
set_option linter.unusedSimpArgs false
namespace Go.Proofs.Ytimalojaiaofkaa.Rng
open Go.RowKit Base Sp Flat Go.Proofs.YtimalojaiaofkaaW.PrintWords Go.Shelf Smp His
set_option maxRecDepth 20000 in
theorem read_nil (n : Int) (w : World) : Calls Try.prog 46 #[.pointer none, .int .i64 n] w fun e w' => e = .returned (.slice none 0 0) ∧ w = w' := by
  go_enter Try.func46, Try.ntmps46
  go_wp2
  go_ret
  exact ⟨rfl, rfl⟩
set_option maxHeartbeats 1000000 in
set_option maxRecDepth 20000 in
theorem read {w : World} {F : Nat → Prop} {b : Nat} {n : Qn} {lost ev : Int} {xs : List Smp} (h : QS w F b n lost ev xs) (hl : xs.length * 80 ≤ 140737488355328) (m : Int) :
    Calls Try.prog 46 #[.pointer (some ⟨b, 0, none⟩), .int .i64 m] w fun e w' => ∃ v', e = .returned v' ∧ Row w' (fun k => w.heap.size ≤ k ∧ k < w'.heap.size) v' (xs.take m.toNat) ∧ Below w.heap.size w w' := by
  obtain ⟨v, h1, h2⟩ := h.at_
  have c3 : w.cell? ⟨b, 3, none⟩ = some v := blk_cell h1 3
  have hlt := Lib.hid h.lt
  obtain ⟨A, c, rfl, hc, _⟩ := h2.slice
  obtain ⟨k, hk⟩ : ∃ k, k = min m.toNat xs.length := ⟨_, rfl⟩
  have hkl : k ≤ xs.length := hk ▸ Nat.min_le_right _ _
  have C : Calls Try.prog 70 #[.slice A k c] w.drew fun e w' => ∃ v', e = .returned v' ∧ Row w' (fun k => w.heap.size ≤ k ∧ k < w'.heap.size) v' (xs.take k) ∧ Below w.heap.size w.drew w' :=
    clone ((h2.cut k hkl).drew) (Nat.le_trans (Nat.mul_le_mul_right _ (by rw [List.length_take]; exact Nat.min_le_right _ _)) hl)
  have b0 : Below w.heap.size w w.drew := below_drew (Below.refl _ _)
  have hte : xs.take m.toNat = xs.take k := by
    rw [hk]
    rcases Nat.le_total m.toNat xs.length with hh | hh
    · rw [Nat.min_eq_left hh]
    · rw [Nat.min_eq_right hh, List.take_of_length_le hh, List.take_length]
  rw [hte]
  obtain ⟨q, hq⟩ : ∃ q, (if (xs.length : Int) < m then (xs.length : Int) else m) = q := ⟨_, rfl⟩
  have hmx : (if 0 < q then q else 0) = (k : Int) := by
    rw [← hq, hk]
    clear C hte h1 h2 h
    split <;> split <;> omega
  have hkc : (0 : Int) ≤ (k : Int) ∧ (k : Int) ≤ (c : Int) := ⟨Int.natCast_nonneg _, Int.ofNat_le.2 (Nat.le_trans hkl hc)⟩
  have Hq := Lib.hid hq
  have Hm := Lib.hid hmx
  have Hc := Lib.hid hkc
  clear h h1 h2 hl hte hk hkl hq hmx hkc hc
  go_enter Try.func46, Try.ntmps46
  go_wp2_with fail
  refine Reg.wp_plan (S := fun w' => w'.cell? ⟨b, 3, none⟩ = some (.slice A xs.length c)) 15 (.fl 0 (.fl 1 (.fl 2 (.fl 3 (.fl 4 (.fl 5 (.fl 6 (.fl 7 (.fl 8 (.fl 9 (.fl 10 (.fl 11 (.fl 12 (.one 13 (.fl 14 .done))))))))))))))) (by kernel_rfl) (by kernel_rfl) (by kernel_rfl) (by kernel_rfl) (fun _ _ _ d _ h => by cases d <;> exact h) ?_ (fun hHeld => ?_)
  · exact c3
  refine Reg.G_on (o := { dst := some 7, op := Op.move (Operand.tmp 0), type := 81, pos := "ring.go:72", after := #[], guard := Option.none }) (v := ?_) (by rfl) ?_ (fun wS hSw => ?_) ?_
  rotate_left
  · kernel_rfl
  · (try dsimp only at hSw); go_simp; (try with_reducible rfl)
  try simp only [Act.put, List.setIfInBounds_toArray, List.set_cons_zero, List.set_cons_succ]
  refine Reg.G_on (o := { dst := some 8, op := Op.nilCheck (Operand.tmp 7), type := 0, pos := "ring.go:72", after := #[{ on := 0, ground := Ground.data }], guard := Option.none }) (v := ?_) (by rfl) ?_ (fun wS hSw => ?_) ?_
  rotate_left
  · kernel_rfl
  · (try dsimp only at hSw); go_simp; (try with_reducible rfl)
  try simp only [Act.put, List.setIfInBounds_toArray, List.set_cons_zero, List.set_cons_succ]
  refine Reg.G_on (o := { dst := some 9, op := Op.fieldAddr 97 (Operand.tmp 8) 3, type := 0, pos := "ring.go:72", after := #[{ on := 1, ground := Ground.data }], guard := Option.none }) (v := ?_) (by rfl) ?_ (fun wS hSw => ?_) ?_
  rotate_left
  · kernel_rfl
  · (try dsimp only at hSw); go_simp; (try with_reducible rfl)
  try simp only [Act.put, List.setIfInBounds_toArray, List.set_cons_zero, List.set_cons_succ]
  refine Reg.G_on (o := { dst := some 10, op := Op.load 56 (Operand.tmp 9), type := 56, pos := "ring.go:72", after := #[{ on := 2, ground := Ground.data }], guard := Option.none }) (v := ?_) (by rfl) ?_ (fun wS hSw => ?_) ?_
  rotate_left
  · kernel_rfl
  · (try dsimp only at hSw); go_simp; (try with_reducible rfl)
  try simp only [Act.put, List.setIfInBounds_toArray, List.set_cons_zero, List.set_cons_succ]
  refine Reg.G_on (o := { dst := some 11, op := Op.move (Operand.tmp 1), type := 3, pos := "ring.go:72", after := #[], guard := Option.none }) (v := ?_) (by rfl) ?_ (fun wS hSw => ?_) ?_
  rotate_left
  · kernel_rfl
  · (try dsimp only at hSw); go_simp; (try with_reducible rfl)
  try simp only [Act.put, List.setIfInBounds_toArray, List.set_cons_zero, List.set_cons_succ]
  refine Reg.G_on (o := { dst := some 12, op := Op.move (Operand.tmp 0), type := 81, pos := "ring.go:72", after := #[], guard := Option.none }) (v := ?_) (by rfl) ?_ (fun wS hSw => ?_) ?_
  rotate_left
  · kernel_rfl
  · (try dsimp only at hSw); go_simp; (try with_reducible rfl)
  try simp only [Act.put, List.setIfInBounds_toArray, List.set_cons_zero, List.set_cons_succ]
  refine Reg.G_on (o := { dst := some 13, op := Op.nilCheck (Operand.tmp 12), type := 0, pos := "ring.go:72", after := #[{ on := 5, ground := Ground.data }], guard := Option.none }) (v := ?_) (by rfl) ?_ (fun wS hSw => ?_) ?_
  rotate_left
  · kernel_rfl
  · (try dsimp only at hSw); go_simp; (try with_reducible rfl)
  try simp only [Act.put, List.setIfInBounds_toArray, List.set_cons_zero, List.set_cons_succ]
  refine Reg.G_on (o := { dst := some 14, op := Op.fieldAddr 97 (Operand.tmp 13) 3, type := 0, pos := "ring.go:72", after := #[{ on := 6, ground := Ground.data }], guard := Option.none }) (v := ?_) (by rfl) ?_ (fun wS hSw => ?_) ?_
  rotate_left
  · kernel_rfl
  · (try dsimp only at hSw); go_simp; (try with_reducible rfl)
  try simp only [Act.put, List.setIfInBounds_toArray, List.set_cons_zero, List.set_cons_succ]
  refine Reg.G_on (o := { dst := some 15, op := Op.load 56 (Operand.tmp 14), type := 56, pos := "ring.go:72", after := #[{ on := 7, ground := Ground.data }], guard := Option.none }) (v := ?_) (by rfl) ?_ (fun wS hSw => ?_) ?_
  rotate_left
  · kernel_rfl
  · (try dsimp only at hSw); go_simp; (try with_reducible rfl)
  try simp only [Act.put, List.setIfInBounds_toArray, List.set_cons_zero, List.set_cons_succ]
  refine Reg.G_on (o := { dst := some 16, op := Op.call { callee := Callee.builtin Builtin.len, args := #[Operand.tmp 15], argTypes := #[56] }, type := 3, pos := "ring.go:72", after := #[{ on := 8, ground := Ground.data }], guard := Option.none }) (v := ?_) (by rfl) ?_ (fun wS hSw => ?_) ?_
  rotate_left
  · kernel_rfl
  · (try dsimp only at hSw); go_simp; (try with_reducible rfl)
  try simp only [Act.put, List.setIfInBounds_toArray, List.set_cons_zero, List.set_cons_succ]
  refine Reg.G_on (o := { dst := some 17, op := Op.call { callee := Callee.builtin Builtin.min, args := #[Operand.tmp 11, Operand.tmp 16], argTypes := #[3, 3] }, type := 3, pos := "ring.go:72", after := #[{ on := 4, ground := Ground.data }, { on := 9, ground := Ground.data }], guard := Option.none }) (v := .int .i64 q) (by rfl) ?_ (fun wS hSw => ?_) ?_
  · kernel_rfl
  · (go_simp; rw [Hq.out])
  try simp only [Act.put, List.setIfInBounds_toArray, List.set_cons_zero, List.set_cons_succ]
  refine Reg.G_on (o := { dst := some 18, op := Op.call { callee := Callee.builtin Builtin.max, args := #[Operand.const (Value.int IntKind.i64 0), Operand.tmp 17], argTypes := #[3, 3] }, type := 3, pos := "ring.go:72", after := #[{ on := 10, ground := Ground.data }], guard := Option.none }) (v := .int .i64 (k : Int)) (by rfl) ?_ (fun wS hSw => ?_) ?_
  · kernel_rfl
  · (go_simp; rw [Hm.out])
  try simp only [Act.put, List.setIfInBounds_toArray, List.set_cons_zero, List.set_cons_succ]
  refine Reg.G_on (o := { dst := some 19, op := Op.slice 56 (Operand.tmp 10) Option.none (some (Operand.tmp 18)) Option.none, type := 56, pos := "ring.go:72", after := #[{ on := 3, ground := Ground.data }, { on := 11, ground := Ground.data }], guard := Option.none }) (v := .slice A k c) (by rfl) ?_ (fun wS hSw => ?_) ?_
  · kernel_rfl
  · (go_simp; intro hh; exact absurd hh (Nat.not_lt.2 (Int.ofNat_le.1 Hc.out.2)))
  try simp only [Act.put, List.setIfInBounds_toArray, List.set_cons_zero, List.set_cons_succ]
  refine Reg.G_step (o := { dst := some 20, op := Op.call { callee := Callee.value (Operand.func 70), args := #[Operand.tmp 19], argTypes := #[56] }, type := 56, pos := "ring.go:72", after := #[{ on := 12, ground := Ground.data }], guard := Option.none }) (by rfl) ?_ (fun K hK => ?_)
  · kernel_rfl
  go_simp
  refine (C).mono ?_
  rintro e w' ⟨v', rfl, hr, hb⟩
  refine hK.out _ _ ?_ (fun hHeld => ?_)
  · exact cbel hb (w := w.drew) c3 hlt.out
  clear hK K
  try simp only [Act.put, List.setIfInBounds_toArray, List.set_cons_zero, List.set_cons_succ]
  refine Reg.G_on (o := { dst := some 4, op := Op.assign (Operand.tmp 20), type := 56, pos := "ring.go:72", after := #[{ on := 13, ground := Ground.data }, { on := 13, ground := Ground.chain }, { on := 0, ground := Ground.phase }, { on := 1, ground := Ground.phase }, { on := 2, ground := Ground.phase }, { on := 3, ground := Ground.phase }, { on := 4, ground := Ground.phase }, { on := 5, ground := Ground.phase }, { on := 6, ground := Ground.phase }, { on := 7, ground := Ground.phase }, { on := 8, ground := Ground.phase }, { on := 9, ground := Ground.phase }, { on := 10, ground := Ground.phase }, { on := 11, ground := Ground.phase }, { on := 12, ground := Ground.phase }, { on := 13, ground := Ground.phase }], guard := Option.none }) (v := ?_) (by rfl) ?_ (fun wS hSw => ?_) ?_
  rotate_left
  · kernel_rfl
  · (try dsimp only at hSw); go_simp; (try with_reducible rfl)
  try simp only [Act.put, List.setIfInBounds_toArray, List.set_cons_zero, List.set_cons_succ]
  refine Reg.G_done ?_
  clear hHeld
  go_wp2
  go_ret
  exact ⟨v', rfl, hr, bstep b0 hb⟩
set_option maxRecDepth 20000 in
theorem take_nil (n : Int) (w : World) : Calls Try.prog 47 #[.pointer none, .int .i64 n] w fun e w' => e = .returned (.slice none 0 0) ∧ w = w' := by
  go_enter Try.func47, Try.ntmps47
  go_wp2
  go_ret
  exact ⟨rfl, rfl⟩
set_option maxHeartbeats 1000000 in
set_option maxRecDepth 20000 in
theorem take {w : World} {F : Nat → Prop} {b : Nat} {n : Qn} {lost ev : Int} {xs : List Smp} (h : QS w F b n lost ev xs) (hl : xs.length * 80 ≤ 140737488355328) (m : Int) :
    Calls Try.prog 47 #[.pointer (some ⟨b, 0, none⟩), .int .i64 m] w fun e w' => ∃ v', e = .returned v' ∧ Row w' (fun k => w.heap.size ≤ k ∧ k < w'.heap.size) v' (xs.take m.toNat) ∧ QS w' F b n lost ev (xs.drop m.toNat) ∧ Mod (HM F b) w w' := by
  have C1 := read h hl m
  by_cases h0 : (xs.take m.toNat).length = 0
  · have hd : xs.drop m.toNat = xs := by
      have h2 := List.take_append_drop m.toNat xs
      rw [List.length_eq_zero_iff.1 h0, List.nil_append] at h2
      exact h2
    rw [hd]
    have HQ := Lib.hid h
    generalize hz : xs.take m.toNat = zs at *
    clear h hl
    go_enter Try.func47, Try.ntmps47
    go_wp2_with fail
    refine C1.mono ?_
    rintro e w1 ⟨v1, rfl, r1, b1⟩
    have HR := Lib.hid (And.intro r1 b1)
    obtain ⟨A1, c1, rfl, _, _⟩ := r1.slice
    rw [h0] at *
    clear C1 r1 b1
    go_wp2
    go_ret
    exact ⟨_, rfl, HR.out.1, HQ.out.below HR.out.2, Mod.of HR.out.2⟩
  · have h1 : 0 < (xs.take m.toNat).length := Nat.pos_of_ne_zero h0
    have hle : (xs.take m.toNat).length ≤ xs.length := by rw [List.length_take]; exact Nat.min_le_right _ _
    have hdr : xs.drop (xs.take m.toNat).length = xs.drop m.toNat := by
      rw [List.length_take]
      rcases Nat.le_total m.toNat xs.length with hh | hh
      · rw [Nat.min_eq_left hh]
      · rw [Nat.min_eq_right hh, List.drop_of_length_le hh, List.drop_of_length_le (Nat.le_refl _)]
    obtain ⟨v0, k0, q0⟩ := h.at_
    have HK := Lib.hid k0
    have HQ := Lib.hid h
    have c3 : w.cell? ⟨b, 3, none⟩ = some v0 := blk_cell k0 3
    obtain ⟨A0, c0, rfl, _, _⟩ := q0.slice
    have CD := Lib.hid (fun (w2 : World) (b2 : Below w.heap.size w w2) => (show Calls Try.prog 79 #[.slice A0 xs.length c0, .int .i64 0, .int .i64 ((xs.take m.toNat).length : Int)] w2 fun e w' => ∃ v', e = .returned v' ∧ Row w' F v' ([] ++ xs.drop (xs.take m.toNat).length) ∧ Mod F w2 w' from delete_ (i := 0) (q0.below b2) h1 hle))
    rw [hdr, List.nil_append] at CD
    have HP := Lib.hid h1
    generalize hz : xs.take m.toNat = zs at *
    generalize hz2 : xs.drop m.toNat = ys at *
    have h1i : (0 : Int) < (zs.length : Int) := Int.ofNat_lt.2 h1
    clear h hl q0 k0 h0 h1 hle hdr hz hz2
    go_enter Try.func47, Try.ntmps47
    go_wp2_with fail
    refine C1.mono ?_
    rintro e w1 ⟨v1, rfl, r1, b1⟩
    have HR := Lib.hid (And.intro r1 b1)
    have C2 := CD.out w1 b1
    obtain ⟨A1, c1, rfl, _, _⟩ := r1.slice
    have y3 := cbel b1 c3 HQ.out.lt
    clear C1 r1 b1 CD c3
    go_wp2_with fail
    refine C2.mono ?_
    rintro e w4 ⟨v4, rfl, r4, m4⟩
    have H1 := blk_below HK.out HR.out.2
    have H4 := (m4.block b (blk_lt H1) HQ.out.off).trans H1
    have z3 := blk_frozen H4 3
    have y4 : w4.cell? ⟨b, 3, none⟩ = some (.slice A0 xs.length c0) := blk_cell H4 3
    have hS := (HQ.out.below HR.out.2).store r4 HQ.out.off (fun k hk => Nat.lt_of_lt_of_le (HQ.out.old k hk) (Nat.le_trans HR.out.2.size m4.size)) m4
    have HX := Lib.hid (And.intro hS (And.intro m4 (And.intro HR.out.1 HR.out.2)))
    obtain ⟨A4, c4, rfl, _, _⟩ := r4.slice
    clear C2 r4 m4 hS H1 H4 y3
    go_wp2
    go_ret
    have hR := HX.out.2.2.1
    have hB := HX.out.2.2.2
    refine ⟨_, rfl, ?_, HX.out.1.1, (Mod.of (F := HM F b) hB).trans HX.out.1.2 (fun _ h => .inl h)⟩
    have hsz := HX.out.1.2.size
    refine (hR.same (w' := w4.setCell ⟨b, 3, none⟩ (.slice A4 ys.length c4)) (fun k hk => ?_)).mono (fun k hk => ⟨hk.1, Nat.lt_of_lt_of_le hk.2 hsz⟩)
    exact HX.out.1.2.block k hk.2 (fun hh => hh.elim (fun e => absurd (e ▸ HQ.out.lt) (Nat.not_lt.2 hk.1)) (fun hf => absurd (HQ.out.old k hf) (Nat.not_lt.2 hk.1)))
set_option maxRecDepth 20000 in
theorem clear_nil (w : World) : Calls Try.prog 52 #[.pointer none] w fun e w' => e = .returned (.tuple #[]) ∧ w = w' := by
  go_enter Try.func52, Try.ntmps52
  go_wp2
  go_end0
  exact ⟨rfl, rfl⟩
set_option maxRecDepth 20000 in
theorem clear {w : World} {F : Nat → Prop} {b : Nat} {n : Qn} {lost ev : Int} {xs : List Smp} (h : QS w F b n lost ev xs) :
    Calls Try.prog 52 #[.pointer (some ⟨b, 0, none⟩)] w fun e w' => e = .returned (.tuple #[]) ∧ QS w' F b n lost ev [] ∧ Mod (HM F b) w w' := by
  obtain ⟨v0, k0, q0⟩ := h.at_
  have y3 : w.cell? ⟨b, 3, none⟩ = some v0 := blk_cell k0 3
  have z3 := blk_frozen k0 3
  have HX := Lib.hid (h.store (Row.nil w F) h.off h.old (Mod.refl F w))
  obtain ⟨A0, c0, rfl, _, _⟩ := q0.slice
  clear h k0 q0
  go_enter Try.func52, Try.ntmps52
  go_wp2
  go_end0
  exact ⟨rfl, HX.out.1, HX.out.2⟩
end Go.Proofs.Ytimalojaiaofkaa.Rng
namespace Go.Proofs.Ytimalojaiaofkaa.Rng
open Go.RowKit Base Sp Flat Go.Proofs.YtimalojaiaofkaaW.PrintWords Go.Shelf Smp His
def expm (now f : Int) (xs : List Smp) : List Smp := if f ≤ 0 then xs else xs.filter (fun x => !oldr now f x)
set_option maxRecDepth 20000 in
theorem expire_nil (now f : Int) (w : World) : Calls Try.prog 51 #[.pointer none, .int .u64 now, .int .i64 f] w fun e w' => e = .returned (.tuple #[]) ∧ Below w.heap.size w w' := by
  have b1 : Below w.heap.size w (w.alloc (.cells #[.int .u64 now] 58 (0, 0))) := (Below.refl _ _).alloc (Nat.le_refl _) _
  have b2 : Below w.heap.size w ((w.alloc (.cells #[.int .u64 now] 58 (0, 0))).alloc (.cells #[.int .i64 f] 3 (0, 0))) := b1.alloc b1.size _
  go_enter Try.func51, Try.ntmps51
  go_wp2
  refine bodyPost_ret (results_none rfl _ _ _) rfl ?_
  exact ⟨rfl, b2⟩
set_option maxHeartbeats 1000000 in
set_option maxRecDepth 20000 in
theorem expire {w : World} {F : Nat → Prop} {b : Nat} {n : Qn} {lost ev : Int} {xs : List Smp} (h : QS w F b n lost ev xs) (hl : xs.length * 80 ≤ 140737488355328) (now f : Int) (hn : now < 18446744073709551616) (f0 : -9223372036854775808 ≤ f) (f1 : f < 9223372036854775808) :
    Calls Try.prog 51 #[.pointer (some ⟨b, 0, none⟩), .int .u64 now, .int .i64 f] w fun e w' => e = .returned (.tuple #[]) ∧ ∃ F', QS w' F' b n lost ev (expm now f xs) ∧ Grow F F' w ∧ Mod (HM F b) w w' := by
  have b1 : Below w.heap.size w (w.alloc (.cells #[.int .u64 now] 58 (0, 0))) := (Below.refl _ _).alloc (Nat.le_refl _) _
  have b2 : Below w.heap.size w ((w.alloc (.cells #[.int .u64 now] 58 (0, 0))).alloc (.cells #[.int .i64 f] 3 (0, 0))) := b1.alloc b1.size _
  have HB := Lib.hid b2
  have HQ := Lib.hid (h.below b2)
  unfold expm
  by_cases hf : f ≤ 0
  · rw [if_pos hf]
    have M := Lib.hid (Mod.of (F := HM F b) b2)
    clear h hl b1 b2 hn f0 f1
    go_enter Try.func51, Try.ntmps51
    go_wp2
    refine bodyPost_ret (results_none rfl _ _ _) rfl ?_
    exact ⟨rfl, F, HQ.out, fun k hk => .inl hk, M.out⟩
  · rw [if_neg hf]
    have hmf : ∀ (fn : Fn) (first cap : Array Value) (w : World), (Instr.makeFunc fn first cap).run Try.prog w = .ok (.func fn first cap) w := fun _ _ _ _ => rfl
    have n1 : ((w.alloc (.cells #[.int .u64 now] 58 (0, 0))).alloc (.cells #[.int .i64 f] 3 (0, 0))).heap[w.heap.size]? = some (.cells #[.int .u64 now] 58 (0, 0)) := blk_alloc (heap_alloc_new w _) _
    have n2 : ((w.alloc (.cells #[.int .u64 now] 58 (0, 0))).alloc (.cells #[.int .i64 f] 3 (0, 0))).heap[w.heap.size + 1]? = some (.cells #[.int .i64 f] 3 (0, 0)) := by
      have := heap_alloc_new (w.alloc (.cells #[.int .u64 now] 58 (0, 0))) (.cells #[.int .i64 f] 3 (0, 0))
      simpa using this
    have hP := old_pr w.heap.size (w.heap.size + 1) now f _ n1 n2 hn f0 f1
    obtain ⟨v0, k0, q0⟩ := HQ.out.at_
    have HK := Lib.hid k0
    have C1 := parted hP q0 hl
    have c3 := blk_cell k0 3
    have c3' : ((w.alloc (.cells #[.int .u64 now] 58 (0, 0))).alloc (.cells #[.int .i64 f] 3 (0, 0))).cell? ⟨b, 3, none⟩ = some v0 := c3
    obtain ⟨A0, c0, rfl, _, _⟩ := q0.slice
    clear h hl b1 b2 hn f0 f1 n1 n2 hP k0 q0 c3
    have hf1 : 0 < f := by omega
    clear hf
    go_enter Try.func51, Try.ntmps51
    go_wp2_with fail
    refine C1.mono ?_
    rintro e w2 ⟨v1, v2, rfl, r1, r2, b3⟩
    have H3 := blk_below HK.out b3
    have z3 := blk_frozen H3 3
    have y3 : w2.cell? ⟨b, 3, none⟩ = some (.slice A0 xs.length c0) := blk_cell H3 3
    have hS := HQ.out.store r2 (fun hh => absurd HQ.out.lt (Nat.not_lt.2 hh.1)) (fun k hk => hk.2) (Mod.of b3)
    have HX := Lib.hid hS
    obtain ⟨A1, c1, rfl, _, _⟩ := r1.slice
    obtain ⟨A2, c2, rfl, _, _⟩ := r2.slice
    clear C1 r1 r2 b3 H3 hS c3'
    go_wp2
    go_end0
    refine ⟨rfl, _, HX.out.1, fun k hk => .inr (Nat.le_trans HB.out.size hk.1), (Mod.of (F := HM F b) HB.out).trans HX.out.2 (fun _ h => .inl h)⟩
end Go.Proofs.Ytimalojaiaofkaa.Rng
namespace Go.Proofs.Ytimalojaiaofkaa.His
open Go.RowKit Base Sp Flat Go.Proofs.YtimalojaiaofkaaW.PrintWords Go.Shelf Smp
set_option maxRecDepth 20000 in
theorem exp_nil (now f : Int) (w : World) : Calls Try.prog 42 #[.pointer none, .int .u64 now, .int .i64 f] w fun e w' => e = .returned (.tuple #[]) ∧ Below w.heap.size w w' := by
  have bb : Below w.heap.size w ((w.alloc (.cells #[.int .u64 now] 58)).alloc (.cells #[.int .i64 f] 3)) := ((Below.refl _ _).alloc (Nat.le_refl _) _).alloc (by simp) _
  go_enter Try.func42, Try.ntmps42
  go_wp2
  go_end0
  exact ⟨rfl, bb⟩
set_option maxHeartbeats 1000000 in
set_option maxRecDepth 20000 in
theorem exp {w : World} {F : Nat → Prop} {b : Nat} {d s : Int} {xs : List Smp} (h : HS w F b d s xs) (now f : Int) (hn : now < 18446744073709551616) (f0 : -9223372036854775808 ≤ f) (f1 : f < 9223372036854775808) :
    Calls Try.prog 42 #[.pointer (some ⟨b, 0, none⟩), .int .u64 now, .int .i64 f] w fun e w' => e = .returned (.tuple #[]) ∧ HS w' F b d s (hexp now f xs) ∧ Mod (HM F b) w w' := by
  have hmf : ∀ (fn : Fn) (first cap : Array Value) (w : World), (Instr.makeFunc fn first cap).run Try.prog w = .ok (.func fn first cap) w := fun _ _ _ _ => rfl
  have bb : Below w.heap.size w ((w.alloc (.cells #[.int .u64 now] 58)).alloc (.cells #[.int .i64 f] 3)) := ((Below.refl _ _).alloc (Nat.le_refl _) _).alloc (by simp) _
  have n1 : ((w.alloc (.cells #[.int .u64 now] 58)).alloc (.cells #[.int .i64 f] 3)).heap[w.heap.size]? = some (.cells #[.int .u64 now] 58 (0, 0)) := blk_alloc (heap_alloc_new _ _) _
  have n2 : ((w.alloc (.cells #[.int .u64 now] 58)).alloc (.cells #[.int .i64 f] 3)).heap[w.heap.size + 1]? = some (.cells #[.int .i64 f] 3 (0, 0)) := by
    have := heap_alloc_new (w.alloc (.cells #[.int .u64 now] 58)) (.cells #[.int .i64 f] 3)
    simpa using this
  have c2 : ((w.alloc (.cells #[.int .u64 now] 58)).alloc (.cells #[.int .i64 f] 3)).cell? ⟨w.heap.size + 1, 0, none⟩ = some (.int .i64 f) := blk_cell n2 0
  have M := Lib.hid (Mod.of (F := HM F b) bb)
  unfold hexp
  by_cases hf : 0 < f
  · rw [if_pos hf]
    have C := drop_ (h.below bb) (old_pr w.heap.size (w.heap.size + 1) now f _ n1 n2 hn f0 f1) (fun k hk hF => by have := h.old k hF; rcases hk with rfl | rfl <;> omega)
    clear h n1 n2 bb hn f0 f1
    go_enter Try.func42, Try.ntmps42
    go_wp2_with fail
    refine C.mono ?_
    rintro e w2 ⟨rfl, h2, m2⟩
    go_wp2
    go_end0
    exact ⟨rfl, h2, M.out.trans m2 (fun _ h => .inl h)⟩
  · rw [if_neg hf]
    have H2 := Lib.hid (h.below bb)
    clear h n1 n2 bb hn f0 f1
    go_enter Try.func42, Try.ntmps42
    go_wp2
    go_end0
    exact ⟨rfl, H2.out, M.out⟩
/-- A step. -/
structure Stp where
  ages : Bool
  s : Smp
  now : Int
  life : Int
  good : (Lit.int .u64 now).wf = true ∧ (Lit.int .i64 life).wf = true
def stc (x : Stp) : List Value := [.bool x.ages] ++ (cells x.s ++ [.int .u64 x.now, .int .i64 x.life])
theorem stc_len (x : Stp) : (stc x).length = 26 := by
  unfold stc
  rw [List.length_append, List.length_append, cells_len]
  rfl
theorem stc_one (x : Stp) : ∀ u ∈ stc x, u.oneCell' = true := by
  intro u hu
  unfold stc at hu
  rcases List.mem_append.1 hu with hu | hu
  · rw [List.mem_singleton.1 hu]; rfl
  · rcases List.mem_append.1 hu with hu | hu
    · exact cells_one _ u hu
    · simp at hu
      rcases hu with rfl | rfl <;> rfl
def kst : Kd Stp where
  sz := 26
  E := []
  K := fun _ x cs => cs = stc x
  M := fun _ _ _ x cs => cs = stc x
  K_len := fun h => by rw [h]; exact stc_len _
  K_one := fun h u hu => by rw [h] at hu; exact stc_one _ u hu
  K_below := fun _ h => h
  K_of_M := fun h => h
  M_mono := fun _ h => h
  M_bound := fun h => h
  M_move := fun _ h => h
  M_lower := fun _ h => h
theorem stp_opens : Open.Opens Try.prog 62 kst (fun x => GSmp x.s) := by
  intro H enc w cs h
  have hp : Open.Opens Try.prog 62 (Kd.pair Kd.bool (Kd.pair ks (Kd.pair (Kd.int .u64) (Kd.int .i64)))) (Open.GPair (fun _ => True) (Open.GPair GSmp (Open.GPair (fun n => (Lit.int .u64 n).wf = true) (fun n => (Lit.int .i64 n).wf = true)))) := by
    refine Open.opens_struct Try.underlying62 (by kernel_rfl) ?_
    refine Open.fields_cons (Open.opens_bool Try.underlying4) (by kernel_rfl) ?_
    refine Open.fields_cons opens (by kernel_rfl) ?_
    refine Open.fields_cons (Open.opens_int Try.underlying58) (by kernel_rfl) ?_
    exact Open.fields_last (Open.opens_int Try.underlying3) (by kernel_rfl)
  obtain ⟨⟨a, s, n, f⟩, hK, _, g2, g3, g4⟩ := hp H enc w cs h
  obtain ⟨_, _, rfl, rfl, _, _, rfl, rfl, _, _, rfl, rfl, rfl⟩ := hK
  exact ⟨⟨a, s, n, f, g3, g4⟩, rfl, g2⟩
/-- What a step leaves. -/
def hstep (d s : Int) (xs : List Smp) (x : Stp) : List Smp := if x.ages = true then hexp x.now x.life xs else hput d s xs x.s
theorem hstep_le (d s : Int) (xs : List Smp) (x : Stp) : (hstep d s xs x).length ≤ xs.length + 1 := by
  unfold hstep
  split
  · have := hexp_le x.now x.life xs; omega
  · exact hput_le _ _ _ _
/-- A step's cells in a new block. -/
theorem stp_smp {w : World} {g : Nat} {t : TypeId} {x : Stp} (h : w.heap[g]? = some (.cells (stc x).toArray t (0, 0))) : w.rangeAt g 1 (cells x.s) := fun j u hj => by
  have hj' : j < 23 := by rw [← cells_len x.s]; exact (List.getElem?_eq_some_iff.1 hj).1
  rw [blk_cell h, List.getElem?_toArray]
  unfold stc
  rw [List.getElem?_append_right (by simp), List.getElem?_append_left (by rw [cells_len]; simp; omega)]
  simpa using hj
theorem stp_now {w : World} {g : Nat} {t : TypeId} {x : Stp} (h : w.heap[g]? = some (.cells (stc x).toArray t (0, 0))) : w.cell? ⟨g, 0, none⟩ = some (.bool x.ages) ∧ w.cell? ⟨g, 24, none⟩ = some (.int .u64 x.now) ∧ w.cell? ⟨g, 25, none⟩ = some (.int .i64 x.life) := by
  refine ⟨blk_cell h 0, ?_, ?_⟩
  all_goals
    rw [blk_cell h, List.getElem?_toArray]
    unfold stc
    rw [List.getElem?_append_right (by simp), List.getElem?_append_right (by rw [cells_len]; simp), cells_len]
    rfl
set_option maxHeartbeats 1000000 in
set_option maxRecDepth 20000 in
theorem do_ {w : World} {F : Nat → Prop} {b : Nat} {d s : Int} {xs : List Smp} (h : HS w F b d s xs) (x : Stp) (hlen : (xs.length + 1) * 80 ≤ 140737488355328) :
    Calls Try.prog 31 #[.pointer (some ⟨b, 0, none⟩), .agg (stc x).toArray] w fun e w' => e = .returned (.tuple #[]) ∧ ∃ F', HS w' F' b d s (hstep d s xs x) ∧ Grow F F' w ∧ Mod (HM F b) w w' := by
  have b1 : Below w.heap.size w (w.alloc (.cells (stc x).toArray 62)) := (Below.refl _ _).alloc (Nat.le_refl _) _
  have n1 := heap_alloc_new w (.cells (stc x).toArray 62)
  obtain ⟨c0, c24, c25⟩ := stp_now n1
  have r1 := stp_smp n1
  have M := Lib.hid (Mod.of (F := HM F b) b1)
  have hsz : w.heap.size ≤ (w.alloc (.cells (stc x).toArray 62)).heap.size := by simp
  have HSZ := Lib.hid hsz
  unfold hstep
  generalize stc x = L at c0 c24 c25 r1 b1 n1 M hsz HSZ ⊢
  obtain ⟨ages, sm, now, life, hg1, hg2⟩ := x
  dsimp only at c0 c24 c25 r1 ⊢
  cases ages with
  | true =>
    have C := exp (h.below b1) now life (wf_u64 hg1).2 (wf_i64 hg2).1 (wf_i64 hg2).2
    rw [if_pos rfl]
    clear h b1 n1 r1 hsz hg1 hg2
    go_enter Try.func31, Try.ntmps31
    go_wp2_with fail
    refine C.mono ?_
    rintro e w2 ⟨rfl, h2, m2⟩
    go_wp2
    go_end0
    exact ⟨rfl, F, h2, Grow.refl _ _, M.out.trans m2 (fun _ h => .inl h)⟩
  | false =>
    have C := put (h.below b1) sm hlen
    rw [if_neg (by decide)]
    clear h b1 n1 hsz hg1 hg2
    go_enter Try.func31, Try.ntmps31
    go_wp2_with (first | ((with_reducible refine gate_dst (N := 14) rfl ?_); refine wpList_load_mid rfl 60 (.tmp 13) rfl w.heap.size 1 rfl (cells sm) _ r1 Try.underlying60 rfl (size23 sm) ?_) | fail)
    refine C.mono ?_
    rintro e w2 ⟨rfl, F', h2, g2, m2⟩
    go_wp2
    go_end0
    exact ⟨rfl, F', h2, fun k hk => (g2 k hk).imp id (fun hh => Nat.le_trans HSZ.out hh), M.out.trans m2 (fun _ h => .inl h)⟩
def sq (n : Int) (h : (Lit.int .u64 n).wf = true) : Smp := ⟨1, 0, 0, 0, n, List.replicate 17 0, ⟨#[]⟩, by refine ⟨by decide, by decide, by decide, by decide, h, ⟨rfl, fun k hk => ?_⟩, by decide⟩; rw [List.eq_of_mem_replicate hk]; decide⟩
set_option maxRecDepth 20000 in
set_option maxHeartbeats 1000000 in
theorem awake (w : World) : Calls Try.prog 29 #[] w fun e w' => e = .returned (.bool true) ∧ Below w.heap.size w w' := by
  have C0 := new 1 0 w (by decide) (by decide)
  have e1 := Lib.hid (show hput (mx0 1) (mx0 0) [] (sq 1 (by decide)) = [sq 1 (by decide)] by kernel_rfl)
  have e2 := Lib.hid (show hput (mx0 1) (mx0 0) [sq 1 (by decide)] (sq 2 (by decide)) = [sq 2 (by decide)] by kernel_rfl)
  go_enter Try.func29, Try.ntmps29
  go_wp2_with fail
  refine C0.mono ?_
  rintro e w1 ⟨rfl, h1, b1⟩
  have C1 := put h1 (sq 1 (by decide)) (by decide)
  rw [e1.out] at C1
  go_wp2_with fail
  refine C1.mono ?_
  rintro e w2 ⟨rfl, F2, h2, g2, m2⟩
  have C2 := put h2 (sq 2 (by decide)) (by decide)
  rw [e2.out] at C2
  go_wp2_with fail
  refine C2.mono ?_
  rintro e w3 ⟨rfl, F3, h3, g3, m3⟩
  have C3 := len h3
  have C4 := all h3 (by decide)
  have bb : Hid (Below w.heap.size w w3) := Lib.hid (m3.below (m2.below b1 b1.size (fun k hk => by rcases hk with rfl | hk; exact Nat.le_refl _; exact hk.elim)) (Nat.le_trans b1.size m2.size) (fun k hk => by
    rcases hk with rfl | hk
    · exact Nat.le_refl _
    · rcases g2 k hk with hk | hk
      · exact hk.elim
      · exact Nat.le_trans b1.size hk))
  clear C0 C1 C2 h1 h2 h3 m2 m3 g2 g3 b1
  go_wp2_with fail
  refine C3.mono ?_
  rintro e w4 ⟨rfl, rfl⟩
  go_wp2_with fail
  refine C4.mono ?_
  rintro e w5 ⟨v, rfl, hR, b5⟩
  obtain ⟨A, c, rfl, hle, hA⟩ := hR.slice
  clear hle hA
  obtain ⟨g, rfl⟩ := Row.addr hR (i := 0) (by decide)
  have c4 : w5.cell? ⟨g, 4, none⟩ = some (.int .u64 2) := hR.range (i := 0) (by decide) 4 _ rfl
  rw [show ([sq 2 (by decide)] : List Smp).length = 1 from rfl]
  clear hR C3 C4 e1 e2
  go_wp2
  go_ret
  exact ⟨rfl, bstep bb.out b5⟩
end Go.Proofs.Ytimalojaiaofkaa.His
namespace Go.Proofs.Ytimalojaiaofkaa.Rng
open Go.RowKit Base Sp Flat Go.Proofs.YtimalojaiaofkaaW.PrintWords Go.Shelf Smp His
/-- Two queues are apart. -/
def Ap (F : Nat → Prop) (b : Nat) (G : Nat → Prop) (c : Nat) : Prop := (∀ k, F k → ¬ G k) ∧ ¬ F c ∧ ¬ G b ∧ b ≠ c
theorem Ap.symm {F G : Nat → Prop} {b c : Nat} (h : Ap F b G c) : Ap G c F b := ⟨fun k hg hf => h.1 k hf hg, h.2.2.1, h.2.1, fun e => h.2.2.2 e.symm⟩
theorem QS.beside {w w' : World} {F F' G : Nat → Prop} {b c : Nat} {n : Qn} {lost ev : Int} {xs : List Smp} (r : QS w G c n lost ev xs) (d : Ap F b G c) (m : Mod (HM F b) w w') (g : Grow F F' w) : QS w' G c n lost ev xs ∧ Ap F' b G c := by
  refine ⟨r.same m (fun k hk => hk.elim (fun e => ⟨e ▸ d.2.2.1, e ▸ d.2.2.2⟩) (fun hf => ⟨d.1 k hf, fun e => d.2.1 (e ▸ hf)⟩)), fun k hk hg => ?_, fun hc => ?_, d.2.2.1, d.2.2.2⟩
  · exact (g k hk).elim (fun hf => d.1 k hf hg) (fun h => absurd (r.old k hg) (Nat.not_lt.2 h))
  · exact (g c hc).elim (fun hf => d.2.1 hf) (fun h => absurd r.lt (Nat.not_lt.2 h))
/-- All of a queue is new. -/
def Fr (B : Nat) (F : Nat → Prop) (b : Nat) : Prop := B ≤ b ∧ ∀ k, F k → B ≤ k
theorem Fr.step {B : Nat} {w0 w w' : World} {F F' : Nat → Prop} {b : Nat} (f : Fr B F b) (hb : Below B w0 w) (hB : B ≤ w.heap.size) (m : Mod (HM F b) w w') (g : Grow F F' w) : Fr B F' b ∧ Below B w0 w' ∧ B ≤ w'.heap.size :=
  ⟨⟨f.1, fun k hk => (g k hk).elim (f.2 k) (Nat.le_trans hB)⟩, m.below hb hB (fun k hk => hk.elim (fun e => e ▸ f.1) (f.2 k)), Nat.le_trans hB m.size⟩
theorem pushm_0 (x : Smp) : pushm ⟨0, 0, false⟩ [] 0 0 x = ([], 1, 0) := by
  have : evm 0 [] 0 x = ([], 0) := if_neg (fun h => absurd h.2.1 (by decide))
  unfold pushm
  dsimp only
  rw [this]
  rfl
def sz (n : Int) (h : (Lit.int .u64 n).wf = true) : Smp := ⟨0, 0, 0, 0, n, List.replicate 17 0, ⟨#[]⟩, by refine ⟨by decide, by decide, by decide, by decide, h, ⟨rfl, fun k hk => ?_⟩, by decide⟩; rw [List.eq_of_mem_replicate hk]; decide⟩
set_option maxHeartbeats 4000000 in
set_option maxRecDepth 20000 in
theorem awake (w : World) : Calls Try.prog 43 #[] w fun e w' => e = .returned (.bool true) ∧ Below w.heap.size w w' := by
  have C0 := new 1 0 0 w (by decide) (by decide)
  have e1 := Lib.hid (show pushm ⟨mx0 1, mx0 0, (0 : Int) != 0⟩ [] 0 0 (sz 1 (by decide)) = ([sz 1 (by decide)], 0, 0) by kernel_rfl)
  have e2 := Lib.hid (show pushm ⟨mx0 1, mx0 0, (0 : Int) != 0⟩ [sz 1 (by decide)] 0 0 (sz 2 (by decide)) = ([sz 2 (by decide)], 1, 0) by kernel_rfl)
  have e3 := Lib.hid (show pushm ⟨mx0 1, mx0 0, (1 : Int) != 0⟩ [] 0 0 (sz 1 (by decide)) = ([sz 1 (by decide)], 0, 0) by kernel_rfl)
  have e4 := Lib.hid (show pushm ⟨mx0 1, mx0 0, (1 : Int) != 0⟩ [sz 1 (by decide)] 0 0 (sz 2 (by decide)) = ([sz 1 (by decide)], 1, 0) by kernel_rfl)
  go_enter Try.func43, Try.ntmps43
  go_wp2_with fail
  refine C0.mono ?_
  rintro e w1 ⟨rfl, q1, b1⟩
  have f1 : Fr w.heap.size (fun _ => False) w.heap.size := ⟨Nat.le_refl _, fun k h => h.elim⟩
  have C1 := new 1 0 1 w1 (by decide) (by decide)
  clear C0
  go_wp2_with fail
  refine C1.mono ?_
  rintro e w2 ⟨rfl, r2, b2⟩
  have q2 := q1.below b2
  have d2 : Ap (fun _ => False) w.heap.size (fun _ => False) w1.heap.size := ⟨fun k h => h.elim, fun h => h, fun h => h, Nat.ne_of_lt q1.lt⟩
  have g2 : Fr w.heap.size (fun _ => False) w1.heap.size := ⟨b1.size, fun k h => h.elim⟩
  have B2 := bstep b1 b2
  have z2 : w.heap.size ≤ w2.heap.size := B2.size
  have C2 := push q2 (sz 1 (by decide)) (by decide) (by decide) (by decide)
  rw [e1.out] at C2
  dsimp only at C2
  have HX := Lib.hid (And.intro r2 (And.intro d2 (And.intro g2 (And.intro B2 (And.intro z2 f1)))))
  generalize w1.heap.size = c at *
  clear C1 q1 q2 b1 b2 r2 d2 g2 B2 z2 f1 e1
  go_wp2_with fail
  refine C2.mono ?_
  rintro e w3 ⟨rfl, F3, q3, g3, m3⟩
  obtain ⟨r2, d2, k2, B2, z2, f1⟩ := HX.out
  obtain ⟨r3, d3⟩ := r2.beside d2 m3 g3
  obtain ⟨f3, B3, z3⟩ := f1.step B2 z2 m3 g3
  have C3 := push q3 (sz 2 (by decide)) (by decide) (by decide) (by decide)
  rw [e2.out] at C3
  dsimp only at C3
  have HX3 := Lib.hid (And.intro r3 (And.intro d3 (And.intro k2 (And.intro B3 (And.intro z3 f3)))))
  clear C2 HX q3 g3 m3 r2 d2 k2 B2 z2 f1 r3 d3 B3 z3 f3 e2
  go_wp2_with fail
  refine C3.mono ?_
  rintro e w4 ⟨rfl, F4, q4, g4, m4⟩
  obtain ⟨r3, d3, k2, B3, z3, f3⟩ := HX3.out
  obtain ⟨r4, d4⟩ := r3.beside d3 m4 g4
  obtain ⟨f4, B4, z4⟩ := f3.step B3 z3 m4 g4
  have C4 := push r4 (sz 1 (by decide)) (by decide) (by decide) (by decide)
  rw [e3.out] at C4
  dsimp only at C4
  have HX4 := Lib.hid (And.intro q4 (And.intro d4 (And.intro k2 (And.intro B4 (And.intro z4 f4)))))
  clear C3 HX3 q4 g4 m4 r3 d3 k2 B3 z3 f3 r4 d4 B4 z4 f4 e3
  go_wp2_with fail
  refine C4.mono ?_
  rintro e w5 ⟨rfl, F5, r5, g5, m5⟩
  obtain ⟨q4, d4, k2, B4, z4, f4⟩ := HX4.out
  obtain ⟨q5, d5⟩ := q4.beside d4.symm m5 g5
  obtain ⟨f5, B5, z5⟩ := k2.step B4 z4 m5 g5
  have C5 := push r5 (sz 2 (by decide)) (by decide) (by decide) (by decide)
  rw [e4.out] at C5
  dsimp only at C5
  have HX5 := Lib.hid (And.intro q5 (And.intro d5 (And.intro f5 (And.intro B5 (And.intro z5 f4)))))
  clear C4 HX4 r5 g5 m5 q4 d4 k2 B4 z4 f4 q5 d5 B5 z5 f5 e4
  go_wp2_with fail
  refine C5.mono ?_
  rintro e w6 ⟨rfl, F6, r6, g6, m6⟩
  generalize (Value.agg #[.int .i64 0, .int .i64 0, .int .u64 0, .int .u64 0, .int .u64 1, .int .u8 0, .int .u8 0, .int .u8 0, .int .u8 0, .int .u8 0, .int .u8 0, .int .u8 0, .int .u8 0, .int .u8 0, .int .u8 0, .int .u8 0, .int .u8 0, .int .u8 0, .int .u8 0, .int .u8 0, .int .u8 0, .int .u8 0, .string ⟨#[]⟩]) = s1
  generalize (Value.agg #[.int .i64 0, .int .i64 0, .int .u64 0, .int .u64 0, .int .u64 2, .int .u8 0, .int .u8 0, .int .u8 0, .int .u8 0, .int .u8 0, .int .u8 0, .int .u8 0, .int .u8 0, .int .u8 0, .int .u8 0, .int .u8 0, .int .u8 0, .int .u8 0, .int .u8 0, .int .u8 0, .int .u8 0, .int .u8 0, .string ⟨#[]⟩]) = s2
  obtain ⟨q5, d5, f5, B5, z5, f4⟩ := HX5.out
  obtain ⟨q6, d6⟩ := q5.beside d5 m6 g6
  obtain ⟨f6, B6, z6⟩ := f5.step B5 z5 m6 g6
  have C6 : Calls Try.prog 47 #[.pointer (some ⟨w.heap.size, 0, none⟩), .int .i64 2] w6 _ := take q6 (by decide) 2
  have HX6 := Lib.hid (And.intro r6 (And.intro d6.symm (And.intro f6 (And.intro B6 (And.intro z6 f4)))))
  have hlq := Lib.hid q6.lt
  clear C5 HX5 r6 g6 m6 q5 d5 f5 B5 z5 f4 q6 d6 B6 z6 f6
  go_wp2_with fail
  refine C6.mono ?_
  rintro e w7 ⟨va, rfl, ra, q7, m7⟩
  obtain ⟨r6, d6, f6, B6, z6, f4⟩ := HX6.out
  have g7 : Grow F4 F4 w6 := fun k hk => .inl hk
  obtain ⟨r7, d7⟩ := r6.beside d6 m7 g7
  obtain ⟨f7, B7, z7⟩ := f4.step B6 z6 m7 g7
  have C7 : Calls Try.prog 47 #[.pointer (some ⟨c, 0, none⟩), .int .i64 2] w7 _ := take r7 (by decide) 2
  have rc : c < w6.heap.size := r6.lt
  have hF6 : ∀ k, F6 k → k < w6.heap.size := r6.old
  have HX7 := Lib.hid (And.intro q7 (And.intro d7.symm (And.intro f6 (And.intro B7 (And.intro z7 (And.intro ra (And.intro rc hF6)))))))
  obtain ⟨Aa, ca, rfl, hz1, hz2⟩ := ra.slice
  clear hz1 hz2
  clear C6 HX6 q7 m7 r6 d6 f6 B6 z6 f4 g7 r7 d7 f7 B7 z7 rc hF6
  go_wp2_with fail
  refine C7.mono ?_
  rintro e w8 ⟨vb, rfl, rb, r8, m8⟩
  obtain ⟨q7, d7, f6, B7, z7, ra', rc, hF6⟩ := HX7.out
  have g8 : Grow F6 F6 w7 := fun k hk => .inl hk
  obtain ⟨q8, d8⟩ := q7.beside d7 m8 g8
  obtain ⟨f8, B8, z8⟩ := f6.step B7 z7 m8 g8
  have ra8 := ra'.same (w' := w8) (fun k hk => m8.block k hk.2 (fun hh => hh.elim (fun e => by omega) (fun hf => absurd (hF6 k hf) (Nat.not_lt.2 hk.1))))
  obtain ⟨ga, rfl⟩ := Row.addr ra8 (i := 0) (by decide)
  have ya : w8.cell? ⟨ga, 4, none⟩ = some (.int .u64 2) := ra8.range (i := 0) (by decide) 4 _ rfl
  obtain ⟨Ab, cb, rfl, hz1, hz2⟩ := rb.slice
  clear hz1 hz2
  obtain ⟨gb, rfl⟩ := Row.addr rb (i := 0) (by decide)
  have yb : w8.cell? ⟨gb, 4, none⟩ = some (.int .u64 1) := rb.range (i := 0) (by decide) 4 _ rfl
  obtain ⟨v8, k8, _⟩ := q8.at_
  have y8 : w8.cell? ⟨w.heap.size, 4, none⟩ = some (.int .u64 1) := blk_cell k8 4
  have HB := Lib.hid B8
  rw [show (([sz 2 (by decide)] : List Smp).take (2 : Int).toNat).length = 1 from rfl] at *
  rw [show (([sz 1 (by decide)] : List Smp).take (2 : Int).toNat).length = 1 from rfl] at *
  clear C7 HX7 q7 d7 f6 B7 z7 ra' rc hF6 g8 q8 d8 f8 B8 z8 ra8 rb r8 m8 ra k8
  go_wp2
  go_ret
  exact ⟨rfl, HB.out⟩
end Go.Proofs.Ytimalojaiaofkaa.Rng
namespace Go.Proofs.Ytimalojaiaofkaa.Rng
open Go.RowKit Base Sp Flat Go.Proofs.YtimalojaiaofkaaW.PrintWords Go.Shelf Smp His
set_option maxHeartbeats 4000000 in
set_option maxRecDepth 20000 in
theorem nones (x : Smp) (n now : Int) (w : World) :
    Calls Try.prog 14 #[.agg (cells x).toArray, .int .i64 n, .int .u64 now] w fun e w' => e = .returned (.bool true) ∧ Below w.heap.size w w' := by
  have bb : Below w.heap.size w ((w.alloc (.cells (cells x).toArray 60)).alloc (.cells #[.int .i64 0, .int .i64 0, .bool false, .slice none 0 0, .int .u64 0, .int .u64 0] 97)) := ((Below.refl _ _).alloc (Nat.le_refl _) _).alloc (by simp) _
  have n0 : ((w.alloc (.cells (cells x).toArray 60)).alloc (.cells #[.int .i64 0, .int .i64 0, .bool false, .slice none 0 0, .int .u64 0, .int .u64 0] 97)).heap[w.heap.size]? = some (.cells (cells x).toArray 60 (0, 0)) := blk_alloc (heap_alloc_new _ _) _
  have h0 : QS ((w.alloc (.cells (cells x).toArray 60)).alloc (.cells #[.int .i64 0, .int .i64 0, .bool false, .slice none 0 0, .int .u64 0, .int .u64 0] 97)) (fun _ => False) (w.heap.size + 1) ⟨0, 0, false⟩ 0 0 [] := by
    refine ⟨⟨.slice none 0 0, ?_, Row.nil _ _⟩, fun h => h, fun k h => h.elim, by decide, by decide, by decide, by decide⟩
    have := heap_alloc_new (w.alloc (.cells (cells x).toArray 60)) (.cells #[.int .i64 0, .int .i64 0, .bool false, .slice none 0 0, .int .u64 0, .int .u64 0] 97)
    simpa using this
  have f0 : Fr w.heap.size (fun _ => False) (w.heap.size + 1) := ⟨Nat.le_succ _, fun k h => h.elim⟩
  have r0 := box_range n0
  have hz0 := bb.size
  have H0 := Lib.hid (And.intro n0 (And.intro h0 (And.intro bb (And.intro f0 hz0))))
  generalize hq : w.heap.size + 1 = c at *
  clear n0 h0 bb f0 hz0
  go_enter Try.func14, Try.ntmps14
  go_wp2_with (first | ((with_reducible refine gate_dst (N := 12) rfl ?_); refine wpList_load_mid rfl 60 (.tmp 3) rfl w.heap.size 0 rfl (cells x) _ r0 Try.underlying60 rfl (size23 x) ?_) | fail)
  refine (push_nil x _).mono ?_
  rintro e w1 ⟨rfl, b1⟩
  have H1 := Lib.hid (And.intro (blk_below H0.out.1 b1) (And.intro (H0.out.2.1.below b1) (And.intro (bstep H0.out.2.2.1 b1) (And.intro H0.out.2.2.2.1 (Nat.le_trans H0.out.2.2.2.2 b1.size)))))
  clear b1 r0 H0
  go_wp2_with fail
  refine (expire_nil _ _ _).mono ?_
  rintro e w2 ⟨rfl, b2⟩
  have H2 := Lib.hid (And.intro (blk_below H1.out.1 b2) (And.intro (H1.out.2.1.below b2) (And.intro (bstep H1.out.2.2.1 b2) (And.intro H1.out.2.2.2.1 (Nat.le_trans H1.out.2.2.2.2 b2.size)))))
  clear b2 H1
  have r2 := box_range H2.out.1
  go_wp2_with fail
  refine (clear_nil _).mono ?_
  rintro e w3 ⟨rfl, rfl⟩
  have C3 := push H2.out.2.1 x (by decide) (by decide) (by decide)
  rw [pushm_0] at C3
  dsimp only at C3
  go_wp2_with (first | ((with_reducible refine gate_dst (N := 21) rfl ?_); refine wpList_load_mid rfl 60 (.tmp 3) rfl w.heap.size 0 rfl (cells x) _ r2 Try.underlying60 rfl (size23 x) ?_) | fail)
  refine C3.mono ?_
  rintro e w4 ⟨rfl, F4, q4, g4, m4⟩
  have S4 := H2.out.2.2.2.1.step H2.out.2.2.1 H2.out.2.2.2.2 m4 g4
  have C5 := len q4
  have C6 := lost q4
  have C7 := evicted q4
  have C8 := take q4 (by decide) n
  have H4 := Lib.hid S4
  have he : ((([] : List Smp).length : Nat) : Int) = 0 := rfl
  rw [List.take_nil, List.drop_nil] at C8
  rw [he] at C5
  clear C3 r2 H2 q4 g4 m4 S4 he
  go_wp2_with fail
  refine (len_nil _).mono ?_
  rintro e w5 ⟨rfl, rfl⟩
  go_wp2_with fail
  refine (lost_nil _).mono ?_
  rintro e w5 ⟨rfl, rfl⟩
  go_wp2_with fail
  refine (evicted_nil _).mono ?_
  rintro e w5 ⟨rfl, rfl⟩
  go_wp2_with fail
  refine (read_nil _ _).mono ?_
  rintro e w5 ⟨rfl, rfl⟩
  go_wp2_with fail
  refine (take_nil _ _).mono ?_
  rintro e w5 ⟨rfl, rfl⟩
  go_wp2_with fail
  refine C5.mono ?_
  rintro e w5 ⟨rfl, rfl⟩
  go_wp2_with fail
  refine C6.mono ?_
  rintro e w5 ⟨rfl, rfl⟩
  go_wp2_with fail
  refine C7.mono ?_
  rintro e w5 ⟨rfl, rfl⟩
  go_wp2_with fail
  refine C8.mono ?_
  rintro e w6 ⟨v6, rfl, r6, q6, m6⟩
  have S6 := Lib.hid (H4.out.1.step H4.out.2.1 H4.out.2.2 m6 (fun k hk => .inl hk)).2.1
  obtain ⟨A6, c6, rfl, h61, h62⟩ := r6.slice
  clear h61 h62 r6 q6 m6 C5 C6 C7 C8
  rw [show ([] : List Smp).length = 0 from rfl]
  go_wp2_with fail
  refine (awake _).mono ?_
  rintro e w9 ⟨rfl, b9⟩
  go_wp2
  go_ret
  exact ⟨rfl, bstep S6.out b9⟩
end Go.Proofs.Ytimalojaiaofkaa.Rng
