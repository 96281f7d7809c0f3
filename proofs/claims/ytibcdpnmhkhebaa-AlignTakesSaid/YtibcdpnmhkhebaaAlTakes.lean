import Derived.Test.YtibcdpnmhkhebaaCur2
import Derived.Test.YtibcdpnmhkhebaaAlPuts
set_option linter.unusedVariables false
set_option linter.unusedSimpArgs false
namespace Go.Proofs.Ytibcdpnmhkhebaa.Cur
open Go.RowKit Base Sp Flat Go.Proofs.YtibcdpnmhkhebaaW.PrintWords Go.Proofs.YtibcdpnmhkhebaaW.PrintLast Wd Al Buf Go.Proofs.Ytibcdpnmhkhebaa.PAlignTakes
theorem rtext (b : ByteArray) (a : Nat) (e n : Int) (ha : a ≤ b.size) (hz : b.size ≤ 140737488355328) (hn : n < 9223372036854775808) (w : World) :
    Calls Try.prog 65 #[.string b, .agg #[.int .i64 (a : Int), .int .i64 e], .int .i64 n] w fun e' w' => e' = .returned (.tuple #[.string (ctext b a e n).1, .agg #[.int .i64 (ctext b a e n).2.1, .int .i64 (ctext b a e n).2.2]]) ∧ Below w.heap.size w w' :=
  broadsheetref02_Text.calls b a e n _ _ _ w (rtext_eq b a e n (by omega) (by omega) hn)
theorem rtake2 (b : ByteArray) (a : Nat) (e s : Int) (ha : a ≤ b.size) (hz : b.size ≤ 140737488355328) (w : World) :
    Calls Try.prog 66 #[.string b, .agg #[.int .i64 (a : Int), .int .i64 e], .int .i64 s] w fun e' w' => e' = .returned (.tuple #[.int .u64 (ctake b a e s).1, .agg #[.int .i64 (ctake b a e s).2.1, .int .i64 (ctake b a e s).2.2]]) ∧ Below w.heap.size w w' :=
  broadsheetref02_Take.calls 40 b a e s _ _ _ w (rtake2_eq b a e s (by omega) (by omega))
theorem rdone (b : ByteArray) (a : Nat) (e : Int) (w : World) : Calls Try.prog 67 #[.string b, .agg #[.int .i64 (a : Int), .int .i64 e]] w fun e' w' => e' = .returned (.int .i64 (cdone b a e)) ∧ Below w.heap.size w w' :=
  broadsheetref02_Done.calls b a e _ w (rdone_eq b a e)
theorem ctake_at (b : ByteArray) (a : Nat) (e s : Int) (ha : a ≤ b.size) : ∃ a2 : Nat, (ctake b a e s).2.1 = (a2 : Int) ∧ a2 ≤ b.size := by
  unfold ctake
  by_cases h1 : e ≠ 0
  · rw [if_pos h1]; exact ⟨a, rfl, ha⟩
  · rw [if_neg h1]
    by_cases h2 : sz s = false
    · rw [if_pos h2]; exact ⟨a, rfl, ha⟩
    · rw [if_neg h2]
      by_cases h3 : pad b (gapv a s).toNat a ≠ 0
      · rw [if_pos h3]; exact ⟨a, rfl, ha⟩
      · rw [if_neg h3]
        by_cases h4 : (takev b ((a : Int) + gapv a s) s).2 ≠ 0
        · rw [if_pos h4]; exact ⟨a, rfl, ha⟩
        · rw [if_neg h4]
          have hs : sz s = true := by simpa using h2
          have hc := sz_cases hs
          have hg := gapv_le a s
          have h5 : ¬ ((b.size : Int) < (a : Int) + gapv a s + s) := fun h => h4 ((takev_err b _ s (by omega) (by omega)).2 h)
          exact ⟨((a : Int) + gapv a s + s).toNat, by show (a : Int) + gapv a s + s = _; omega, by omega⟩
theorem ctext_at (b : ByteArray) (a : Nat) (e n : Int) (ha : a ≤ b.size) : ∃ a2 : Nat, (ctext b a e n).2.1 = (a2 : Int) ∧ a2 ≤ b.size := by
  unfold ctext
  by_cases h1 : e = 0
  · rw [if_pos h1]
    by_cases h2 : n < 0
    · rw [if_pos h2]; exact ⟨a, rfl, ha⟩
    · rw [if_neg h2]
      by_cases h3 : (b.size : Int) - a < n
      · rw [if_pos h3]; exact ⟨a, rfl, ha⟩
      · rw [if_neg h3]
        exact ⟨((a : Int) + n).toNat, by show (a : Int) + n = _; omega, by omega⟩
  · rw [if_neg h1]; exact ⟨a, rfl, ha⟩
theorem ctext_ex (b : ByteArray) (a : Nat) (e n : Int) (ha : a ≤ b.size) : ∃ (sv : ByteArray) (a2 : Nat) (e2 : Int), ctext b a e n = (sv, (a2 : Int), e2) ∧ a2 ≤ b.size := by
  obtain ⟨a2, h, h2⟩ := ctext_at b a e n ha
  exact ⟨_, a2, _, by rw [← h], h2⟩
theorem ctake_ex (b : ByteArray) (a : Nat) (e n : Int) (ha : a ≤ b.size) : ∃ (sv : Int) (a2 : Nat) (e2 : Int), ctake b a e n = (sv, (a2 : Int), e2) ∧ a2 ≤ b.size := by
  obtain ⟨a2, h, h2⟩ := ctake_at b a e n ha
  exact ⟨_, a2, _, by rw [← h], h2⟩
theorem text_at (c a : Nat) (b : ByteArray) (e n : Int) (w : World) (h : CB w c a b e) (ha : a ≤ b.size) (hz : b.size ≤ 140737488355328) (hn : n < 9223372036854775808) {sv : ByteArray} {a2 : Nat} {e2 : Int} (hr : ctext b a e n = (sv, (a2 : Int), e2)) :
    Calls Try.prog 60 #[.pointer (some ⟨c, 0, none⟩), .int .i64 n] w fun e' w' => e' = .returned (.string sv) ∧ CB w' c a2 b e2 ∧ Mod (At c) w w' := by
  have := text c a b e n w h ha hz hn
  rw [hr] at this
  exact this
theorem take_at (c a : Nat) (b : ByteArray) (e n : Int) (w : World) (h : CB w c a b e) (ha : a ≤ b.size) (hz : b.size ≤ 140737488355328) {sv : Int} {a2 : Nat} {e2 : Int} (hr : ctake b a e n = (sv, (a2 : Int), e2)) :
    Calls Try.prog 59 #[.pointer (some ⟨c, 0, none⟩), .int .i64 n] w fun e' w' => e' = .returned (.int .u64 sv) ∧ CB w' c a2 b e2 ∧ Mod (At c) w w' := by
  have := take c a b e n w h ha hz
  rw [hr] at this
  exact this
/-- An ask: is it plain, a size or a length. -/
def ka : Kd (Bool × Int) := Kd.pair Kd.bool (Kd.int .i64)
theorem ask_cells {w : World} {A : Option Addr} {l : List (Bool × Int)} (h : Kd.C ka w A l.length l) (i : Nat) (hi : i < l.length) :
    ∃ ad : Addr, A = some ad ∧ w.cell? (ad.add (i * 2)) = some (.bool l[i].1) ∧ w.cell? ⟨(ad.add (i * 2)).block, (ad.add (i * 2)).off + 1, none⟩ = some (.int .i64 l[i].2) := by
  obtain ⟨ad, c, e, _, hK, hc0⟩ := Kd.C_get h (false, 0) (i : Int) (by omega) (by omega)
  rw [Int.toNat_natCast] at hc0 hK
  have hc : ∀ j u, c[j]? = some u → w.cell? (ad.add (i * 2 + j)) = some u := hc0
  have hx : l.getD i (false, 0) = l[i] := by rw [List.getD_eq_getElem?_getD, List.getElem?_eq_getElem hi]; rfl
  rw [hx] at hK
  obtain ⟨_, _, rfl, rfl, rfl⟩ := hK
  exact ⟨ad, e, hc 0 _ rfl, by rw [← add_field _ _ 1 (by omega)]; exact hc 1 _ rfl⟩
/-- The document's cursor in block r. -/
def RC (w : World) (r : Nat) (a : Nat) (e : Int) : Prop := w.heap[r]? = some (.cells #[.int .i64 (a : Int), .int .i64 e] 92 (0, 0))
theorem two_ {w : World} {r a : Nat} {e : Int} (h : RC w r a e) : (w.cell? ⟨r, 0, none⟩ = some (.int .i64 (a : Int)) ∧ w.cell? ⟨r, 1, none⟩ = some (.int .i64 e)) ∧ w.frozen? ⟨r, 0, none⟩ = false ∧ w.frozen? ⟨r, 1, none⟩ = false :=
  ⟨⟨blk_cell h 0, blk_cell h 1⟩, blk_frozen h 0, blk_frozen h 1⟩
theorem RC.below {w w' : World} {r a : Nat} {e : Int} (h : RC w r a e) (hb : Below w.heap.size w w') : RC w' r a e := (hb.block r (blk_lt h)).trans h
theorem RC.far {w w' : World} {r a : Nat} {e : Int} {F : Nat → Prop} (h : RC w r a e) (hm : Mod F w w') (hF : ¬ F r) : RC w' r a e := (hm.block r (blk_lt h) hF).trans h
def set2 (w : World) (r : Nat) (a : Nat) (e : Int) : World := (w.setCell ⟨r, 0, none⟩ (.int .i64 (a : Int))).setCell ⟨r, 1, none⟩ (.int .i64 e)
theorem RC.set {w : World} {r a a' : Nat} {e e' : Int} (h : RC w r a e) : RC (set2 w r a' e') r a' e' := by
  unfold set2
  have h := blk_set (blk_set h 0 (.int .i64 (a' : Int))) 1 (.int .i64 e')
  simpa [RC] using h
theorem set2_mod (w : World) (r : Nat) (a : Nat) (e : Int) : Mod (At r) w (set2 w r a e) := at_set (at_set (Mod.refl _ _) _ _) _ _
/-- Both cursors. -/
structure Bo (w0 w : World) (c r a : Nat) (b : ByteArray) (e : Int) : Prop where
  cb : CB w c a b e
  rc : RC w r a e
  be : Below w0.heap.size w0 w
  ab : a ≤ b.size
  c0 : w0.heap.size ≤ c
  r0 : w0.heap.size ≤ r
  cr : c ≠ r
set_option maxRecDepth 20000 in
set_option maxHeartbeats 4000000 in
theorem takes (b : ByteArray) (A : Option Addr) (cc : Nat) (l : List (Bool × Int)) (w : World) (hC : Kd.C ka w A l.length l) (hz : b.size ≤ 140737488355328) (hn : ∀ x ∈ l, x.2 < 9223372036854775808) :
    Calls Try.prog 13 #[.string b, .slice A l.length cc] w fun e w' => e = .returned (.bool true) ∧ Below w.heap.size w w' := by
  have HN := Lib.hid hn
  have HZ := Lib.hid hz
  clear hn hz
  by_cases hbig : 200 < l.length
  · go_enter Try.func13, Try.ntmps13
    go_wp2_with fail
    refine (Al.awake _).mono ?_
    rintro e w' ⟨rfl, hb⟩
    go_wp2
    go_ret
    exact ⟨rfl, hb⟩
  · go_enter Try.func13, Try.ntmps13
    go_wp2_with fail
    refine (read b w).mono ?_
    rintro e w1 ⟨rfl, h1, b1⟩
    have hs1 := h1.lt
    have HX : Bo w (w1.alloc (.cells #[.int .i64 0, .int .i64 0] 92)) w.heap.size w1.heap.size 0 b 0 :=
      ⟨h1.below ((Below.refl _ _).alloc (Nat.le_refl _) _), heap_alloc_new _ _, b1.alloc (by omega) _, Nat.zero_le _, Nat.le_refl _, by omega, by omega⟩
    go_wp2
    generalize hr : w1.heap.size = r at *
    clear h1 b1 hs1 hr
    go_loopw [7] (fun i wr => ∃ (k a : Nat) (e : Int), k ≤ l.length ∧ i = .int .i64 (k : Int) ∧ Bo w wr w.heap.size r a b e) (fun i _ => (l.length - (intOf i).toNat))
    case atStart => exact ⟨0, 0, 0, by omega, rfl, HX⟩
    case round =>
      clear HX
      obtain ⟨k, a, e, hk, rfl, HB⟩ := hrel
      have k0 : (0 : Int) ≤ (k : Int) := by omega
      obtain ⟨⟨t0, t1⟩, g0, g1⟩ := two_ HB.rc
      have hrl := blk_lt HB.rc
      by_cases hlt : k < l.length
      · have k2 : (k : Int) < (l.length : Int) := by omega
        obtain ⟨ad, rfl, c0, c1⟩ := ask_cells (Kd.C_below hC HB.be) k hlt
        obtain ⟨_, ea, ca, _⟩ := ask_cells hC k hlt
        obtain rfl := Option.some.inj ea
        have hal := World.block_lt_of_cell? w _ ca
        have HXn := Lib.hid (HN.out _ (List.getElem_mem hlt))
        clear ca
        generalize l[k] = x at *
        obtain ⟨x0, n⟩ := x
        dsimp only at c0 c1
        cases x0 with
        | true =>
          obtain ⟨sv, a2, e2, hr, hab2⟩ := ctext_ex b a e n HB.ab
          have hR := fun w => rtext b a e n HB.ab HZ.out HXn.out w
          have hT := fun W h => text_at w.heap.size a b e n W h HB.ab HZ.out HXn.out hr
          rw [hr] at hR
          clear hr
          go_wp2_with fail
          refine Reg.wp_plan (S := fun w' => w'.cell? ⟨r, 0, none⟩ = some (.int .i64 (a : Int)) ∧ w'.cell? ⟨r, 1, none⟩ = some (.int .i64 e) ∧ w'.cell? ⟨(ad.add (k * 2)).block, (ad.add (k * 2)).off + 1, none⟩ = some (.int .i64 n)) 14 (.fl 0 (.fl 1 (.fl 2 (.fl 3 (.fl 4 (.fl 5 (.fl 6 (.two 7 11 (.fl 8 (.fl 9 (.fl 10 (.one 11 (.fl 12 (.one 13 .done)))))) (.one 7 (.fl 8 (.fl 9 (.fl 10 (.fl 12 (.one 13 .done)))))))))))))) (by kernel_rfl) (by kernel_rfl) (by kernel_rfl) (by kernel_rfl) (fun _ _ _ d _ h => by cases d <;> exact h) ?_ (fun hHeld => ?_)
          · exact ⟨by simpa using t0, by simpa using t1, by simpa using c1⟩
          refine Reg.G_on (o := { dst := some 30, op := Op.move (Operand.tmp 0), type := 9, pos := "law.go:69", after := #[], guard := Option.none }) (v := ?_) (by rfl) ?_ (fun wS hSw => ?_) ?_
          rotate_left
          · kernel_rfl
          · (try dsimp only at hSw); go_simp; (try with_reducible rfl)
          try simp only [Act.put, List.setIfInBounds_toArray, List.set_cons_zero, List.set_cons_succ]
          refine Reg.G_on (o := { dst := some 31, op := Op.load 92 (Operand.tmp 6), type := 92, pos := "law.go:69", after := #[], guard := Option.none }) (v := ?_) (by rfl) ?_ (fun wS hSw => ?_) ?_
          rotate_left
          · kernel_rfl
          · (try dsimp only at hSw); go_simp; (try with_reducible rfl)
          try simp only [Act.put, List.setIfInBounds_toArray, List.set_cons_zero, List.set_cons_succ]
          refine Reg.G_on (o := { dst := some 32, op := Op.move (Operand.tmp 1), type := 89, pos := "law.go:69", after := #[], guard := Option.none }) (v := ?_) (by rfl) ?_ (fun wS hSw => ?_) ?_
          rotate_left
          · kernel_rfl
          · (try dsimp only at hSw); go_simp; (try with_reducible rfl)
          try simp only [Act.put, List.setIfInBounds_toArray, List.set_cons_zero, List.set_cons_succ]
          refine Reg.G_on (o := { dst := some 33, op := Op.move (Operand.tmp 7), type := 3, pos := "law.go:69", after := #[], guard := Option.none }) (v := ?_) (by rfl) ?_ (fun wS hSw => ?_) ?_
          rotate_left
          · kernel_rfl
          · (try dsimp only at hSw); go_simp; (try with_reducible rfl)
          try simp only [Act.put, List.setIfInBounds_toArray, List.set_cons_zero, List.set_cons_succ]
          refine Reg.G_on (o := { dst := some 34, op := Op.indexAddr 89 (Operand.tmp 32) (Operand.tmp 33), type := 0, pos := "law.go:69", after := #[{ on := 2, ground := Ground.data }, { on := 3, ground := Ground.data }], guard := Option.none }) (v := ?_) (by rfl) ?_ (fun wS hSw => ?_) ?_
          rotate_left
          · kernel_rfl
          · (try dsimp only at hSw); go_simp; (try with_reducible rfl)
          try simp only [Act.put, List.setIfInBounds_toArray, List.set_cons_zero, List.set_cons_succ]
          refine Reg.G_on (o := { dst := some 35, op := Op.fieldAddr 94 (Operand.tmp 34) 1, type := 0, pos := "law.go:69", after := #[{ on := 4, ground := Ground.data }], guard := Option.none }) (v := ?_) (by rfl) ?_ (fun wS hSw => ?_) ?_
          rotate_left
          · kernel_rfl
          · (try dsimp only at hSw); go_simp; (try with_reducible rfl)
          try simp only [Act.put, List.setIfInBounds_toArray, List.set_cons_zero, List.set_cons_succ]
          refine Reg.G_on (o := { dst := some 36, op := Op.load 3 (Operand.tmp 35), type := 3, pos := "law.go:69", after := #[{ on := 5, ground := Ground.data }], guard := Option.none }) (v := ?_) (by rfl) ?_ (fun wS hSw => ?_) ?_
          rotate_left
          · kernel_rfl
          · (try dsimp only at hSw); go_simp; (try with_reducible rfl)
          try simp only [Act.put, List.setIfInBounds_toArray, List.set_cons_zero, List.set_cons_succ]
          refine Reg.G_two ?_ ?_
          · refine Reg.G_step (o := { dst := some 37, op := Op.call { callee := Callee.value (Operand.func 65), args := #[Operand.tmp 30, Operand.tmp 31, Operand.tmp 36], argTypes := #[9, 92, 3] }, type := 95, pos := "law.go:69", after := #[{ on := 0, ground := Ground.data }, { on := 1, ground := Ground.data }, { on := 6, ground := Ground.data }], guard := Option.none }) (by rfl) ?_ (fun K hK => ?_)
            · kernel_rfl
            go_simp
            refine (hR _).mono ?_
            rintro e w' ⟨rfl, hb⟩
            refine hK.out _ _ ?_ (fun hHeld => ?_)
            · exact ⟨argb hb hHeld.1, argb hb hHeld.2.1, argb hb hHeld.2.2⟩
            clear hK K
            try simp only [Act.put, List.setIfInBounds_toArray, List.set_cons_zero, List.set_cons_succ]
            have hH1 := hHeld
            refine Reg.G_on (o := { dst := some 29, op := Op.move (Operand.tmp 37), type := 95, pos := "law.go:69", after := #[{ on := 7, ground := Ground.data }], guard := Option.none }) (v := ?_) (by rfl) ?_ (fun wS hSw => ?_) ?_
            rotate_left
            · kernel_rfl
            · (try dsimp only at hSw); go_simp; (try with_reducible rfl)
            try simp only [Act.put, List.setIfInBounds_toArray, List.set_cons_zero, List.set_cons_succ]
            refine Reg.G_on (o := { dst := some 38, op := Op.extract (Operand.tmp 29) 0, type := 9, pos := "law.go:69", after := #[{ on := 8, ground := Ground.data }], guard := Option.none }) (v := ?_) (by rfl) ?_ (fun wS hSw => ?_) ?_
            rotate_left
            · kernel_rfl
            · (try dsimp only at hSw); go_simp; (try with_reducible rfl)
            try simp only [Act.put, List.setIfInBounds_toArray, List.set_cons_zero, List.set_cons_succ]
            refine Reg.G_on (o := { dst := some 39, op := Op.extract (Operand.tmp 29) 1, type := 92, pos := "law.go:69", after := #[{ on := 8, ground := Ground.data }, { on := 12, ground := Ground.gcOnly Departure.lateStores }], guard := Option.none }) (v := ?_) (by rfl) ?_ (fun wS hSw => ?_) ?_
            rotate_left
            · kernel_rfl
            · (try dsimp only at hSw); go_simp; (try with_reducible rfl)
            try simp only [Act.put, List.setIfInBounds_toArray, List.set_cons_zero, List.set_cons_succ]
            refine Reg.G_step (o := { dst := some 9, op := Op.alloc 92, type := 0, pos := "law.go:69", after := #[], guard := Option.none }) (by rfl) ?_ (fun K hK => ?_)
            · kernel_rfl
            go_simp
            refine hK.out _ _ ?_ (fun hHeld => ?_)
            · exact ⟨cnew hHeld.1, cnew hHeld.2.1, cnew hHeld.2.2⟩
            clear hK K
            try simp only [Act.put, List.setIfInBounds_toArray, List.set_cons_zero, List.set_cons_succ]
            refine Reg.G_on (o := { dst := some 8, op := Op.assign (Operand.tmp 38), type := 9, pos := "law.go:69", after := #[{ on := 9, ground := Ground.data }, { on := 7, ground := Ground.chain }, { on := 0, ground := Ground.phase }, { on := 1, ground := Ground.phase }, { on := 2, ground := Ground.phase }, { on := 3, ground := Ground.phase }, { on := 4, ground := Ground.phase }, { on := 5, ground := Ground.phase }, { on := 6, ground := Ground.phase }, { on := 7, ground := Ground.phase }, { on := 8, ground := Ground.phase }, { on := 9, ground := Ground.phase }, { on := 10, ground := Ground.textOnly Departure.lateStores }, { on := 11, ground := Ground.phase }], guard := Option.none }) (v := ?_) (by rfl) ?_ (fun wS hSw => ?_) ?_
            rotate_left
            · kernel_rfl
            · (try dsimp only at hSw); go_simp; (try with_reducible rfl)
            try simp only [Act.put, List.setIfInBounds_toArray, List.set_cons_zero, List.set_cons_succ]
            refine Reg.G_step (o := { dst := Option.none, op := Op.store 92 (Operand.tmp 9) (Operand.tmp 39), type := 0, pos := "law.go:69", after := #[{ on := 11, ground := Ground.data }, { on := 10, ground := Ground.data }, { on := 12, ground := Ground.chain }, { on := 0, ground := Ground.phase }, { on := 1, ground := Ground.phase }, { on := 2, ground := Ground.phase }, { on := 3, ground := Ground.phase }, { on := 4, ground := Ground.phase }, { on := 5, ground := Ground.phase }, { on := 6, ground := Ground.phase }, { on := 7, ground := Ground.phase }, { on := 8, ground := Ground.phase }, { on := 9, ground := Ground.phase }, { on := 10, ground := Ground.phase }, { on := 11, ground := Ground.phase }, { on := 12, ground := Ground.phase }], guard := Option.none }) (by rfl) ?_ (fun K hK => ?_)
            · kernel_rfl
            go_simp
            refine hK.out _ _ ?_ (fun hHeld => ?_)
            · exact ⟨cnew hH1.1, cnew hH1.2.1, cnew hH1.2.2⟩
            clear hK K
            try simp only [Act.put, List.setIfInBounds_toArray, List.set_cons_zero, List.set_cons_succ]
            refine Reg.G_done ?_
            clear hH1 hHeld
            obtain ⟨wz, hwz⟩ : ∃ wz, wz = w'.alloc (.cells #[.int .i64 (a2 : Int), .int .i64 e2] 92) := ⟨_, rfl⟩
            have bz : Below wr.heap.size wr wz := by rw [hwz]; exact ((Below.refl wr.heap.size wr).drew.trans hb).alloc hb.size _
            have hz2 : RC wz w'.heap.size a2 e2 := by rw [hwz]; exact heap_alloc_new _ _
            have hzr : w'.heap.size ≠ r := by have := hb.size; simp at this; omega
            rw [← hwz]
            clear hwz hb t0 t1 g0 g1
            generalize w'.heap.size = z at *
            have cz := HB.cb.below bz
            have rz := HB.rc.below bz
            have dz := argb bz c1
            have bbz := bstep HB.be bz
            obtain ⟨⟨s0, s1⟩, -⟩ := two_ hz2
            obtain ⟨⟨t0, t1⟩, u0, u1⟩ := two_ rz
            have rW := RC.set (w := wz) (a' := a2) (e' := e2) rz
            have mW := set2_mod wz r a2 e2
            obtain ⟨W1, hW⟩ : ∃ W1, W1 = set2 wz r a2 e2 := ⟨_, rfl⟩
            rw [← hW] at rW mW
            have cW := cz.far mW (fun h => HB.cr h)
            have bW := mW.below bbz bbz.size (fun k hk => by rw [show k = r from hk]; exact HB.r0)
            have dW := argc mW (fun k (hk : At r k) => show w.heap.size ≤ k by rw [show k = r from hk]; exact HB.r0) hal dz
            unfold set2 at hW
            have hT1 := hT W1 cW
            have hne1 : (ad.add (k * 2)).block ≠ r := by have := HB.r0; omega
            have hne2 : r ≠ (ad.add (k * 2)).block := fun h => hne1 h.symm
            clear hT c1 bz bbz mW rz cz hR dW
            go_wp2_with fail
            rw [← hW]
            clear hW s0 s1 t0 t1 u0 u1 dz hz2 cW hne1 hne2
            refine hT1.mono ?_
            rintro e' W ⟨rfl, hc, mc⟩
            have hra : ¬ At w.heap.size r := fun h => HB.cr (show r = w.heap.size from h).symm
            have HB2 : Bo w W w.heap.size r a2 b e2 := ⟨hc, rW.far mc hra, mc.below bW bW.size (fun k hk => by rw [show k = w.heap.size from hk]; exact Nat.le_refl _), hab2, HB.c0, HB.r0, HB.cr⟩
            clear HB hT1 hc mc bW rW hab2
            have HB := HB2
            clear HB2
            obtain ⟨⟨t0, t1⟩, -⟩ := two_ HB.rc
            have hrl := blk_lt HB.rc
            go_wp2_with fail
            refine Reg.wp_plan (S := fun w' => CB w' w.heap.size a2 b e2 ∧ w'.cell? ⟨r, 0, none⟩ = some (.int .i64 (a2 : Int)) ∧ w'.cell? ⟨r, 1, none⟩ = some (.int .i64 e2)) 20 (.fl 0 (.fl 2 (.fl 3 (.one 1 (.fl 4 (.fl 5 (.fl 6 (.fl 8 (.fl 9 (.one 7 (.fl 10 (.fl 11 (.fl 12 (.fl 13 (.fl 15 (.fl 16 (.one 14 (.one 17 (.fl 18 (.fl 19 .done)))))))))))))))))))) (by kernel_rfl) (by kernel_rfl) (by kernel_rfl) (by kernel_rfl) (fun _ _ _ d _ h => by cases d <;> exact h) ?_ (fun hHeld => ?_)
            · exact ⟨HB.cb, by simpa using t0, by simpa using t1⟩
            refine Reg.G_on (o := { dst := some 71, op := Op.move (Operand.tmp 5), type := 80, pos := "law.go:81", after := #[], guard := Option.none }) (v := ?_) (by rfl) ?_ (fun wS hSw => ?_) ?_
            rotate_left
            · kernel_rfl
            · (try dsimp only at hSw); go_simp; (try with_reducible rfl)
            try simp only [Act.put, List.setIfInBounds_toArray, List.set_cons_zero, List.set_cons_succ]
            refine Reg.G_on (o := { dst := some 73, op := Op.fieldAddr 92 (Operand.tmp 6) 0, type := 0, pos := "law.go:81", after := #[], guard := Option.none }) (v := ?_) (by rfl) ?_ (fun wS hSw => ?_) ?_
            rotate_left
            · kernel_rfl
            · (try dsimp only at hSw); go_simp; (try with_reducible rfl)
            try simp only [Act.put, List.setIfInBounds_toArray, List.set_cons_zero, List.set_cons_succ]
            refine Reg.G_on (o := { dst := some 74, op := Op.load 3 (Operand.tmp 73), type := 3, pos := "law.go:81", after := #[{ on := 2, ground := Ground.data }], guard := Option.none }) (v := ?_) (by rfl) ?_ (fun wS hSw => ?_) ?_
            rotate_left
            · kernel_rfl
            · (try dsimp only at hSw); go_simp; (try with_reducible rfl)
            try simp only [Act.put, List.setIfInBounds_toArray, List.set_cons_zero, List.set_cons_succ]
            refine Reg.G_step (o := { dst := some 72, op := Op.call { callee := Callee.value (Operand.func 61), args := #[Operand.tmp 71], argTypes := #[80] }, type := 3, pos := "law.go:81", after := #[{ on := 0, ground := Ground.data }], guard := Option.none }) (by rfl) ?_ (fun K hK => ?_)
            · kernel_rfl
            go_simp
            refine (at_ w.heap.size a2 b e2 _ hHeld.1).mono ?_
            rintro e w' ⟨rfl, rfl⟩
            refine hK.out _ _ ?_ (fun hHeld => ?_)
            · exact hHeld
            clear hK K
            try simp only [Act.put, List.setIfInBounds_toArray, List.set_cons_zero, List.set_cons_succ]
            refine Reg.G_on (o := { dst := some 75, op := Op.binOp BinOp.neq 3 (Operand.tmp 72) (Operand.tmp 74) 3, type := 4, pos := "law.go:81", after := #[{ on := 1, ground := Ground.data }, { on := 3, ground := Ground.data }], guard := Option.none }) (v := ?_) (by rfl) ?_ (fun wS hSw => ?_) ?_
            rotate_left
            · kernel_rfl
            · (try dsimp only at hSw); go_simp; (try with_reducible rfl)
            try simp only [Act.put, List.setIfInBounds_toArray, List.set_cons_zero, List.set_cons_succ]
            refine Reg.G_on (o := { dst := some 76, op := Op.move (Operand.tmp 75), type := 4, pos := "law.go:81", after := #[{ on := 4, ground := Ground.data }, { on := 1, ground := Ground.chain }], guard := Option.none }) (v := ?_) (by rfl) ?_ (fun wS hSw => ?_) ?_
            rotate_left
            · kernel_rfl
            · (try dsimp only at hSw); go_simp; (try with_reducible rfl)
            try simp only [Act.put, List.setIfInBounds_toArray, List.set_cons_zero, List.set_cons_succ]
            refine Reg.G_on (o := { dst := some 77, op := Op.move (Operand.tmp 5), type := 80, pos := "law.go:81", after := #[{ on := 5, ground := Ground.guard }], guard := some (5, false) }) (v := ?_) (by rfl) ?_ (fun wS hSw => ?_) ?_
            rotate_left
            · kernel_rfl
            · (try dsimp only at hSw); go_simp; (try with_reducible rfl)
            try simp only [Act.put, List.setIfInBounds_toArray, List.set_cons_zero, List.set_cons_succ]
            refine Reg.G_on (o := { dst := some 79, op := Op.fieldAddr 92 (Operand.tmp 6) 1, type := 0, pos := "law.go:81", after := #[{ on := 5, ground := Ground.guard }], guard := some (5, false) }) (v := ?_) (by rfl) ?_ (fun wS hSw => ?_) ?_
            rotate_left
            · kernel_rfl
            · (try dsimp only at hSw); go_simp; (try with_reducible rfl)
            try simp only [Act.put, List.setIfInBounds_toArray, List.set_cons_zero, List.set_cons_succ]
            refine Reg.G_on (o := { dst := some 80, op := Op.load 73 (Operand.tmp 79), type := 73, pos := "law.go:81", after := #[{ on := 8, ground := Ground.data }, { on := 5, ground := Ground.guard }], guard := some (5, false) }) (v := ?_) (by rfl) ?_ (fun wS hSw => ?_) ?_
            rotate_left
            · kernel_rfl
            · (try dsimp only at hSw); go_simp; (try with_reducible rfl)
            try simp only [Act.put, List.setIfInBounds_toArray, List.set_cons_zero, List.set_cons_succ]
            refine Reg.G_step (o := { dst := some 78, op := Op.call { callee := Callee.value (Operand.func 62), args := #[Operand.tmp 77], argTypes := #[80] }, type := 73, pos := "law.go:81", after := #[{ on := 6, ground := Ground.data }, { on := 5, ground := Ground.chain }, { on := 5, ground := Ground.guard }], guard := some (5, false) }) (by rfl) ?_ (fun K hK => ?_)
            · kernel_rfl
            go_simp
            refine (err w.heap.size a2 b e2 _ hHeld.1).mono ?_
            rintro e w' ⟨rfl, rfl⟩
            refine hK.out _ _ ?_ (fun hHeld => ?_)
            · exact hHeld
            clear hK K
            try simp only [Act.put, List.setIfInBounds_toArray, List.set_cons_zero, List.set_cons_succ]
            refine Reg.G_on (o := { dst := some 81, op := Op.binOp BinOp.neq 73 (Operand.tmp 78) (Operand.tmp 80) 73, type := 4, pos := "law.go:81", after := #[{ on := 7, ground := Ground.data }, { on := 9, ground := Ground.data }, { on := 5, ground := Ground.guard }], guard := some (5, false) }) (v := ?_) (by rfl) ?_ (fun wS hSw => ?_) ?_
            rotate_left
            · kernel_rfl
            · (try dsimp only at hSw); go_simp; (try with_reducible rfl)
            try simp only [Act.put, List.setIfInBounds_toArray, List.set_cons_zero, List.set_cons_succ]
            refine Reg.G_on (o := { dst := some 82, op := Op.pick (Operand.tmp 76) (Operand.const (Value.bool true)) (Operand.tmp 81), type := 4, pos := "law.go:81", after := #[{ on := 5, ground := Ground.data }, { on := 10, ground := Ground.data }], guard := Option.none }) (v := ?_) (by rfl) ?_ (fun wS hSw => ?_) ?_
            rotate_left
            · kernel_rfl
            · (try dsimp only at hSw); go_simp; (try with_reducible rfl)
            try simp only [Act.put, List.setIfInBounds_toArray, List.set_cons_zero, List.set_cons_succ]
            refine Reg.G_on (o := { dst := some 83, op := Op.move (Operand.tmp 82), type := 4, pos := "law.go:81", after := #[{ on := 11, ground := Ground.data }, { on := 7, ground := Ground.chain }], guard := Option.none }) (v := ?_) (by rfl) ?_ (fun wS hSw => ?_) ?_
            rotate_left
            · kernel_rfl
            · (try dsimp only at hSw); go_simp; (try with_reducible rfl)
            try simp only [Act.put, List.setIfInBounds_toArray, List.set_cons_zero, List.set_cons_succ]
            refine Reg.G_on (o := { dst := some 84, op := Op.move (Operand.tmp 5), type := 80, pos := "law.go:81", after := #[{ on := 12, ground := Ground.guard }], guard := some (12, false) }) (v := ?_) (by rfl) ?_ (fun wS hSw => ?_) ?_
            rotate_left
            · kernel_rfl
            · (try dsimp only at hSw); go_simp; (try with_reducible rfl)
            try simp only [Act.put, List.setIfInBounds_toArray, List.set_cons_zero, List.set_cons_succ]
            refine Reg.G_on (o := { dst := some 86, op := Op.move (Operand.tmp 0), type := 9, pos := "law.go:81", after := #[{ on := 12, ground := Ground.guard }], guard := some (12, false) }) (v := ?_) (by rfl) ?_ (fun wS hSw => ?_) ?_
            rotate_left
            · kernel_rfl
            · (try dsimp only at hSw); go_simp; (try with_reducible rfl)
            try simp only [Act.put, List.setIfInBounds_toArray, List.set_cons_zero, List.set_cons_succ]
            refine Reg.G_on (o := { dst := some 87, op := Op.load 92 (Operand.tmp 6), type := 92, pos := "law.go:81", after := #[{ on := 12, ground := Ground.guard }], guard := some (12, false) }) (v := ?_) (by rfl) ?_ (fun wS hSw => ?_) ?_
            rotate_left
            · kernel_rfl
            · (try dsimp only at hSw); go_simp; (try with_reducible rfl)
            try simp only [Act.put, List.setIfInBounds_toArray, List.set_cons_zero, List.set_cons_succ]
            refine Reg.G_step (o := { dst := some 85, op := Op.call { callee := Callee.value (Operand.func 63), args := #[Operand.tmp 84], argTypes := #[80] }, type := 73, pos := "law.go:81", after := #[{ on := 13, ground := Ground.data }, { on := 12, ground := Ground.chain }, { on := 12, ground := Ground.guard }], guard := some (12, false) }) (by rfl) ?_ (fun K hK => ?_)
            · kernel_rfl
            go_simp
            refine (done w.heap.size a2 b e2 _ hHeld.1).mono ?_
            rintro e w' ⟨rfl, hb⟩
            refine hK.out _ _ ?_ (fun hHeld => ?_)
            · exact ⟨hHeld.1.below hb, argb hb hHeld.2.1, argb hb hHeld.2.2⟩
            clear hK K
            try simp only [Act.put, List.setIfInBounds_toArray, List.set_cons_zero, List.set_cons_succ]
            skip
            have hb1 := hb
            clear hb
            refine Reg.G_step (o := { dst := some 88, op := Op.call { callee := Callee.value (Operand.func 67), args := #[Operand.tmp 86, Operand.tmp 87], argTypes := #[9, 92] }, type := 73, pos := "law.go:81", after := #[{ on := 15, ground := Ground.data }, { on := 16, ground := Ground.data }, { on := 14, ground := Ground.chain }, { on := 12, ground := Ground.guard }], guard := some (12, false) }) (by rfl) ?_ (fun K hK => ?_)
            · kernel_rfl
            go_simp
            refine (rdone b a2 e2 _).mono ?_
            rintro e w' ⟨rfl, hb⟩
            refine hK.out _ _ ?_ (fun hHeld => ?_)
            · exact ⟨hHeld.1.below hb, argb hb hHeld.2.1, argb hb hHeld.2.2⟩
            clear hK K
            try simp only [Act.put, List.setIfInBounds_toArray, List.set_cons_zero, List.set_cons_succ]
            refine Reg.G_on (o := { dst := some 89, op := Op.binOp BinOp.neq 73 (Operand.tmp 85) (Operand.tmp 88) 73, type := 4, pos := "law.go:81", after := #[{ on := 14, ground := Ground.data }, { on := 17, ground := Ground.data }, { on := 12, ground := Ground.guard }], guard := some (12, false) }) (v := ?_) (by rfl) ?_ (fun wS hSw => ?_) ?_
            rotate_left
            · kernel_rfl
            · (try dsimp only at hSw); go_simp; (try with_reducible rfl)
            try simp only [Act.put, List.setIfInBounds_toArray, List.set_cons_zero, List.set_cons_succ]
            refine Reg.G_on (o := { dst := some 90, op := Op.pick (Operand.tmp 83) (Operand.const (Value.bool true)) (Operand.tmp 89), type := 4, pos := "law.go:81", after := #[{ on := 12, ground := Ground.data }, { on := 18, ground := Ground.data }], guard := Option.none }) (v := ?_) (by rfl) ?_ (fun wS hSw => ?_) ?_
            rotate_left
            · kernel_rfl
            · (try dsimp only at hSw); go_simp; (try with_reducible rfl)
            try simp only [Act.put, List.setIfInBounds_toArray, List.set_cons_zero, List.set_cons_succ]
            refine Reg.G_done ?_
            go_wp2
            have hb3 := (Below.refl W.heap.size W).drew.trans (bstep hb1 hb)
            have HB3 : Bo w w' w.heap.size r a2 b e2 := ⟨HB.cb.below hb3, HB.rc.below hb3, bstep HB.be hb3, HB.ab, HB.c0, HB.r0, HB.cr⟩
            go_roundw
            case rel => exact ⟨k + 1, a2, e2, by omega, by go_num, HB3⟩
            case measure => simp [intOf]; omega

          · refine Reg.G_step (o := { dst := some 9, op := Op.alloc 92, type := 0, pos := "law.go:69", after := #[], guard := Option.none }) (by rfl) ?_ (fun K hK => ?_)
            · kernel_rfl
            go_simp
            refine hK.out _ _ ?_ (fun hHeld => ?_)
            · exact ⟨cnew hHeld.1, cnew hHeld.2.1, cnew hHeld.2.2⟩
            clear hK K
            try simp only [Act.put, List.setIfInBounds_toArray, List.set_cons_zero, List.set_cons_succ]
            skip
            refine Reg.G_step (o := { dst := some 37, op := Op.call { callee := Callee.value (Operand.func 65), args := #[Operand.tmp 30, Operand.tmp 31, Operand.tmp 36], argTypes := #[9, 92, 3] }, type := 95, pos := "law.go:69", after := #[{ on := 0, ground := Ground.data }, { on := 1, ground := Ground.data }, { on := 6, ground := Ground.data }], guard := Option.none }) (by rfl) ?_ (fun K hK => ?_)
            · kernel_rfl
            go_simp
            refine (hR _).mono ?_
            rintro e w' ⟨rfl, hb⟩
            refine hK.out _ _ ?_ (fun hHeld => ?_)
            · exact ⟨argb hb hHeld.1, argb hb hHeld.2.1, argb hb hHeld.2.2⟩
            clear hK K
            try simp only [Act.put, List.setIfInBounds_toArray, List.set_cons_zero, List.set_cons_succ]
            refine Reg.G_on (o := { dst := some 29, op := Op.move (Operand.tmp 37), type := 95, pos := "law.go:69", after := #[{ on := 7, ground := Ground.data }], guard := Option.none }) (v := ?_) (by rfl) ?_ (fun wS hSw => ?_) ?_
            rotate_left
            · kernel_rfl
            · (try dsimp only at hSw); go_simp; (try with_reducible rfl)
            try simp only [Act.put, List.setIfInBounds_toArray, List.set_cons_zero, List.set_cons_succ]
            refine Reg.G_on (o := { dst := some 38, op := Op.extract (Operand.tmp 29) 0, type := 9, pos := "law.go:69", after := #[{ on := 8, ground := Ground.data }], guard := Option.none }) (v := ?_) (by rfl) ?_ (fun wS hSw => ?_) ?_
            rotate_left
            · kernel_rfl
            · (try dsimp only at hSw); go_simp; (try with_reducible rfl)
            try simp only [Act.put, List.setIfInBounds_toArray, List.set_cons_zero, List.set_cons_succ]
            refine Reg.G_on (o := { dst := some 39, op := Op.extract (Operand.tmp 29) 1, type := 92, pos := "law.go:69", after := #[{ on := 8, ground := Ground.data }, { on := 12, ground := Ground.gcOnly Departure.lateStores }], guard := Option.none }) (v := ?_) (by rfl) ?_ (fun wS hSw => ?_) ?_
            rotate_left
            · kernel_rfl
            · (try dsimp only at hSw); go_simp; (try with_reducible rfl)
            try simp only [Act.put, List.setIfInBounds_toArray, List.set_cons_zero, List.set_cons_succ]
            refine Reg.G_on (o := { dst := some 8, op := Op.assign (Operand.tmp 38), type := 9, pos := "law.go:69", after := #[{ on := 9, ground := Ground.data }, { on := 7, ground := Ground.chain }, { on := 0, ground := Ground.phase }, { on := 1, ground := Ground.phase }, { on := 2, ground := Ground.phase }, { on := 3, ground := Ground.phase }, { on := 4, ground := Ground.phase }, { on := 5, ground := Ground.phase }, { on := 6, ground := Ground.phase }, { on := 7, ground := Ground.phase }, { on := 8, ground := Ground.phase }, { on := 9, ground := Ground.phase }, { on := 10, ground := Ground.textOnly Departure.lateStores }, { on := 11, ground := Ground.phase }], guard := Option.none }) (v := ?_) (by rfl) ?_ (fun wS hSw => ?_) ?_
            rotate_left
            · kernel_rfl
            · (try dsimp only at hSw); go_simp; (try with_reducible rfl)
            try simp only [Act.put, List.setIfInBounds_toArray, List.set_cons_zero, List.set_cons_succ]
            have hbs := hb.size
            simp at hbs
            have z8 : RC w' wr.heap.size 0 0 := (hb.block wr.heap.size (by simp)).trans (heap_alloc_new wr _)
            have hzr : wr.heap.size ≠ r := by omega
            have hws := HB.be.size
            have hza : wr.heap.size ≠ (ad.add (k * 2)).block := by omega
            obtain ⟨⟨z0, z1⟩, y0, y1⟩ := two_ z8
            refine Reg.G_step (o := { dst := Option.none, op := Op.store 92 (Operand.tmp 9) (Operand.tmp 39), type := 0, pos := "law.go:69", after := #[{ on := 11, ground := Ground.data }, { on := 10, ground := Ground.data }, { on := 12, ground := Ground.chain }, { on := 0, ground := Ground.phase }, { on := 1, ground := Ground.phase }, { on := 2, ground := Ground.phase }, { on := 3, ground := Ground.phase }, { on := 4, ground := Ground.phase }, { on := 5, ground := Ground.phase }, { on := 6, ground := Ground.phase }, { on := 7, ground := Ground.phase }, { on := 8, ground := Ground.phase }, { on := 9, ground := Ground.phase }, { on := 10, ground := Ground.phase }, { on := 11, ground := Ground.phase }, { on := 12, ground := Ground.phase }], guard := Option.none }) (by rfl) ?_ (fun K hK => ?_)
            · kernel_rfl
            go_simp
            refine hK.out _ _ ?_ (fun hHeld => ?_)
            · exact ⟨cfar (cfar hHeld.1 hzr) hzr, cfar (cfar hHeld.2.1 hzr) hzr, cfar (cfar hHeld.2.2 hza) hza⟩
            clear hK K
            try simp only [Act.put, List.setIfInBounds_toArray, List.set_cons_zero, List.set_cons_succ]
            refine Reg.G_done ?_
            obtain ⟨wz, hwz⟩ : ∃ wz, wz = set2 w' wr.heap.size a2 e2 := ⟨_, rfl⟩
            have bz : Below wr.heap.size wr wz := by
              rw [hwz]
              exact ((((Below.refl wr.heap.size wr).alloc (Nat.le_refl _) _).drew.trans (hb.mono (by simp))).setCell (Nat.le_refl _) _).setCell (Nat.le_refl _) _
            have hz2 : RC wz wr.heap.size a2 e2 := by rw [hwz]; exact z8.set
            unfold set2 at hwz
            rw [← hwz]
            clear hwz hb hbs t0 t1 g0 g1 z8 z0 z1 y0 y1 hHeld hza
            obtain ⟨z, hz⟩ : ∃ z, z = wr.heap.size := ⟨_, rfl⟩
            rw [← hz] at hz2 hzr ⊢
            clear hz hws
            have cz := HB.cb.below bz
            have rz := HB.rc.below bz
            have dz := argb bz c1
            have bbz := bstep HB.be bz
            obtain ⟨⟨s0, s1⟩, -⟩ := two_ hz2
            obtain ⟨⟨t0, t1⟩, u0, u1⟩ := two_ rz
            have rW := RC.set (w := wz) (a' := a2) (e' := e2) rz
            have mW := set2_mod wz r a2 e2
            obtain ⟨W1, hW⟩ : ∃ W1, W1 = set2 wz r a2 e2 := ⟨_, rfl⟩
            rw [← hW] at rW mW
            have cW := cz.far mW (fun h => HB.cr h)
            have bW := mW.below bbz bbz.size (fun k hk => by rw [show k = r from hk]; exact HB.r0)
            have dW := argc mW (fun k (hk : At r k) => show w.heap.size ≤ k by rw [show k = r from hk]; exact HB.r0) hal dz
            unfold set2 at hW
            have hT1 := hT W1 cW
            have hne1 : (ad.add (k * 2)).block ≠ r := by have := HB.r0; omega
            have hne2 : r ≠ (ad.add (k * 2)).block := fun h => hne1 h.symm
            clear hT c1 bz bbz mW rz cz hR dW
            go_wp2_with fail
            rw [← hW]
            clear hW s0 s1 t0 t1 u0 u1 dz hz2 cW hne1 hne2
            refine hT1.mono ?_
            rintro e' W ⟨rfl, hc, mc⟩
            have hra : ¬ At w.heap.size r := fun h => HB.cr (show r = w.heap.size from h).symm
            have HB2 : Bo w W w.heap.size r a2 b e2 := ⟨hc, rW.far mc hra, mc.below bW bW.size (fun k hk => by rw [show k = w.heap.size from hk]; exact Nat.le_refl _), hab2, HB.c0, HB.r0, HB.cr⟩
            clear HB hT1 hc mc bW rW hab2
            have HB := HB2
            clear HB2
            obtain ⟨⟨t0, t1⟩, -⟩ := two_ HB.rc
            have hrl := blk_lt HB.rc
            go_wp2_with fail
            refine Reg.wp_plan (S := fun w' => CB w' w.heap.size a2 b e2 ∧ w'.cell? ⟨r, 0, none⟩ = some (.int .i64 (a2 : Int)) ∧ w'.cell? ⟨r, 1, none⟩ = some (.int .i64 e2)) 20 (.fl 0 (.fl 2 (.fl 3 (.one 1 (.fl 4 (.fl 5 (.fl 6 (.fl 8 (.fl 9 (.one 7 (.fl 10 (.fl 11 (.fl 12 (.fl 13 (.fl 15 (.fl 16 (.one 14 (.one 17 (.fl 18 (.fl 19 .done)))))))))))))))))))) (by kernel_rfl) (by kernel_rfl) (by kernel_rfl) (by kernel_rfl) (fun _ _ _ d _ h => by cases d <;> exact h) ?_ (fun hHeld => ?_)
            · exact ⟨HB.cb, by simpa using t0, by simpa using t1⟩
            refine Reg.G_on (o := { dst := some 71, op := Op.move (Operand.tmp 5), type := 80, pos := "law.go:81", after := #[], guard := Option.none }) (v := ?_) (by rfl) ?_ (fun wS hSw => ?_) ?_
            rotate_left
            · kernel_rfl
            · (try dsimp only at hSw); go_simp; (try with_reducible rfl)
            try simp only [Act.put, List.setIfInBounds_toArray, List.set_cons_zero, List.set_cons_succ]
            refine Reg.G_on (o := { dst := some 73, op := Op.fieldAddr 92 (Operand.tmp 6) 0, type := 0, pos := "law.go:81", after := #[], guard := Option.none }) (v := ?_) (by rfl) ?_ (fun wS hSw => ?_) ?_
            rotate_left
            · kernel_rfl
            · (try dsimp only at hSw); go_simp; (try with_reducible rfl)
            try simp only [Act.put, List.setIfInBounds_toArray, List.set_cons_zero, List.set_cons_succ]
            refine Reg.G_on (o := { dst := some 74, op := Op.load 3 (Operand.tmp 73), type := 3, pos := "law.go:81", after := #[{ on := 2, ground := Ground.data }], guard := Option.none }) (v := ?_) (by rfl) ?_ (fun wS hSw => ?_) ?_
            rotate_left
            · kernel_rfl
            · (try dsimp only at hSw); go_simp; (try with_reducible rfl)
            try simp only [Act.put, List.setIfInBounds_toArray, List.set_cons_zero, List.set_cons_succ]
            refine Reg.G_step (o := { dst := some 72, op := Op.call { callee := Callee.value (Operand.func 61), args := #[Operand.tmp 71], argTypes := #[80] }, type := 3, pos := "law.go:81", after := #[{ on := 0, ground := Ground.data }], guard := Option.none }) (by rfl) ?_ (fun K hK => ?_)
            · kernel_rfl
            go_simp
            refine (at_ w.heap.size a2 b e2 _ hHeld.1).mono ?_
            rintro e w' ⟨rfl, rfl⟩
            refine hK.out _ _ ?_ (fun hHeld => ?_)
            · exact hHeld
            clear hK K
            try simp only [Act.put, List.setIfInBounds_toArray, List.set_cons_zero, List.set_cons_succ]
            refine Reg.G_on (o := { dst := some 75, op := Op.binOp BinOp.neq 3 (Operand.tmp 72) (Operand.tmp 74) 3, type := 4, pos := "law.go:81", after := #[{ on := 1, ground := Ground.data }, { on := 3, ground := Ground.data }], guard := Option.none }) (v := ?_) (by rfl) ?_ (fun wS hSw => ?_) ?_
            rotate_left
            · kernel_rfl
            · (try dsimp only at hSw); go_simp; (try with_reducible rfl)
            try simp only [Act.put, List.setIfInBounds_toArray, List.set_cons_zero, List.set_cons_succ]
            refine Reg.G_on (o := { dst := some 76, op := Op.move (Operand.tmp 75), type := 4, pos := "law.go:81", after := #[{ on := 4, ground := Ground.data }, { on := 1, ground := Ground.chain }], guard := Option.none }) (v := ?_) (by rfl) ?_ (fun wS hSw => ?_) ?_
            rotate_left
            · kernel_rfl
            · (try dsimp only at hSw); go_simp; (try with_reducible rfl)
            try simp only [Act.put, List.setIfInBounds_toArray, List.set_cons_zero, List.set_cons_succ]
            refine Reg.G_on (o := { dst := some 77, op := Op.move (Operand.tmp 5), type := 80, pos := "law.go:81", after := #[{ on := 5, ground := Ground.guard }], guard := some (5, false) }) (v := ?_) (by rfl) ?_ (fun wS hSw => ?_) ?_
            rotate_left
            · kernel_rfl
            · (try dsimp only at hSw); go_simp; (try with_reducible rfl)
            try simp only [Act.put, List.setIfInBounds_toArray, List.set_cons_zero, List.set_cons_succ]
            refine Reg.G_on (o := { dst := some 79, op := Op.fieldAddr 92 (Operand.tmp 6) 1, type := 0, pos := "law.go:81", after := #[{ on := 5, ground := Ground.guard }], guard := some (5, false) }) (v := ?_) (by rfl) ?_ (fun wS hSw => ?_) ?_
            rotate_left
            · kernel_rfl
            · (try dsimp only at hSw); go_simp; (try with_reducible rfl)
            try simp only [Act.put, List.setIfInBounds_toArray, List.set_cons_zero, List.set_cons_succ]
            refine Reg.G_on (o := { dst := some 80, op := Op.load 73 (Operand.tmp 79), type := 73, pos := "law.go:81", after := #[{ on := 8, ground := Ground.data }, { on := 5, ground := Ground.guard }], guard := some (5, false) }) (v := ?_) (by rfl) ?_ (fun wS hSw => ?_) ?_
            rotate_left
            · kernel_rfl
            · (try dsimp only at hSw); go_simp; (try with_reducible rfl)
            try simp only [Act.put, List.setIfInBounds_toArray, List.set_cons_zero, List.set_cons_succ]
            refine Reg.G_step (o := { dst := some 78, op := Op.call { callee := Callee.value (Operand.func 62), args := #[Operand.tmp 77], argTypes := #[80] }, type := 73, pos := "law.go:81", after := #[{ on := 6, ground := Ground.data }, { on := 5, ground := Ground.chain }, { on := 5, ground := Ground.guard }], guard := some (5, false) }) (by rfl) ?_ (fun K hK => ?_)
            · kernel_rfl
            go_simp
            refine (err w.heap.size a2 b e2 _ hHeld.1).mono ?_
            rintro e w' ⟨rfl, rfl⟩
            refine hK.out _ _ ?_ (fun hHeld => ?_)
            · exact hHeld
            clear hK K
            try simp only [Act.put, List.setIfInBounds_toArray, List.set_cons_zero, List.set_cons_succ]
            refine Reg.G_on (o := { dst := some 81, op := Op.binOp BinOp.neq 73 (Operand.tmp 78) (Operand.tmp 80) 73, type := 4, pos := "law.go:81", after := #[{ on := 7, ground := Ground.data }, { on := 9, ground := Ground.data }, { on := 5, ground := Ground.guard }], guard := some (5, false) }) (v := ?_) (by rfl) ?_ (fun wS hSw => ?_) ?_
            rotate_left
            · kernel_rfl
            · (try dsimp only at hSw); go_simp; (try with_reducible rfl)
            try simp only [Act.put, List.setIfInBounds_toArray, List.set_cons_zero, List.set_cons_succ]
            refine Reg.G_on (o := { dst := some 82, op := Op.pick (Operand.tmp 76) (Operand.const (Value.bool true)) (Operand.tmp 81), type := 4, pos := "law.go:81", after := #[{ on := 5, ground := Ground.data }, { on := 10, ground := Ground.data }], guard := Option.none }) (v := ?_) (by rfl) ?_ (fun wS hSw => ?_) ?_
            rotate_left
            · kernel_rfl
            · (try dsimp only at hSw); go_simp; (try with_reducible rfl)
            try simp only [Act.put, List.setIfInBounds_toArray, List.set_cons_zero, List.set_cons_succ]
            refine Reg.G_on (o := { dst := some 83, op := Op.move (Operand.tmp 82), type := 4, pos := "law.go:81", after := #[{ on := 11, ground := Ground.data }, { on := 7, ground := Ground.chain }], guard := Option.none }) (v := ?_) (by rfl) ?_ (fun wS hSw => ?_) ?_
            rotate_left
            · kernel_rfl
            · (try dsimp only at hSw); go_simp; (try with_reducible rfl)
            try simp only [Act.put, List.setIfInBounds_toArray, List.set_cons_zero, List.set_cons_succ]
            refine Reg.G_on (o := { dst := some 84, op := Op.move (Operand.tmp 5), type := 80, pos := "law.go:81", after := #[{ on := 12, ground := Ground.guard }], guard := some (12, false) }) (v := ?_) (by rfl) ?_ (fun wS hSw => ?_) ?_
            rotate_left
            · kernel_rfl
            · (try dsimp only at hSw); go_simp; (try with_reducible rfl)
            try simp only [Act.put, List.setIfInBounds_toArray, List.set_cons_zero, List.set_cons_succ]
            refine Reg.G_on (o := { dst := some 86, op := Op.move (Operand.tmp 0), type := 9, pos := "law.go:81", after := #[{ on := 12, ground := Ground.guard }], guard := some (12, false) }) (v := ?_) (by rfl) ?_ (fun wS hSw => ?_) ?_
            rotate_left
            · kernel_rfl
            · (try dsimp only at hSw); go_simp; (try with_reducible rfl)
            try simp only [Act.put, List.setIfInBounds_toArray, List.set_cons_zero, List.set_cons_succ]
            refine Reg.G_on (o := { dst := some 87, op := Op.load 92 (Operand.tmp 6), type := 92, pos := "law.go:81", after := #[{ on := 12, ground := Ground.guard }], guard := some (12, false) }) (v := ?_) (by rfl) ?_ (fun wS hSw => ?_) ?_
            rotate_left
            · kernel_rfl
            · (try dsimp only at hSw); go_simp; (try with_reducible rfl)
            try simp only [Act.put, List.setIfInBounds_toArray, List.set_cons_zero, List.set_cons_succ]
            refine Reg.G_step (o := { dst := some 85, op := Op.call { callee := Callee.value (Operand.func 63), args := #[Operand.tmp 84], argTypes := #[80] }, type := 73, pos := "law.go:81", after := #[{ on := 13, ground := Ground.data }, { on := 12, ground := Ground.chain }, { on := 12, ground := Ground.guard }], guard := some (12, false) }) (by rfl) ?_ (fun K hK => ?_)
            · kernel_rfl
            go_simp
            refine (done w.heap.size a2 b e2 _ hHeld.1).mono ?_
            rintro e w' ⟨rfl, hb⟩
            refine hK.out _ _ ?_ (fun hHeld => ?_)
            · exact ⟨hHeld.1.below hb, argb hb hHeld.2.1, argb hb hHeld.2.2⟩
            clear hK K
            try simp only [Act.put, List.setIfInBounds_toArray, List.set_cons_zero, List.set_cons_succ]
            skip
            have hb1 := hb
            clear hb
            refine Reg.G_step (o := { dst := some 88, op := Op.call { callee := Callee.value (Operand.func 67), args := #[Operand.tmp 86, Operand.tmp 87], argTypes := #[9, 92] }, type := 73, pos := "law.go:81", after := #[{ on := 15, ground := Ground.data }, { on := 16, ground := Ground.data }, { on := 14, ground := Ground.chain }, { on := 12, ground := Ground.guard }], guard := some (12, false) }) (by rfl) ?_ (fun K hK => ?_)
            · kernel_rfl
            go_simp
            refine (rdone b a2 e2 _).mono ?_
            rintro e w' ⟨rfl, hb⟩
            refine hK.out _ _ ?_ (fun hHeld => ?_)
            · exact ⟨hHeld.1.below hb, argb hb hHeld.2.1, argb hb hHeld.2.2⟩
            clear hK K
            try simp only [Act.put, List.setIfInBounds_toArray, List.set_cons_zero, List.set_cons_succ]
            refine Reg.G_on (o := { dst := some 89, op := Op.binOp BinOp.neq 73 (Operand.tmp 85) (Operand.tmp 88) 73, type := 4, pos := "law.go:81", after := #[{ on := 14, ground := Ground.data }, { on := 17, ground := Ground.data }, { on := 12, ground := Ground.guard }], guard := some (12, false) }) (v := ?_) (by rfl) ?_ (fun wS hSw => ?_) ?_
            rotate_left
            · kernel_rfl
            · (try dsimp only at hSw); go_simp; (try with_reducible rfl)
            try simp only [Act.put, List.setIfInBounds_toArray, List.set_cons_zero, List.set_cons_succ]
            refine Reg.G_on (o := { dst := some 90, op := Op.pick (Operand.tmp 83) (Operand.const (Value.bool true)) (Operand.tmp 89), type := 4, pos := "law.go:81", after := #[{ on := 12, ground := Ground.data }, { on := 18, ground := Ground.data }], guard := Option.none }) (v := ?_) (by rfl) ?_ (fun wS hSw => ?_) ?_
            rotate_left
            · kernel_rfl
            · (try dsimp only at hSw); go_simp; (try with_reducible rfl)
            try simp only [Act.put, List.setIfInBounds_toArray, List.set_cons_zero, List.set_cons_succ]
            refine Reg.G_done ?_
            go_wp2
            have hb3 := (Below.refl W.heap.size W).drew.trans (bstep hb1 hb)
            have HB3 : Bo w w' w.heap.size r a2 b e2 := ⟨HB.cb.below hb3, HB.rc.below hb3, bstep HB.be hb3, HB.ab, HB.c0, HB.r0, HB.cr⟩
            go_roundw
            case rel => exact ⟨k + 1, a2, e2, by omega, by go_num, HB3⟩
            case measure => simp [intOf]; omega
        | false =>
          obtain ⟨sv, a2, e2, hr, hab2⟩ := ctake_ex b a e n HB.ab
          have hR := fun w => rtake2 b a e n HB.ab HZ.out w
          have hT := fun W h => take_at w.heap.size a b e n W h HB.ab HZ.out hr
          rw [hr] at hR
          clear hr
          go_wp2_with fail
          refine Reg.wp_plan (S := fun w' => w'.cell? ⟨r, 0, none⟩ = some (.int .i64 (a : Int)) ∧ w'.cell? ⟨r, 1, none⟩ = some (.int .i64 e) ∧ w'.cell? ⟨(ad.add (k * 2)).block, (ad.add (k * 2)).off + 1, none⟩ = some (.int .i64 n)) 14 (.fl 0 (.fl 1 (.fl 2 (.fl 3 (.fl 4 (.fl 5 (.fl 6 (.two 7 11 (.fl 8 (.fl 9 (.fl 10 (.one 11 (.fl 12 (.one 13 .done)))))) (.one 7 (.fl 8 (.fl 9 (.fl 10 (.fl 12 (.one 13 .done)))))))))))))) (by kernel_rfl) (by kernel_rfl) (by kernel_rfl) (by kernel_rfl) (fun _ _ _ d _ h => by cases d <;> exact h) ?_ (fun hHeld => ?_)
          · exact ⟨by simpa using t0, by simpa using t1, by simpa using c1⟩
          refine Reg.G_on (o := { dst := some 51, op := Op.move (Operand.tmp 0), type := 9, pos := "law.go:75", after := #[], guard := Option.none }) (v := ?_) (by rfl) ?_ (fun wS hSw => ?_) ?_
          rotate_left
          · kernel_rfl
          · (try dsimp only at hSw); go_simp; (try with_reducible rfl)
          try simp only [Act.put, List.setIfInBounds_toArray, List.set_cons_zero, List.set_cons_succ]
          refine Reg.G_on (o := { dst := some 52, op := Op.load 92 (Operand.tmp 6), type := 92, pos := "law.go:75", after := #[], guard := Option.none }) (v := ?_) (by rfl) ?_ (fun wS hSw => ?_) ?_
          rotate_left
          · kernel_rfl
          · (try dsimp only at hSw); go_simp; (try with_reducible rfl)
          try simp only [Act.put, List.setIfInBounds_toArray, List.set_cons_zero, List.set_cons_succ]
          refine Reg.G_on (o := { dst := some 53, op := Op.move (Operand.tmp 1), type := 89, pos := "law.go:75", after := #[], guard := Option.none }) (v := ?_) (by rfl) ?_ (fun wS hSw => ?_) ?_
          rotate_left
          · kernel_rfl
          · (try dsimp only at hSw); go_simp; (try with_reducible rfl)
          try simp only [Act.put, List.setIfInBounds_toArray, List.set_cons_zero, List.set_cons_succ]
          refine Reg.G_on (o := { dst := some 54, op := Op.move (Operand.tmp 7), type := 3, pos := "law.go:75", after := #[], guard := Option.none }) (v := ?_) (by rfl) ?_ (fun wS hSw => ?_) ?_
          rotate_left
          · kernel_rfl
          · (try dsimp only at hSw); go_simp; (try with_reducible rfl)
          try simp only [Act.put, List.setIfInBounds_toArray, List.set_cons_zero, List.set_cons_succ]
          refine Reg.G_on (o := { dst := some 55, op := Op.indexAddr 89 (Operand.tmp 53) (Operand.tmp 54), type := 0, pos := "law.go:75", after := #[{ on := 2, ground := Ground.data }, { on := 3, ground := Ground.data }], guard := Option.none }) (v := ?_) (by rfl) ?_ (fun wS hSw => ?_) ?_
          rotate_left
          · kernel_rfl
          · (try dsimp only at hSw); go_simp; (try with_reducible rfl)
          try simp only [Act.put, List.setIfInBounds_toArray, List.set_cons_zero, List.set_cons_succ]
          refine Reg.G_on (o := { dst := some 56, op := Op.fieldAddr 94 (Operand.tmp 55) 1, type := 0, pos := "law.go:75", after := #[{ on := 4, ground := Ground.data }], guard := Option.none }) (v := ?_) (by rfl) ?_ (fun wS hSw => ?_) ?_
          rotate_left
          · kernel_rfl
          · (try dsimp only at hSw); go_simp; (try with_reducible rfl)
          try simp only [Act.put, List.setIfInBounds_toArray, List.set_cons_zero, List.set_cons_succ]
          refine Reg.G_on (o := { dst := some 57, op := Op.load 3 (Operand.tmp 56), type := 3, pos := "law.go:75", after := #[{ on := 5, ground := Ground.data }], guard := Option.none }) (v := ?_) (by rfl) ?_ (fun wS hSw => ?_) ?_
          rotate_left
          · kernel_rfl
          · (try dsimp only at hSw); go_simp; (try with_reducible rfl)
          try simp only [Act.put, List.setIfInBounds_toArray, List.set_cons_zero, List.set_cons_succ]
          refine Reg.G_two ?_ ?_
          · refine Reg.G_step (o := { dst := some 58, op := Op.call { callee := Callee.value (Operand.func 66), args := #[Operand.tmp 51, Operand.tmp 52, Operand.tmp 57], argTypes := #[9, 92, 3] }, type := 97, pos := "law.go:75", after := #[{ on := 0, ground := Ground.data }, { on := 1, ground := Ground.data }, { on := 6, ground := Ground.data }], guard := Option.none }) (by rfl) ?_ (fun K hK => ?_)
            · kernel_rfl
            go_simp
            refine (hR _).mono ?_
            rintro e w' ⟨rfl, hb⟩
            refine hK.out _ _ ?_ (fun hHeld => ?_)
            · exact ⟨argb hb hHeld.1, argb hb hHeld.2.1, argb hb hHeld.2.2⟩
            clear hK K
            try simp only [Act.put, List.setIfInBounds_toArray, List.set_cons_zero, List.set_cons_succ]
            have hH1 := hHeld
            refine Reg.G_on (o := { dst := some 50, op := Op.move (Operand.tmp 58), type := 97, pos := "law.go:75", after := #[{ on := 7, ground := Ground.data }], guard := Option.none }) (v := ?_) (by rfl) ?_ (fun wS hSw => ?_) ?_
            rotate_left
            · kernel_rfl
            · (try dsimp only at hSw); go_simp; (try with_reducible rfl)
            try simp only [Act.put, List.setIfInBounds_toArray, List.set_cons_zero, List.set_cons_succ]
            refine Reg.G_on (o := { dst := some 59, op := Op.extract (Operand.tmp 50) 0, type := 22, pos := "law.go:75", after := #[{ on := 8, ground := Ground.data }], guard := Option.none }) (v := ?_) (by rfl) ?_ (fun wS hSw => ?_) ?_
            rotate_left
            · kernel_rfl
            · (try dsimp only at hSw); go_simp; (try with_reducible rfl)
            try simp only [Act.put, List.setIfInBounds_toArray, List.set_cons_zero, List.set_cons_succ]
            refine Reg.G_on (o := { dst := some 60, op := Op.extract (Operand.tmp 50) 1, type := 92, pos := "law.go:75", after := #[{ on := 8, ground := Ground.data }, { on := 12, ground := Ground.gcOnly Departure.lateStores }], guard := Option.none }) (v := ?_) (by rfl) ?_ (fun wS hSw => ?_) ?_
            rotate_left
            · kernel_rfl
            · (try dsimp only at hSw); go_simp; (try with_reducible rfl)
            try simp only [Act.put, List.setIfInBounds_toArray, List.set_cons_zero, List.set_cons_succ]
            refine Reg.G_step (o := { dst := some 11, op := Op.alloc 92, type := 0, pos := "law.go:75", after := #[], guard := Option.none }) (by rfl) ?_ (fun K hK => ?_)
            · kernel_rfl
            go_simp
            refine hK.out _ _ ?_ (fun hHeld => ?_)
            · exact ⟨cnew hHeld.1, cnew hHeld.2.1, cnew hHeld.2.2⟩
            clear hK K
            try simp only [Act.put, List.setIfInBounds_toArray, List.set_cons_zero, List.set_cons_succ]
            refine Reg.G_on (o := { dst := some 10, op := Op.assign (Operand.tmp 59), type := 22, pos := "law.go:75", after := #[{ on := 9, ground := Ground.data }, { on := 7, ground := Ground.chain }, { on := 0, ground := Ground.phase }, { on := 1, ground := Ground.phase }, { on := 2, ground := Ground.phase }, { on := 3, ground := Ground.phase }, { on := 4, ground := Ground.phase }, { on := 5, ground := Ground.phase }, { on := 6, ground := Ground.phase }, { on := 7, ground := Ground.phase }, { on := 8, ground := Ground.phase }, { on := 9, ground := Ground.phase }, { on := 10, ground := Ground.textOnly Departure.lateStores }, { on := 11, ground := Ground.phase }], guard := Option.none }) (v := ?_) (by rfl) ?_ (fun wS hSw => ?_) ?_
            rotate_left
            · kernel_rfl
            · (try dsimp only at hSw); go_simp; (try with_reducible rfl)
            try simp only [Act.put, List.setIfInBounds_toArray, List.set_cons_zero, List.set_cons_succ]
            refine Reg.G_step (o := { dst := Option.none, op := Op.store 92 (Operand.tmp 11) (Operand.tmp 60), type := 0, pos := "law.go:75", after := #[{ on := 11, ground := Ground.data }, { on := 10, ground := Ground.data }, { on := 12, ground := Ground.chain }, { on := 0, ground := Ground.phase }, { on := 1, ground := Ground.phase }, { on := 2, ground := Ground.phase }, { on := 3, ground := Ground.phase }, { on := 4, ground := Ground.phase }, { on := 5, ground := Ground.phase }, { on := 6, ground := Ground.phase }, { on := 7, ground := Ground.phase }, { on := 8, ground := Ground.phase }, { on := 9, ground := Ground.phase }, { on := 10, ground := Ground.phase }, { on := 11, ground := Ground.phase }, { on := 12, ground := Ground.phase }], guard := Option.none }) (by rfl) ?_ (fun K hK => ?_)
            · kernel_rfl
            go_simp
            refine hK.out _ _ ?_ (fun hHeld => ?_)
            · exact ⟨cnew hH1.1, cnew hH1.2.1, cnew hH1.2.2⟩
            clear hK K
            try simp only [Act.put, List.setIfInBounds_toArray, List.set_cons_zero, List.set_cons_succ]
            refine Reg.G_done ?_
            clear hH1 hHeld
            obtain ⟨wz, hwz⟩ : ∃ wz, wz = w'.alloc (.cells #[.int .i64 (a2 : Int), .int .i64 e2] 92) := ⟨_, rfl⟩
            have bz : Below wr.heap.size wr wz := by rw [hwz]; exact ((Below.refl wr.heap.size wr).drew.trans hb).alloc hb.size _
            have hz2 : RC wz w'.heap.size a2 e2 := by rw [hwz]; exact heap_alloc_new _ _
            have hzr : w'.heap.size ≠ r := by have := hb.size; simp at this; omega
            rw [← hwz]
            clear hwz hb t0 t1 g0 g1
            generalize w'.heap.size = z at *
            have cz := HB.cb.below bz
            have rz := HB.rc.below bz
            have dz := argb bz c1
            have bbz := bstep HB.be bz
            obtain ⟨⟨s0, s1⟩, -⟩ := two_ hz2
            obtain ⟨⟨t0, t1⟩, u0, u1⟩ := two_ rz
            have rW := RC.set (w := wz) (a' := a2) (e' := e2) rz
            have mW := set2_mod wz r a2 e2
            obtain ⟨W1, hW⟩ : ∃ W1, W1 = set2 wz r a2 e2 := ⟨_, rfl⟩
            rw [← hW] at rW mW
            have cW := cz.far mW (fun h => HB.cr h)
            have bW := mW.below bbz bbz.size (fun k hk => by rw [show k = r from hk]; exact HB.r0)
            have dW := argc mW (fun k (hk : At r k) => show w.heap.size ≤ k by rw [show k = r from hk]; exact HB.r0) hal dz
            unfold set2 at hW
            have hT1 := hT W1 cW
            have hne1 : (ad.add (k * 2)).block ≠ r := by have := HB.r0; omega
            have hne2 : r ≠ (ad.add (k * 2)).block := fun h => hne1 h.symm
            clear hT c1 bz bbz mW rz cz hR dW
            go_wp2_with fail
            rw [← hW]
            clear hW s0 s1 t0 t1 u0 u1 dz hz2 cW hne1 hne2
            refine hT1.mono ?_
            rintro e' W ⟨rfl, hc, mc⟩
            have hra : ¬ At w.heap.size r := fun h => HB.cr (show r = w.heap.size from h).symm
            have HB2 : Bo w W w.heap.size r a2 b e2 := ⟨hc, rW.far mc hra, mc.below bW bW.size (fun k hk => by rw [show k = w.heap.size from hk]; exact Nat.le_refl _), hab2, HB.c0, HB.r0, HB.cr⟩
            clear HB hT1 hc mc bW rW hab2
            have HB := HB2
            clear HB2
            obtain ⟨⟨t0, t1⟩, -⟩ := two_ HB.rc
            have hrl := blk_lt HB.rc
            go_wp2_with fail
            refine Reg.wp_plan (S := fun w' => CB w' w.heap.size a2 b e2 ∧ w'.cell? ⟨r, 0, none⟩ = some (.int .i64 (a2 : Int)) ∧ w'.cell? ⟨r, 1, none⟩ = some (.int .i64 e2)) 20 (.fl 0 (.fl 2 (.fl 3 (.one 1 (.fl 4 (.fl 5 (.fl 6 (.fl 8 (.fl 9 (.one 7 (.fl 10 (.fl 11 (.fl 12 (.fl 13 (.fl 15 (.fl 16 (.one 14 (.one 17 (.fl 18 (.fl 19 .done)))))))))))))))))))) (by kernel_rfl) (by kernel_rfl) (by kernel_rfl) (by kernel_rfl) (fun _ _ _ d _ h => by cases d <;> exact h) ?_ (fun hHeld => ?_)
            · exact ⟨HB.cb, by simpa using t0, by simpa using t1⟩
            refine Reg.G_on (o := { dst := some 71, op := Op.move (Operand.tmp 5), type := 80, pos := "law.go:81", after := #[], guard := Option.none }) (v := ?_) (by rfl) ?_ (fun wS hSw => ?_) ?_
            rotate_left
            · kernel_rfl
            · (try dsimp only at hSw); go_simp; (try with_reducible rfl)
            try simp only [Act.put, List.setIfInBounds_toArray, List.set_cons_zero, List.set_cons_succ]
            refine Reg.G_on (o := { dst := some 73, op := Op.fieldAddr 92 (Operand.tmp 6) 0, type := 0, pos := "law.go:81", after := #[], guard := Option.none }) (v := ?_) (by rfl) ?_ (fun wS hSw => ?_) ?_
            rotate_left
            · kernel_rfl
            · (try dsimp only at hSw); go_simp; (try with_reducible rfl)
            try simp only [Act.put, List.setIfInBounds_toArray, List.set_cons_zero, List.set_cons_succ]
            refine Reg.G_on (o := { dst := some 74, op := Op.load 3 (Operand.tmp 73), type := 3, pos := "law.go:81", after := #[{ on := 2, ground := Ground.data }], guard := Option.none }) (v := ?_) (by rfl) ?_ (fun wS hSw => ?_) ?_
            rotate_left
            · kernel_rfl
            · (try dsimp only at hSw); go_simp; (try with_reducible rfl)
            try simp only [Act.put, List.setIfInBounds_toArray, List.set_cons_zero, List.set_cons_succ]
            refine Reg.G_step (o := { dst := some 72, op := Op.call { callee := Callee.value (Operand.func 61), args := #[Operand.tmp 71], argTypes := #[80] }, type := 3, pos := "law.go:81", after := #[{ on := 0, ground := Ground.data }], guard := Option.none }) (by rfl) ?_ (fun K hK => ?_)
            · kernel_rfl
            go_simp
            refine (at_ w.heap.size a2 b e2 _ hHeld.1).mono ?_
            rintro e w' ⟨rfl, rfl⟩
            refine hK.out _ _ ?_ (fun hHeld => ?_)
            · exact hHeld
            clear hK K
            try simp only [Act.put, List.setIfInBounds_toArray, List.set_cons_zero, List.set_cons_succ]
            refine Reg.G_on (o := { dst := some 75, op := Op.binOp BinOp.neq 3 (Operand.tmp 72) (Operand.tmp 74) 3, type := 4, pos := "law.go:81", after := #[{ on := 1, ground := Ground.data }, { on := 3, ground := Ground.data }], guard := Option.none }) (v := ?_) (by rfl) ?_ (fun wS hSw => ?_) ?_
            rotate_left
            · kernel_rfl
            · (try dsimp only at hSw); go_simp; (try with_reducible rfl)
            try simp only [Act.put, List.setIfInBounds_toArray, List.set_cons_zero, List.set_cons_succ]
            refine Reg.G_on (o := { dst := some 76, op := Op.move (Operand.tmp 75), type := 4, pos := "law.go:81", after := #[{ on := 4, ground := Ground.data }, { on := 1, ground := Ground.chain }], guard := Option.none }) (v := ?_) (by rfl) ?_ (fun wS hSw => ?_) ?_
            rotate_left
            · kernel_rfl
            · (try dsimp only at hSw); go_simp; (try with_reducible rfl)
            try simp only [Act.put, List.setIfInBounds_toArray, List.set_cons_zero, List.set_cons_succ]
            refine Reg.G_on (o := { dst := some 77, op := Op.move (Operand.tmp 5), type := 80, pos := "law.go:81", after := #[{ on := 5, ground := Ground.guard }], guard := some (5, false) }) (v := ?_) (by rfl) ?_ (fun wS hSw => ?_) ?_
            rotate_left
            · kernel_rfl
            · (try dsimp only at hSw); go_simp; (try with_reducible rfl)
            try simp only [Act.put, List.setIfInBounds_toArray, List.set_cons_zero, List.set_cons_succ]
            refine Reg.G_on (o := { dst := some 79, op := Op.fieldAddr 92 (Operand.tmp 6) 1, type := 0, pos := "law.go:81", after := #[{ on := 5, ground := Ground.guard }], guard := some (5, false) }) (v := ?_) (by rfl) ?_ (fun wS hSw => ?_) ?_
            rotate_left
            · kernel_rfl
            · (try dsimp only at hSw); go_simp; (try with_reducible rfl)
            try simp only [Act.put, List.setIfInBounds_toArray, List.set_cons_zero, List.set_cons_succ]
            refine Reg.G_on (o := { dst := some 80, op := Op.load 73 (Operand.tmp 79), type := 73, pos := "law.go:81", after := #[{ on := 8, ground := Ground.data }, { on := 5, ground := Ground.guard }], guard := some (5, false) }) (v := ?_) (by rfl) ?_ (fun wS hSw => ?_) ?_
            rotate_left
            · kernel_rfl
            · (try dsimp only at hSw); go_simp; (try with_reducible rfl)
            try simp only [Act.put, List.setIfInBounds_toArray, List.set_cons_zero, List.set_cons_succ]
            refine Reg.G_step (o := { dst := some 78, op := Op.call { callee := Callee.value (Operand.func 62), args := #[Operand.tmp 77], argTypes := #[80] }, type := 73, pos := "law.go:81", after := #[{ on := 6, ground := Ground.data }, { on := 5, ground := Ground.chain }, { on := 5, ground := Ground.guard }], guard := some (5, false) }) (by rfl) ?_ (fun K hK => ?_)
            · kernel_rfl
            go_simp
            refine (err w.heap.size a2 b e2 _ hHeld.1).mono ?_
            rintro e w' ⟨rfl, rfl⟩
            refine hK.out _ _ ?_ (fun hHeld => ?_)
            · exact hHeld
            clear hK K
            try simp only [Act.put, List.setIfInBounds_toArray, List.set_cons_zero, List.set_cons_succ]
            refine Reg.G_on (o := { dst := some 81, op := Op.binOp BinOp.neq 73 (Operand.tmp 78) (Operand.tmp 80) 73, type := 4, pos := "law.go:81", after := #[{ on := 7, ground := Ground.data }, { on := 9, ground := Ground.data }, { on := 5, ground := Ground.guard }], guard := some (5, false) }) (v := ?_) (by rfl) ?_ (fun wS hSw => ?_) ?_
            rotate_left
            · kernel_rfl
            · (try dsimp only at hSw); go_simp; (try with_reducible rfl)
            try simp only [Act.put, List.setIfInBounds_toArray, List.set_cons_zero, List.set_cons_succ]
            refine Reg.G_on (o := { dst := some 82, op := Op.pick (Operand.tmp 76) (Operand.const (Value.bool true)) (Operand.tmp 81), type := 4, pos := "law.go:81", after := #[{ on := 5, ground := Ground.data }, { on := 10, ground := Ground.data }], guard := Option.none }) (v := ?_) (by rfl) ?_ (fun wS hSw => ?_) ?_
            rotate_left
            · kernel_rfl
            · (try dsimp only at hSw); go_simp; (try with_reducible rfl)
            try simp only [Act.put, List.setIfInBounds_toArray, List.set_cons_zero, List.set_cons_succ]
            refine Reg.G_on (o := { dst := some 83, op := Op.move (Operand.tmp 82), type := 4, pos := "law.go:81", after := #[{ on := 11, ground := Ground.data }, { on := 7, ground := Ground.chain }], guard := Option.none }) (v := ?_) (by rfl) ?_ (fun wS hSw => ?_) ?_
            rotate_left
            · kernel_rfl
            · (try dsimp only at hSw); go_simp; (try with_reducible rfl)
            try simp only [Act.put, List.setIfInBounds_toArray, List.set_cons_zero, List.set_cons_succ]
            refine Reg.G_on (o := { dst := some 84, op := Op.move (Operand.tmp 5), type := 80, pos := "law.go:81", after := #[{ on := 12, ground := Ground.guard }], guard := some (12, false) }) (v := ?_) (by rfl) ?_ (fun wS hSw => ?_) ?_
            rotate_left
            · kernel_rfl
            · (try dsimp only at hSw); go_simp; (try with_reducible rfl)
            try simp only [Act.put, List.setIfInBounds_toArray, List.set_cons_zero, List.set_cons_succ]
            refine Reg.G_on (o := { dst := some 86, op := Op.move (Operand.tmp 0), type := 9, pos := "law.go:81", after := #[{ on := 12, ground := Ground.guard }], guard := some (12, false) }) (v := ?_) (by rfl) ?_ (fun wS hSw => ?_) ?_
            rotate_left
            · kernel_rfl
            · (try dsimp only at hSw); go_simp; (try with_reducible rfl)
            try simp only [Act.put, List.setIfInBounds_toArray, List.set_cons_zero, List.set_cons_succ]
            refine Reg.G_on (o := { dst := some 87, op := Op.load 92 (Operand.tmp 6), type := 92, pos := "law.go:81", after := #[{ on := 12, ground := Ground.guard }], guard := some (12, false) }) (v := ?_) (by rfl) ?_ (fun wS hSw => ?_) ?_
            rotate_left
            · kernel_rfl
            · (try dsimp only at hSw); go_simp; (try with_reducible rfl)
            try simp only [Act.put, List.setIfInBounds_toArray, List.set_cons_zero, List.set_cons_succ]
            refine Reg.G_step (o := { dst := some 85, op := Op.call { callee := Callee.value (Operand.func 63), args := #[Operand.tmp 84], argTypes := #[80] }, type := 73, pos := "law.go:81", after := #[{ on := 13, ground := Ground.data }, { on := 12, ground := Ground.chain }, { on := 12, ground := Ground.guard }], guard := some (12, false) }) (by rfl) ?_ (fun K hK => ?_)
            · kernel_rfl
            go_simp
            refine (done w.heap.size a2 b e2 _ hHeld.1).mono ?_
            rintro e w' ⟨rfl, hb⟩
            refine hK.out _ _ ?_ (fun hHeld => ?_)
            · exact ⟨hHeld.1.below hb, argb hb hHeld.2.1, argb hb hHeld.2.2⟩
            clear hK K
            try simp only [Act.put, List.setIfInBounds_toArray, List.set_cons_zero, List.set_cons_succ]
            skip
            have hb1 := hb
            clear hb
            refine Reg.G_step (o := { dst := some 88, op := Op.call { callee := Callee.value (Operand.func 67), args := #[Operand.tmp 86, Operand.tmp 87], argTypes := #[9, 92] }, type := 73, pos := "law.go:81", after := #[{ on := 15, ground := Ground.data }, { on := 16, ground := Ground.data }, { on := 14, ground := Ground.chain }, { on := 12, ground := Ground.guard }], guard := some (12, false) }) (by rfl) ?_ (fun K hK => ?_)
            · kernel_rfl
            go_simp
            refine (rdone b a2 e2 _).mono ?_
            rintro e w' ⟨rfl, hb⟩
            refine hK.out _ _ ?_ (fun hHeld => ?_)
            · exact ⟨hHeld.1.below hb, argb hb hHeld.2.1, argb hb hHeld.2.2⟩
            clear hK K
            try simp only [Act.put, List.setIfInBounds_toArray, List.set_cons_zero, List.set_cons_succ]
            refine Reg.G_on (o := { dst := some 89, op := Op.binOp BinOp.neq 73 (Operand.tmp 85) (Operand.tmp 88) 73, type := 4, pos := "law.go:81", after := #[{ on := 14, ground := Ground.data }, { on := 17, ground := Ground.data }, { on := 12, ground := Ground.guard }], guard := some (12, false) }) (v := ?_) (by rfl) ?_ (fun wS hSw => ?_) ?_
            rotate_left
            · kernel_rfl
            · (try dsimp only at hSw); go_simp; (try with_reducible rfl)
            try simp only [Act.put, List.setIfInBounds_toArray, List.set_cons_zero, List.set_cons_succ]
            refine Reg.G_on (o := { dst := some 90, op := Op.pick (Operand.tmp 83) (Operand.const (Value.bool true)) (Operand.tmp 89), type := 4, pos := "law.go:81", after := #[{ on := 12, ground := Ground.data }, { on := 18, ground := Ground.data }], guard := Option.none }) (v := ?_) (by rfl) ?_ (fun wS hSw => ?_) ?_
            rotate_left
            · kernel_rfl
            · (try dsimp only at hSw); go_simp; (try with_reducible rfl)
            try simp only [Act.put, List.setIfInBounds_toArray, List.set_cons_zero, List.set_cons_succ]
            refine Reg.G_done ?_
            go_wp2
            have hb3 := (Below.refl W.heap.size W).drew.trans (bstep hb1 hb)
            have HB3 : Bo w w' w.heap.size r a2 b e2 := ⟨HB.cb.below hb3, HB.rc.below hb3, bstep HB.be hb3, HB.ab, HB.c0, HB.r0, HB.cr⟩
            go_roundw
            case rel => exact ⟨k + 1, a2, e2, by omega, by go_num, HB3⟩
            case measure => simp [intOf]; omega

          · refine Reg.G_step (o := { dst := some 11, op := Op.alloc 92, type := 0, pos := "law.go:75", after := #[], guard := Option.none }) (by rfl) ?_ (fun K hK => ?_)
            · kernel_rfl
            go_simp
            refine hK.out _ _ ?_ (fun hHeld => ?_)
            · exact ⟨cnew hHeld.1, cnew hHeld.2.1, cnew hHeld.2.2⟩
            clear hK K
            try simp only [Act.put, List.setIfInBounds_toArray, List.set_cons_zero, List.set_cons_succ]
            skip
            refine Reg.G_step (o := { dst := some 58, op := Op.call { callee := Callee.value (Operand.func 66), args := #[Operand.tmp 51, Operand.tmp 52, Operand.tmp 57], argTypes := #[9, 92, 3] }, type := 97, pos := "law.go:75", after := #[{ on := 0, ground := Ground.data }, { on := 1, ground := Ground.data }, { on := 6, ground := Ground.data }], guard := Option.none }) (by rfl) ?_ (fun K hK => ?_)
            · kernel_rfl
            go_simp
            refine (hR _).mono ?_
            rintro e w' ⟨rfl, hb⟩
            refine hK.out _ _ ?_ (fun hHeld => ?_)
            · exact ⟨argb hb hHeld.1, argb hb hHeld.2.1, argb hb hHeld.2.2⟩
            clear hK K
            try simp only [Act.put, List.setIfInBounds_toArray, List.set_cons_zero, List.set_cons_succ]
            refine Reg.G_on (o := { dst := some 50, op := Op.move (Operand.tmp 58), type := 97, pos := "law.go:75", after := #[{ on := 7, ground := Ground.data }], guard := Option.none }) (v := ?_) (by rfl) ?_ (fun wS hSw => ?_) ?_
            rotate_left
            · kernel_rfl
            · (try dsimp only at hSw); go_simp; (try with_reducible rfl)
            try simp only [Act.put, List.setIfInBounds_toArray, List.set_cons_zero, List.set_cons_succ]
            refine Reg.G_on (o := { dst := some 59, op := Op.extract (Operand.tmp 50) 0, type := 22, pos := "law.go:75", after := #[{ on := 8, ground := Ground.data }], guard := Option.none }) (v := ?_) (by rfl) ?_ (fun wS hSw => ?_) ?_
            rotate_left
            · kernel_rfl
            · (try dsimp only at hSw); go_simp; (try with_reducible rfl)
            try simp only [Act.put, List.setIfInBounds_toArray, List.set_cons_zero, List.set_cons_succ]
            refine Reg.G_on (o := { dst := some 60, op := Op.extract (Operand.tmp 50) 1, type := 92, pos := "law.go:75", after := #[{ on := 8, ground := Ground.data }, { on := 12, ground := Ground.gcOnly Departure.lateStores }], guard := Option.none }) (v := ?_) (by rfl) ?_ (fun wS hSw => ?_) ?_
            rotate_left
            · kernel_rfl
            · (try dsimp only at hSw); go_simp; (try with_reducible rfl)
            try simp only [Act.put, List.setIfInBounds_toArray, List.set_cons_zero, List.set_cons_succ]
            refine Reg.G_on (o := { dst := some 10, op := Op.assign (Operand.tmp 59), type := 22, pos := "law.go:75", after := #[{ on := 9, ground := Ground.data }, { on := 7, ground := Ground.chain }, { on := 0, ground := Ground.phase }, { on := 1, ground := Ground.phase }, { on := 2, ground := Ground.phase }, { on := 3, ground := Ground.phase }, { on := 4, ground := Ground.phase }, { on := 5, ground := Ground.phase }, { on := 6, ground := Ground.phase }, { on := 7, ground := Ground.phase }, { on := 8, ground := Ground.phase }, { on := 9, ground := Ground.phase }, { on := 10, ground := Ground.textOnly Departure.lateStores }, { on := 11, ground := Ground.phase }], guard := Option.none }) (v := ?_) (by rfl) ?_ (fun wS hSw => ?_) ?_
            rotate_left
            · kernel_rfl
            · (try dsimp only at hSw); go_simp; (try with_reducible rfl)
            try simp only [Act.put, List.setIfInBounds_toArray, List.set_cons_zero, List.set_cons_succ]
            have hbs := hb.size
            simp at hbs
            have z8 : RC w' wr.heap.size 0 0 := (hb.block wr.heap.size (by simp)).trans (heap_alloc_new wr _)
            have hzr : wr.heap.size ≠ r := by omega
            have hws := HB.be.size
            have hza : wr.heap.size ≠ (ad.add (k * 2)).block := by omega
            obtain ⟨⟨z0, z1⟩, y0, y1⟩ := two_ z8
            refine Reg.G_step (o := { dst := Option.none, op := Op.store 92 (Operand.tmp 11) (Operand.tmp 60), type := 0, pos := "law.go:75", after := #[{ on := 11, ground := Ground.data }, { on := 10, ground := Ground.data }, { on := 12, ground := Ground.chain }, { on := 0, ground := Ground.phase }, { on := 1, ground := Ground.phase }, { on := 2, ground := Ground.phase }, { on := 3, ground := Ground.phase }, { on := 4, ground := Ground.phase }, { on := 5, ground := Ground.phase }, { on := 6, ground := Ground.phase }, { on := 7, ground := Ground.phase }, { on := 8, ground := Ground.phase }, { on := 9, ground := Ground.phase }, { on := 10, ground := Ground.phase }, { on := 11, ground := Ground.phase }, { on := 12, ground := Ground.phase }], guard := Option.none }) (by rfl) ?_ (fun K hK => ?_)
            · kernel_rfl
            go_simp
            refine hK.out _ _ ?_ (fun hHeld => ?_)
            · exact ⟨cfar (cfar hHeld.1 hzr) hzr, cfar (cfar hHeld.2.1 hzr) hzr, cfar (cfar hHeld.2.2 hza) hza⟩
            clear hK K
            try simp only [Act.put, List.setIfInBounds_toArray, List.set_cons_zero, List.set_cons_succ]
            refine Reg.G_done ?_
            obtain ⟨wz, hwz⟩ : ∃ wz, wz = set2 w' wr.heap.size a2 e2 := ⟨_, rfl⟩
            have bz : Below wr.heap.size wr wz := by
              rw [hwz]
              exact ((((Below.refl wr.heap.size wr).alloc (Nat.le_refl _) _).drew.trans (hb.mono (by simp))).setCell (Nat.le_refl _) _).setCell (Nat.le_refl _) _
            have hz2 : RC wz wr.heap.size a2 e2 := by rw [hwz]; exact z8.set
            unfold set2 at hwz
            rw [← hwz]
            clear hwz hb hbs t0 t1 g0 g1 z8 z0 z1 y0 y1 hHeld hza
            obtain ⟨z, hz⟩ : ∃ z, z = wr.heap.size := ⟨_, rfl⟩
            rw [← hz] at hz2 hzr ⊢
            clear hz hws
            have cz := HB.cb.below bz
            have rz := HB.rc.below bz
            have dz := argb bz c1
            have bbz := bstep HB.be bz
            obtain ⟨⟨s0, s1⟩, -⟩ := two_ hz2
            obtain ⟨⟨t0, t1⟩, u0, u1⟩ := two_ rz
            have rW := RC.set (w := wz) (a' := a2) (e' := e2) rz
            have mW := set2_mod wz r a2 e2
            obtain ⟨W1, hW⟩ : ∃ W1, W1 = set2 wz r a2 e2 := ⟨_, rfl⟩
            rw [← hW] at rW mW
            have cW := cz.far mW (fun h => HB.cr h)
            have bW := mW.below bbz bbz.size (fun k hk => by rw [show k = r from hk]; exact HB.r0)
            have dW := argc mW (fun k (hk : At r k) => show w.heap.size ≤ k by rw [show k = r from hk]; exact HB.r0) hal dz
            unfold set2 at hW
            have hT1 := hT W1 cW
            have hne1 : (ad.add (k * 2)).block ≠ r := by have := HB.r0; omega
            have hne2 : r ≠ (ad.add (k * 2)).block := fun h => hne1 h.symm
            clear hT c1 bz bbz mW rz cz hR dW
            go_wp2_with fail
            rw [← hW]
            clear hW s0 s1 t0 t1 u0 u1 dz hz2 cW hne1 hne2
            refine hT1.mono ?_
            rintro e' W ⟨rfl, hc, mc⟩
            have hra : ¬ At w.heap.size r := fun h => HB.cr (show r = w.heap.size from h).symm
            have HB2 : Bo w W w.heap.size r a2 b e2 := ⟨hc, rW.far mc hra, mc.below bW bW.size (fun k hk => by rw [show k = w.heap.size from hk]; exact Nat.le_refl _), hab2, HB.c0, HB.r0, HB.cr⟩
            clear HB hT1 hc mc bW rW hab2
            have HB := HB2
            clear HB2
            obtain ⟨⟨t0, t1⟩, -⟩ := two_ HB.rc
            have hrl := blk_lt HB.rc
            go_wp2_with fail
            refine Reg.wp_plan (S := fun w' => CB w' w.heap.size a2 b e2 ∧ w'.cell? ⟨r, 0, none⟩ = some (.int .i64 (a2 : Int)) ∧ w'.cell? ⟨r, 1, none⟩ = some (.int .i64 e2)) 20 (.fl 0 (.fl 2 (.fl 3 (.one 1 (.fl 4 (.fl 5 (.fl 6 (.fl 8 (.fl 9 (.one 7 (.fl 10 (.fl 11 (.fl 12 (.fl 13 (.fl 15 (.fl 16 (.one 14 (.one 17 (.fl 18 (.fl 19 .done)))))))))))))))))))) (by kernel_rfl) (by kernel_rfl) (by kernel_rfl) (by kernel_rfl) (fun _ _ _ d _ h => by cases d <;> exact h) ?_ (fun hHeld => ?_)
            · exact ⟨HB.cb, by simpa using t0, by simpa using t1⟩
            refine Reg.G_on (o := { dst := some 71, op := Op.move (Operand.tmp 5), type := 80, pos := "law.go:81", after := #[], guard := Option.none }) (v := ?_) (by rfl) ?_ (fun wS hSw => ?_) ?_
            rotate_left
            · kernel_rfl
            · (try dsimp only at hSw); go_simp; (try with_reducible rfl)
            try simp only [Act.put, List.setIfInBounds_toArray, List.set_cons_zero, List.set_cons_succ]
            refine Reg.G_on (o := { dst := some 73, op := Op.fieldAddr 92 (Operand.tmp 6) 0, type := 0, pos := "law.go:81", after := #[], guard := Option.none }) (v := ?_) (by rfl) ?_ (fun wS hSw => ?_) ?_
            rotate_left
            · kernel_rfl
            · (try dsimp only at hSw); go_simp; (try with_reducible rfl)
            try simp only [Act.put, List.setIfInBounds_toArray, List.set_cons_zero, List.set_cons_succ]
            refine Reg.G_on (o := { dst := some 74, op := Op.load 3 (Operand.tmp 73), type := 3, pos := "law.go:81", after := #[{ on := 2, ground := Ground.data }], guard := Option.none }) (v := ?_) (by rfl) ?_ (fun wS hSw => ?_) ?_
            rotate_left
            · kernel_rfl
            · (try dsimp only at hSw); go_simp; (try with_reducible rfl)
            try simp only [Act.put, List.setIfInBounds_toArray, List.set_cons_zero, List.set_cons_succ]
            refine Reg.G_step (o := { dst := some 72, op := Op.call { callee := Callee.value (Operand.func 61), args := #[Operand.tmp 71], argTypes := #[80] }, type := 3, pos := "law.go:81", after := #[{ on := 0, ground := Ground.data }], guard := Option.none }) (by rfl) ?_ (fun K hK => ?_)
            · kernel_rfl
            go_simp
            refine (at_ w.heap.size a2 b e2 _ hHeld.1).mono ?_
            rintro e w' ⟨rfl, rfl⟩
            refine hK.out _ _ ?_ (fun hHeld => ?_)
            · exact hHeld
            clear hK K
            try simp only [Act.put, List.setIfInBounds_toArray, List.set_cons_zero, List.set_cons_succ]
            refine Reg.G_on (o := { dst := some 75, op := Op.binOp BinOp.neq 3 (Operand.tmp 72) (Operand.tmp 74) 3, type := 4, pos := "law.go:81", after := #[{ on := 1, ground := Ground.data }, { on := 3, ground := Ground.data }], guard := Option.none }) (v := ?_) (by rfl) ?_ (fun wS hSw => ?_) ?_
            rotate_left
            · kernel_rfl
            · (try dsimp only at hSw); go_simp; (try with_reducible rfl)
            try simp only [Act.put, List.setIfInBounds_toArray, List.set_cons_zero, List.set_cons_succ]
            refine Reg.G_on (o := { dst := some 76, op := Op.move (Operand.tmp 75), type := 4, pos := "law.go:81", after := #[{ on := 4, ground := Ground.data }, { on := 1, ground := Ground.chain }], guard := Option.none }) (v := ?_) (by rfl) ?_ (fun wS hSw => ?_) ?_
            rotate_left
            · kernel_rfl
            · (try dsimp only at hSw); go_simp; (try with_reducible rfl)
            try simp only [Act.put, List.setIfInBounds_toArray, List.set_cons_zero, List.set_cons_succ]
            refine Reg.G_on (o := { dst := some 77, op := Op.move (Operand.tmp 5), type := 80, pos := "law.go:81", after := #[{ on := 5, ground := Ground.guard }], guard := some (5, false) }) (v := ?_) (by rfl) ?_ (fun wS hSw => ?_) ?_
            rotate_left
            · kernel_rfl
            · (try dsimp only at hSw); go_simp; (try with_reducible rfl)
            try simp only [Act.put, List.setIfInBounds_toArray, List.set_cons_zero, List.set_cons_succ]
            refine Reg.G_on (o := { dst := some 79, op := Op.fieldAddr 92 (Operand.tmp 6) 1, type := 0, pos := "law.go:81", after := #[{ on := 5, ground := Ground.guard }], guard := some (5, false) }) (v := ?_) (by rfl) ?_ (fun wS hSw => ?_) ?_
            rotate_left
            · kernel_rfl
            · (try dsimp only at hSw); go_simp; (try with_reducible rfl)
            try simp only [Act.put, List.setIfInBounds_toArray, List.set_cons_zero, List.set_cons_succ]
            refine Reg.G_on (o := { dst := some 80, op := Op.load 73 (Operand.tmp 79), type := 73, pos := "law.go:81", after := #[{ on := 8, ground := Ground.data }, { on := 5, ground := Ground.guard }], guard := some (5, false) }) (v := ?_) (by rfl) ?_ (fun wS hSw => ?_) ?_
            rotate_left
            · kernel_rfl
            · (try dsimp only at hSw); go_simp; (try with_reducible rfl)
            try simp only [Act.put, List.setIfInBounds_toArray, List.set_cons_zero, List.set_cons_succ]
            refine Reg.G_step (o := { dst := some 78, op := Op.call { callee := Callee.value (Operand.func 62), args := #[Operand.tmp 77], argTypes := #[80] }, type := 73, pos := "law.go:81", after := #[{ on := 6, ground := Ground.data }, { on := 5, ground := Ground.chain }, { on := 5, ground := Ground.guard }], guard := some (5, false) }) (by rfl) ?_ (fun K hK => ?_)
            · kernel_rfl
            go_simp
            refine (err w.heap.size a2 b e2 _ hHeld.1).mono ?_
            rintro e w' ⟨rfl, rfl⟩
            refine hK.out _ _ ?_ (fun hHeld => ?_)
            · exact hHeld
            clear hK K
            try simp only [Act.put, List.setIfInBounds_toArray, List.set_cons_zero, List.set_cons_succ]
            refine Reg.G_on (o := { dst := some 81, op := Op.binOp BinOp.neq 73 (Operand.tmp 78) (Operand.tmp 80) 73, type := 4, pos := "law.go:81", after := #[{ on := 7, ground := Ground.data }, { on := 9, ground := Ground.data }, { on := 5, ground := Ground.guard }], guard := some (5, false) }) (v := ?_) (by rfl) ?_ (fun wS hSw => ?_) ?_
            rotate_left
            · kernel_rfl
            · (try dsimp only at hSw); go_simp; (try with_reducible rfl)
            try simp only [Act.put, List.setIfInBounds_toArray, List.set_cons_zero, List.set_cons_succ]
            refine Reg.G_on (o := { dst := some 82, op := Op.pick (Operand.tmp 76) (Operand.const (Value.bool true)) (Operand.tmp 81), type := 4, pos := "law.go:81", after := #[{ on := 5, ground := Ground.data }, { on := 10, ground := Ground.data }], guard := Option.none }) (v := ?_) (by rfl) ?_ (fun wS hSw => ?_) ?_
            rotate_left
            · kernel_rfl
            · (try dsimp only at hSw); go_simp; (try with_reducible rfl)
            try simp only [Act.put, List.setIfInBounds_toArray, List.set_cons_zero, List.set_cons_succ]
            refine Reg.G_on (o := { dst := some 83, op := Op.move (Operand.tmp 82), type := 4, pos := "law.go:81", after := #[{ on := 11, ground := Ground.data }, { on := 7, ground := Ground.chain }], guard := Option.none }) (v := ?_) (by rfl) ?_ (fun wS hSw => ?_) ?_
            rotate_left
            · kernel_rfl
            · (try dsimp only at hSw); go_simp; (try with_reducible rfl)
            try simp only [Act.put, List.setIfInBounds_toArray, List.set_cons_zero, List.set_cons_succ]
            refine Reg.G_on (o := { dst := some 84, op := Op.move (Operand.tmp 5), type := 80, pos := "law.go:81", after := #[{ on := 12, ground := Ground.guard }], guard := some (12, false) }) (v := ?_) (by rfl) ?_ (fun wS hSw => ?_) ?_
            rotate_left
            · kernel_rfl
            · (try dsimp only at hSw); go_simp; (try with_reducible rfl)
            try simp only [Act.put, List.setIfInBounds_toArray, List.set_cons_zero, List.set_cons_succ]
            refine Reg.G_on (o := { dst := some 86, op := Op.move (Operand.tmp 0), type := 9, pos := "law.go:81", after := #[{ on := 12, ground := Ground.guard }], guard := some (12, false) }) (v := ?_) (by rfl) ?_ (fun wS hSw => ?_) ?_
            rotate_left
            · kernel_rfl
            · (try dsimp only at hSw); go_simp; (try with_reducible rfl)
            try simp only [Act.put, List.setIfInBounds_toArray, List.set_cons_zero, List.set_cons_succ]
            refine Reg.G_on (o := { dst := some 87, op := Op.load 92 (Operand.tmp 6), type := 92, pos := "law.go:81", after := #[{ on := 12, ground := Ground.guard }], guard := some (12, false) }) (v := ?_) (by rfl) ?_ (fun wS hSw => ?_) ?_
            rotate_left
            · kernel_rfl
            · (try dsimp only at hSw); go_simp; (try with_reducible rfl)
            try simp only [Act.put, List.setIfInBounds_toArray, List.set_cons_zero, List.set_cons_succ]
            refine Reg.G_step (o := { dst := some 85, op := Op.call { callee := Callee.value (Operand.func 63), args := #[Operand.tmp 84], argTypes := #[80] }, type := 73, pos := "law.go:81", after := #[{ on := 13, ground := Ground.data }, { on := 12, ground := Ground.chain }, { on := 12, ground := Ground.guard }], guard := some (12, false) }) (by rfl) ?_ (fun K hK => ?_)
            · kernel_rfl
            go_simp
            refine (done w.heap.size a2 b e2 _ hHeld.1).mono ?_
            rintro e w' ⟨rfl, hb⟩
            refine hK.out _ _ ?_ (fun hHeld => ?_)
            · exact ⟨hHeld.1.below hb, argb hb hHeld.2.1, argb hb hHeld.2.2⟩
            clear hK K
            try simp only [Act.put, List.setIfInBounds_toArray, List.set_cons_zero, List.set_cons_succ]
            skip
            have hb1 := hb
            clear hb
            refine Reg.G_step (o := { dst := some 88, op := Op.call { callee := Callee.value (Operand.func 67), args := #[Operand.tmp 86, Operand.tmp 87], argTypes := #[9, 92] }, type := 73, pos := "law.go:81", after := #[{ on := 15, ground := Ground.data }, { on := 16, ground := Ground.data }, { on := 14, ground := Ground.chain }, { on := 12, ground := Ground.guard }], guard := some (12, false) }) (by rfl) ?_ (fun K hK => ?_)
            · kernel_rfl
            go_simp
            refine (rdone b a2 e2 _).mono ?_
            rintro e w' ⟨rfl, hb⟩
            refine hK.out _ _ ?_ (fun hHeld => ?_)
            · exact ⟨hHeld.1.below hb, argb hb hHeld.2.1, argb hb hHeld.2.2⟩
            clear hK K
            try simp only [Act.put, List.setIfInBounds_toArray, List.set_cons_zero, List.set_cons_succ]
            refine Reg.G_on (o := { dst := some 89, op := Op.binOp BinOp.neq 73 (Operand.tmp 85) (Operand.tmp 88) 73, type := 4, pos := "law.go:81", after := #[{ on := 14, ground := Ground.data }, { on := 17, ground := Ground.data }, { on := 12, ground := Ground.guard }], guard := some (12, false) }) (v := ?_) (by rfl) ?_ (fun wS hSw => ?_) ?_
            rotate_left
            · kernel_rfl
            · (try dsimp only at hSw); go_simp; (try with_reducible rfl)
            try simp only [Act.put, List.setIfInBounds_toArray, List.set_cons_zero, List.set_cons_succ]
            refine Reg.G_on (o := { dst := some 90, op := Op.pick (Operand.tmp 83) (Operand.const (Value.bool true)) (Operand.tmp 89), type := 4, pos := "law.go:81", after := #[{ on := 12, ground := Ground.data }, { on := 18, ground := Ground.data }], guard := Option.none }) (v := ?_) (by rfl) ?_ (fun wS hSw => ?_) ?_
            rotate_left
            · kernel_rfl
            · (try dsimp only at hSw); go_simp; (try with_reducible rfl)
            try simp only [Act.put, List.setIfInBounds_toArray, List.set_cons_zero, List.set_cons_succ]
            refine Reg.G_done ?_
            go_wp2
            have hb3 := (Below.refl W.heap.size W).drew.trans (bstep hb1 hb)
            have HB3 : Bo w w' w.heap.size r a2 b e2 := ⟨HB.cb.below hb3, HB.rc.below hb3, bstep HB.be hb3, HB.ab, HB.c0, HB.r0, HB.cr⟩
            go_roundw
            case rel => exact ⟨k + 1, a2, e2, by omega, by go_num, HB3⟩
            case measure => simp [intOf]; omega
      · have hk2 : ¬ ((k : Int) < (l.length : Int)) := by omega
        go_wp2_with fail
        refine Reg.wp_plan (S := fun w' => CB w' w.heap.size a b e ∧ w'.cell? ⟨r, 0, none⟩ = some (.int .i64 (a : Int)) ∧ w'.cell? ⟨r, 1, none⟩ = some (.int .i64 e)) 10 (.fl 0 (.fl 2 (.fl 3 (.one 1 (.one 4 (.fl 5 (.fl 6 (.one 7 (.fl 8 (.fl 9 .done)))))))))) (by kernel_rfl) (by kernel_rfl) (by kernel_rfl) (by kernel_rfl) (fun _ _ _ d _ h => by cases d <;> exact h) ?_ (fun hHeld => ?_)
        · exact ⟨HB.cb, by simpa using t0, by simpa using t1⟩
        refine Reg.G_on (o := { dst := some 91, op := Op.move (Operand.tmp 5), type := 80, pos := "law.go:85", after := #[], guard := Option.none }) (v := ?_) (by rfl) ?_ (fun wS hSw => ?_) ?_
        rotate_left
        · kernel_rfl
        · (try dsimp only at hSw); go_simp; (try with_reducible rfl)
        try simp only [Act.put, List.setIfInBounds_toArray, List.set_cons_zero, List.set_cons_succ]
        refine Reg.G_on (o := { dst := some 93, op := Op.move (Operand.tmp 0), type := 9, pos := "law.go:85", after := #[], guard := Option.none }) (v := ?_) (by rfl) ?_ (fun wS hSw => ?_) ?_
        rotate_left
        · kernel_rfl
        · (try dsimp only at hSw); go_simp; (try with_reducible rfl)
        try simp only [Act.put, List.setIfInBounds_toArray, List.set_cons_zero, List.set_cons_succ]
        refine Reg.G_on (o := { dst := some 94, op := Op.load 92 (Operand.tmp 6), type := 92, pos := "law.go:85", after := #[], guard := Option.none }) (v := ?_) (by rfl) ?_ (fun wS hSw => ?_) ?_
        rotate_left
        · kernel_rfl
        · (try dsimp only at hSw); go_simp; (try with_reducible rfl)
        try simp only [Act.put, List.setIfInBounds_toArray, List.set_cons_zero, List.set_cons_succ]
        refine Reg.G_step (o := { dst := some 92, op := Op.call { callee := Callee.value (Operand.func 63), args := #[Operand.tmp 91], argTypes := #[80] }, type := 73, pos := "law.go:85", after := #[{ on := 0, ground := Ground.data }], guard := Option.none }) (by rfl) ?_ (fun K hK => ?_)
        · kernel_rfl
        go_simp
        refine (done w.heap.size a b e _ hHeld.1).mono ?_
        rintro e w' ⟨rfl, hb⟩
        refine hK.out _ _ ?_ (fun hHeld => ?_)
        · exact ⟨hHeld.1.below hb, argb hb hHeld.2.1, argb hb hHeld.2.2⟩
        clear hK K
        try simp only [Act.put, List.setIfInBounds_toArray, List.set_cons_zero, List.set_cons_succ]
        skip
        have hb1 := hb
        clear hb
        refine Reg.G_step (o := { dst := some 95, op := Op.call { callee := Callee.value (Operand.func 67), args := #[Operand.tmp 93, Operand.tmp 94], argTypes := #[9, 92] }, type := 73, pos := "law.go:85", after := #[{ on := 2, ground := Ground.data }, { on := 3, ground := Ground.data }, { on := 1, ground := Ground.chain }], guard := Option.none }) (by rfl) ?_ (fun K hK => ?_)
        · kernel_rfl
        go_simp
        refine (rdone b a e _).mono ?_
        rintro e w' ⟨rfl, hb⟩
        refine hK.out _ _ ?_ (fun hHeld => ?_)
        · exact ⟨hHeld.1.below hb, argb hb hHeld.2.1, argb hb hHeld.2.2⟩
        clear hK K
        try simp only [Act.put, List.setIfInBounds_toArray, List.set_cons_zero, List.set_cons_succ]
        refine Reg.G_on (o := { dst := some 96, op := Op.binOp BinOp.eql 73 (Operand.tmp 92) (Operand.tmp 95) 73, type := 4, pos := "law.go:85", after := #[{ on := 1, ground := Ground.data }, { on := 4, ground := Ground.data }], guard := Option.none }) (v := ?_) (by rfl) ?_ (fun wS hSw => ?_) ?_
        rotate_left
        · kernel_rfl
        · (try dsimp only at hSw); go_simp; (try with_reducible rfl)
        try simp only [Act.put, List.setIfInBounds_toArray, List.set_cons_zero, List.set_cons_succ]
        refine Reg.G_on (o := { dst := some 97, op := Op.move (Operand.tmp 96), type := 4, pos := "law.go:85", after := #[{ on := 5, ground := Ground.data }, { on := 4, ground := Ground.chain }], guard := Option.none }) (v := ?_) (by rfl) ?_ (fun wS hSw => ?_) ?_
        rotate_left
        · kernel_rfl
        · (try dsimp only at hSw); go_simp; (try with_reducible rfl)
        try simp only [Act.put, List.setIfInBounds_toArray, List.set_cons_zero, List.set_cons_succ]
        have hb2 := hb
        clear hb
        refine Reg.G_step (o := { dst := some 98, op := Op.call { callee := Callee.value (Operand.func 50), args := #[], argTypes := #[] }, type := 4, pos := "law.go:85", after := #[{ on := 6, ground := Ground.chain }, { on := 6, ground := Ground.guard }], guard := some (6, true) }) (by rfl) ?_ (fun K hK => ?_)
        · kernel_rfl
        go_simp
        refine (Al.awake _).mono ?_
        rintro e w' ⟨rfl, hb⟩
        refine hK.out _ _ ?_ (fun hHeld => ?_)
        · exact ⟨hHeld.1.below hb, argb hb hHeld.2.1, argb hb hHeld.2.2⟩
        clear hK K
        try simp only [Act.put, List.setIfInBounds_toArray, List.set_cons_zero, List.set_cons_succ]
        refine Reg.G_on (o := { dst := some 99, op := Op.pick (Operand.tmp 97) (Operand.tmp 98) (Operand.const (Value.bool false)), type := 4, pos := "law.go:85", after := #[{ on := 6, ground := Ground.data }, { on := 7, ground := Ground.data }], guard := Option.none }) (v := ?_) (by rfl) ?_ (fun wS hSw => ?_) ?_
        rotate_left
        · kernel_rfl
        · (try dsimp only at hSw); go_simp; (try with_reducible rfl)
        try simp only [Act.put, List.setIfInBounds_toArray, List.set_cons_zero, List.set_cons_succ]
        refine Reg.G_on (o := { dst := some 4, op := Op.assign (Operand.tmp 99), type := 4, pos := "law.go:85", after := #[{ on := 8, ground := Ground.data }, { on := 7, ground := Ground.chain }, { on := 0, ground := Ground.phase }, { on := 1, ground := Ground.phase }, { on := 2, ground := Ground.phase }, { on := 3, ground := Ground.phase }, { on := 4, ground := Ground.phase }, { on := 5, ground := Ground.phase }, { on := 6, ground := Ground.phase }, { on := 7, ground := Ground.phase }, { on := 8, ground := Ground.phase }], guard := Option.none }) (v := ?_) (by rfl) ?_ (fun wS hSw => ?_) ?_
        rotate_left
        · kernel_rfl
        · (try dsimp only at hSw); go_simp; (try with_reducible rfl)
        try simp only [Act.put, List.setIfInBounds_toArray, List.set_cons_zero, List.set_cons_succ]
        refine Reg.G_done ?_
        go_wp2
        go_ret
        exact ⟨rfl, bstep HB.be ((Below.refl wr.heap.size wr).drew.trans (bstep (bstep hb1 hb2) hb))⟩
end Go.Proofs.Ytibcdpnmhkhebaa.Cur
