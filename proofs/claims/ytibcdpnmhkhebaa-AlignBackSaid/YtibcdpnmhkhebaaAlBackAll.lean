import Derived.Test.YtibcdpnmhkhebaaCur2
import Derived.Test.YtibcdpnmhkhebaaAlPuts
import Derived.Test.YtibcdpnmhkhebaaOpenS
set_option linter.unusedVariables false
set_option linter.unusedSimpArgs false
namespace Go.Proofs.Ytibcdpnmhkhebaa.Cur
open Go.RowKit Base Sp Flat Go.Proofs.YtibcdpnmhkhebaaW.PrintWords Go.Proofs.YtibcdpnmhkhebaaW.PrintLast Wd Al Buf Go.Proofs.Ytibcdpnmhkhebaa.PAlignTakes
theorem rtext (b : ByteArray) (a : Nat) (e n : Int) (ha : a ≤ b.size) (hz : b.size ≤ 140737488355328) (hn : n < 9223372036854775808) (w : World) :
    Calls Try.prog 65 #[.string b, .agg #[.int .i64 (a : Int), .int .i64 e], .int .i64 n] w fun e' w' => e' = .returned (.tuple #[.string (ctext b a e n).1, .agg #[.int .i64 (ctext b a e n).2.1, .int .i64 (ctext b a e n).2.2]]) ∧ Below w.heap.size w w' :=
  broadsheetref02_Text.calls b a e n _ _ _ w (rtext_eq b a e n (by omega) (by omega) hn)
theorem rtake2 (b : ByteArray) (a : Nat) (e s : Int) (ha : a ≤ b.size) (hz : b.size ≤ 140737488355328) (w : World) :
    Calls Try.prog 66 #[.string b, .agg #[.int .i64 (a : Int), .int .i64 e], .int .i64 s] w fun e' w' => e' = .returned (.tuple #[.int .u64 (ctake b a e s).1, .agg #[.int .i64 (ctake b a e s).2.1, .int .i64 (ctake b a e s).2.2]]) ∧ Below w.heap.size w w' :=
  broadsheetref02_Take.calls 40 b a e s _ _ _ w (rtake2_eq b a e s (by omega) (by omega))
theorem rdone (b : ByteArray) (a : Nat) (e : Int) (w : World) : Calls Try.prog 67 #[.string b, .agg #[.int .i64 (a : Int), .int .i64 e]] w fun e' w' => e' = .returned (.int .i64 (cdone b a e)) ∧ Below w.heap.size w w' :=
  broadsheetref02_Done.calls b a e _ w (rdone_eq b a e)
theorem ctake_at (b : ByteArray) (a : Nat) (e s : Int) (ha : a ≤ b.size) : ∃ a2 : Nat, (ctake b a e s).2.1 = (a2 : Int) ∧ a2 ≤ b.size := by
  unfold ctake
  by_cases h1 : e ≠ 0
  · rw [if_pos h1]; exact ⟨a, rfl, ha⟩
  · rw [if_neg h1]
    by_cases h2 : sz s = false
    · rw [if_pos h2]; exact ⟨a, rfl, ha⟩
    · rw [if_neg h2]
      by_cases h3 : pad b (gapv a s).toNat a ≠ 0
      · rw [if_pos h3]; exact ⟨a, rfl, ha⟩
      · rw [if_neg h3]
        by_cases h4 : (takev b ((a : Int) + gapv a s) s).2 ≠ 0
        · rw [if_pos h4]; exact ⟨a, rfl, ha⟩
        · rw [if_neg h4]
          have hs : sz s = true := by simpa using h2
          have hc := sz_cases hs
          have hg := gapv_le a s
          have h5 : ¬ ((b.size : Int) < (a : Int) + gapv a s + s) := fun h => h4 ((takev_err b _ s (by omega) (by omega)).2 h)
          exact ⟨((a : Int) + gapv a s + s).toNat, by show (a : Int) + gapv a s + s = _; omega, by omega⟩
theorem ctext_at (b : ByteArray) (a : Nat) (e n : Int) (ha : a ≤ b.size) : ∃ a2 : Nat, (ctext b a e n).2.1 = (a2 : Int) ∧ a2 ≤ b.size := by
  unfold ctext
  by_cases h1 : e = 0
  · rw [if_pos h1]
    by_cases h2 : n < 0
    · rw [if_pos h2]; exact ⟨a, rfl, ha⟩
    · rw [if_neg h2]
      by_cases h3 : (b.size : Int) - a < n
      · rw [if_pos h3]; exact ⟨a, rfl, ha⟩
      · rw [if_neg h3]
        exact ⟨((a : Int) + n).toNat, by show (a : Int) + n = _; omega, by omega⟩
  · rw [if_neg h1]; exact ⟨a, rfl, ha⟩
theorem ctext_ex (b : ByteArray) (a : Nat) (e n : Int) (ha : a ≤ b.size) : ∃ (sv : ByteArray) (a2 : Nat) (e2 : Int), ctext b a e n = (sv, (a2 : Int), e2) ∧ a2 ≤ b.size := by
  obtain ⟨a2, h, h2⟩ := ctext_at b a e n ha
  exact ⟨_, a2, _, by rw [← h], h2⟩
theorem ctake_ex (b : ByteArray) (a : Nat) (e n : Int) (ha : a ≤ b.size) : ∃ (sv : Int) (a2 : Nat) (e2 : Int), ctake b a e n = (sv, (a2 : Int), e2) ∧ a2 ≤ b.size := by
  obtain ⟨a2, h, h2⟩ := ctake_at b a e n ha
  exact ⟨_, a2, _, by rw [← h], h2⟩
theorem text_at (c a : Nat) (b : ByteArray) (e n : Int) (w : World) (h : CB w c a b e) (ha : a ≤ b.size) (hz : b.size ≤ 140737488355328) (hn : n < 9223372036854775808) {sv : ByteArray} {a2 : Nat} {e2 : Int} (hr : ctext b a e n = (sv, (a2 : Int), e2)) :
    Calls Try.prog 60 #[.pointer (some ⟨c, 0, none⟩), .int .i64 n] w fun e' w' => e' = .returned (.string sv) ∧ CB w' c a2 b e2 ∧ Mod (At c) w w' := by
  have := text c a b e n w h ha hz hn
  rw [hr] at this
  exact this
theorem take_at (c a : Nat) (b : ByteArray) (e n : Int) (w : World) (h : CB w c a b e) (ha : a ≤ b.size) (hz : b.size ≤ 140737488355328) {sv : Int} {a2 : Nat} {e2 : Int} (hr : ctake b a e n = (sv, (a2 : Int), e2)) :
    Calls Try.prog 59 #[.pointer (some ⟨c, 0, none⟩), .int .i64 n] w fun e' w' => e' = .returned (.int .u64 sv) ∧ CB w' c a2 b e2 ∧ Mod (At c) w w' := by
  have := take c a b e n w h ha hz
  rw [hr] at this
  exact this
/-- An ask: is it plain, a size or a length. -/
def ka : Kd (Bool × Int) := Kd.pair Kd.bool (Kd.int .i64)
theorem ask_cells {w : World} {A : Option Addr} {l : List (Bool × Int)} (h : Kd.C ka w A l.length l) (i : Nat) (hi : i < l.length) :
    ∃ ad : Addr, A = some ad ∧ w.cell? (ad.add (i * 2)) = some (.bool l[i].1) ∧ w.cell? ⟨(ad.add (i * 2)).block, (ad.add (i * 2)).off + 1, none⟩ = some (.int .i64 l[i].2) := by
  obtain ⟨ad, c, e, _, hK, hc0⟩ := Kd.C_get h (false, 0) (i : Int) (by omega) (by omega)
  rw [Int.toNat_natCast] at hc0 hK
  have hc : ∀ j u, c[j]? = some u → w.cell? (ad.add (i * 2 + j)) = some u := hc0
  have hx : l.getD i (false, 0) = l[i] := by rw [List.getD_eq_getElem?_getD, List.getElem?_eq_getElem hi]; rfl
  rw [hx] at hK
  obtain ⟨_, _, rfl, rfl, rfl⟩ := hK
  exact ⟨ad, e, hc 0 _ rfl, by rw [← add_field _ _ 1 (by omega)]; exact hc 1 _ rfl⟩
/-- The document's cursor in block r. -/
def RC (w : World) (r : Nat) (a : Nat) (e : Int) : Prop := w.heap[r]? = some (.cells #[.int .i64 (a : Int), .int .i64 e] 92 (0, 0))
theorem two_ {w : World} {r a : Nat} {e : Int} (h : RC w r a e) : (w.cell? ⟨r, 0, none⟩ = some (.int .i64 (a : Int)) ∧ w.cell? ⟨r, 1, none⟩ = some (.int .i64 e)) ∧ w.frozen? ⟨r, 0, none⟩ = false ∧ w.frozen? ⟨r, 1, none⟩ = false :=
  ⟨⟨blk_cell h 0, blk_cell h 1⟩, blk_frozen h 0, blk_frozen h 1⟩
theorem RC.below {w w' : World} {r a : Nat} {e : Int} (h : RC w r a e) (hb : Below w.heap.size w w') : RC w' r a e := (hb.block r (blk_lt h)).trans h
theorem RC.far {w w' : World} {r a : Nat} {e : Int} {F : Nat → Prop} (h : RC w r a e) (hm : Mod F w w') (hF : ¬ F r) : RC w' r a e := (hm.block r (blk_lt h) hF).trans h
def set2 (w : World) (r : Nat) (a : Nat) (e : Int) : World := (w.setCell ⟨r, 0, none⟩ (.int .i64 (a : Int))).setCell ⟨r, 1, none⟩ (.int .i64 e)
theorem RC.set {w : World} {r a a' : Nat} {e e' : Int} (h : RC w r a e) : RC (set2 w r a' e') r a' e' := by
  unfold set2
  have h := blk_set (blk_set h 0 (.int .i64 (a' : Int))) 1 (.int .i64 e')
  simpa [RC] using h
theorem set2_mod (w : World) (r : Nat) (a : Nat) (e : Int) : Mod (At r) w (set2 w r a e) := at_set (at_set (Mod.refl _ _) _ _) _ _
/-- Both cursors. -/
structure Bo (w0 w : World) (c r a : Nat) (b : ByteArray) (e : Int) : Prop where
  cb : CB w c a b e
  rc : RC w r a e
  be : Below w0.heap.size w0 w
  ab : a ≤ b.size
  c0 : w0.heap.size ≤ c
  r0 : w0.heap.size ≤ r
  cr : c ≠ r
set_option maxRecDepth 20000 in
set_option maxHeartbeats 4000000 in
theorem takes (b : ByteArray) (A : Option Addr) (cc : Nat) (l : List (Bool × Int)) (w : World) (hC : Kd.C ka w A l.length l) (hz : b.size ≤ 140737488355328) (hn : ∀ x ∈ l, x.2 < 9223372036854775808) :
    Calls Try.prog 13 #[.string b, .slice A l.length cc] w fun e w' => e = .returned (.bool true) ∧ Below w.heap.size w w' := by
  have HN := Lib.hid hn
  have HZ := Lib.hid hz
  clear hn hz
  by_cases hbig : 200 < l.length
  · go_enter Try.func13, Try.ntmps13
    go_wp2_with fail
    refine (Al.awake _).mono ?_
    rintro e w' ⟨rfl, hb⟩
    go_wp2
    go_ret
    exact ⟨rfl, hb⟩
  · go_enter Try.func13, Try.ntmps13
    go_wp2_with fail
    refine (read b w).mono ?_
    rintro e w1 ⟨rfl, h1, b1⟩
    have hs1 := h1.lt
    have HX : Bo w (w1.alloc (.cells #[.int .i64 0, .int .i64 0] 92)) w.heap.size w1.heap.size 0 b 0 :=
      ⟨h1.below ((Below.refl _ _).alloc (Nat.le_refl _) _), heap_alloc_new _ _, b1.alloc (by omega) _, Nat.zero_le _, Nat.le_refl _, by omega, by omega⟩
    go_wp2
    generalize hr : w1.heap.size = r at *
    clear h1 b1 hs1 hr
    go_loopw [7] (fun i wr => ∃ (k a : Nat) (e : Int), k ≤ l.length ∧ i = .int .i64 (k : Int) ∧ Bo w wr w.heap.size r a b e) (fun i _ => (l.length - (intOf i).toNat))
    case atStart => exact ⟨0, 0, 0, by omega, rfl, HX⟩
    case round =>
      clear HX
      obtain ⟨k, a, e, hk, rfl, HB⟩ := hrel
      have k0 : (0 : Int) ≤ (k : Int) := by omega
      obtain ⟨⟨t0, t1⟩, g0, g1⟩ := two_ HB.rc
      have hrl := blk_lt HB.rc
      by_cases hlt : k < l.length
      · have k2 : (k : Int) < (l.length : Int) := by omega
        obtain ⟨ad, rfl, c0, c1⟩ := ask_cells (Kd.C_below hC HB.be) k hlt
        obtain ⟨_, ea, ca, _⟩ := ask_cells hC k hlt
        obtain rfl := Option.some.inj ea
        have hal := World.block_lt_of_cell? w _ ca
        have HXn := Lib.hid (HN.out _ (List.getElem_mem hlt))
        clear ca
        generalize l[k] = x at *
        obtain ⟨x0, n⟩ := x
        dsimp only at c0 c1
        cases x0 with
        | true =>
          obtain ⟨sv, a2, e2, hr, hab2⟩ := ctext_ex b a e n HB.ab
          have hR := fun w => rtext b a e n HB.ab HZ.out HXn.out w
          have hT := fun W h => text_at w.heap.size a b e n W h HB.ab HZ.out HXn.out hr
          rw [hr] at hR
          clear hr
          go_wp2_with fail
          refine Reg.wp_plan (S := fun w' => w'.cell? ⟨r, 0, none⟩ = some (.int .i64 (a : Int)) ∧ w'.cell? ⟨r, 1, none⟩ = some (.int .i64 e) ∧ w'.cell? ⟨(ad.add (k * 2)).block, (ad.add (k * 2)).off + 1, none⟩ = some (.int .i64 n)) 14 (.fl 0 (.fl 1 (.fl 2 (.fl 3 (.fl 4 (.fl 5 (.fl 6 (.two 7 11 (.fl 8 (.fl 9 (.fl 10 (.one 11 (.fl 12 (.one 13 .done)))))) (.one 7 (.fl 8 (.fl 9 (.fl 10 (.fl 12 (.one 13 .done)))))))))))))) (by kernel_rfl) (by kernel_rfl) (by kernel_rfl) (by kernel_rfl) (fun _ _ _ d _ h => by cases d <;> exact h) ?_ (fun hHeld => ?_)
          · exact ⟨by simpa using t0, by simpa using t1, by simpa using c1⟩
          refine Reg.G_on (o := { dst := some 30, op := Op.move (Operand.tmp 0), type := 9, pos := "law.go:69", after := #[], guard := Option.none }) (v := ?_) (by rfl) ?_ (fun wS hSw => ?_) ?_
          rotate_left
          · kernel_rfl
          · (try dsimp only at hSw); go_simp; (try with_reducible rfl)
          try simp only [Act.put, List.setIfInBounds_toArray, List.set_cons_zero, List.set_cons_succ]
          refine Reg.G_on (o := { dst := some 31, op := Op.load 92 (Operand.tmp 6), type := 92, pos := "law.go:69", after := #[], guard := Option.none }) (v := ?_) (by rfl) ?_ (fun wS hSw => ?_) ?_
          rotate_left
          · kernel_rfl
          · (try dsimp only at hSw); go_simp; (try with_reducible rfl)
          try simp only [Act.put, List.setIfInBounds_toArray, List.set_cons_zero, List.set_cons_succ]
          refine Reg.G_on (o := { dst := some 32, op := Op.move (Operand.tmp 1), type := 89, pos := "law.go:69", after := #[], guard := Option.none }) (v := ?_) (by rfl) ?_ (fun wS hSw => ?_) ?_
          rotate_left
          · kernel_rfl
          · (try dsimp only at hSw); go_simp; (try with_reducible rfl)
          try simp only [Act.put, List.setIfInBounds_toArray, List.set_cons_zero, List.set_cons_succ]
          refine Reg.G_on (o := { dst := some 33, op := Op.move (Operand.tmp 7), type := 3, pos := "law.go:69", after := #[], guard := Option.none }) (v := ?_) (by rfl) ?_ (fun wS hSw => ?_) ?_
          rotate_left
          · kernel_rfl
          · (try dsimp only at hSw); go_simp; (try with_reducible rfl)
          try simp only [Act.put, List.setIfInBounds_toArray, List.set_cons_zero, List.set_cons_succ]
          refine Reg.G_on (o := { dst := some 34, op := Op.indexAddr 89 (Operand.tmp 32) (Operand.tmp 33), type := 0, pos := "law.go:69", after := #[{ on := 2, ground := Ground.data }, { on := 3, ground := Ground.data }], guard := Option.none }) (v := ?_) (by rfl) ?_ (fun wS hSw => ?_) ?_
          rotate_left
          · kernel_rfl
          · (try dsimp only at hSw); go_simp; (try with_reducible rfl)
          try simp only [Act.put, List.setIfInBounds_toArray, List.set_cons_zero, List.set_cons_succ]
          refine Reg.G_on (o := { dst := some 35, op := Op.fieldAddr 94 (Operand.tmp 34) 1, type := 0, pos := "law.go:69", after := #[{ on := 4, ground := Ground.data }], guard := Option.none }) (v := ?_) (by rfl) ?_ (fun wS hSw => ?_) ?_
          rotate_left
          · kernel_rfl
          · (try dsimp only at hSw); go_simp; (try with_reducible rfl)
          try simp only [Act.put, List.setIfInBounds_toArray, List.set_cons_zero, List.set_cons_succ]
          refine Reg.G_on (o := { dst := some 36, op := Op.load 3 (Operand.tmp 35), type := 3, pos := "law.go:69", after := #[{ on := 5, ground := Ground.data }], guard := Option.none }) (v := ?_) (by rfl) ?_ (fun wS hSw => ?_) ?_
          rotate_left
          · kernel_rfl
          · (try dsimp only at hSw); go_simp; (try with_reducible rfl)
          try simp only [Act.put, List.setIfInBounds_toArray, List.set_cons_zero, List.set_cons_succ]
          refine Reg.G_two ?_ ?_
          · refine Reg.G_step (o := { dst := some 37, op := Op.call { callee := Callee.value (Operand.func 65), args := #[Operand.tmp 30, Operand.tmp 31, Operand.tmp 36], argTypes := #[9, 92, 3] }, type := 95, pos := "law.go:69", after := #[{ on := 0, ground := Ground.data }, { on := 1, ground := Ground.data }, { on := 6, ground := Ground.data }], guard := Option.none }) (by rfl) ?_ (fun K hK => ?_)
            · kernel_rfl
            go_simp
            refine (hR _).mono ?_
            rintro e w' ⟨rfl, hb⟩
            refine hK.out _ _ ?_ (fun hHeld => ?_)
            · exact ⟨argb hb hHeld.1, argb hb hHeld.2.1, argb hb hHeld.2.2⟩
            clear hK K
            try simp only [Act.put, List.setIfInBounds_toArray, List.set_cons_zero, List.set_cons_succ]
            have hH1 := hHeld
            refine Reg.G_on (o := { dst := some 29, op := Op.move (Operand.tmp 37), type := 95, pos := "law.go:69", after := #[{ on := 7, ground := Ground.data }], guard := Option.none }) (v := ?_) (by rfl) ?_ (fun wS hSw => ?_) ?_
            rotate_left
            · kernel_rfl
            · (try dsimp only at hSw); go_simp; (try with_reducible rfl)
            try simp only [Act.put, List.setIfInBounds_toArray, List.set_cons_zero, List.set_cons_succ]
            refine Reg.G_on (o := { dst := some 38, op := Op.extract (Operand.tmp 29) 0, type := 9, pos := "law.go:69", after := #[{ on := 8, ground := Ground.data }], guard := Option.none }) (v := ?_) (by rfl) ?_ (fun wS hSw => ?_) ?_
            rotate_left
            · kernel_rfl
            · (try dsimp only at hSw); go_simp; (try with_reducible rfl)
            try simp only [Act.put, List.setIfInBounds_toArray, List.set_cons_zero, List.set_cons_succ]
            refine Reg.G_on (o := { dst := some 39, op := Op.extract (Operand.tmp 29) 1, type := 92, pos := "law.go:69", after := #[{ on := 8, ground := Ground.data }, { on := 12, ground := Ground.gcOnly Departure.lateStores }], guard := Option.none }) (v := ?_) (by rfl) ?_ (fun wS hSw => ?_) ?_
            rotate_left
            · kernel_rfl
            · (try dsimp only at hSw); go_simp; (try with_reducible rfl)
            try simp only [Act.put, List.setIfInBounds_toArray, List.set_cons_zero, List.set_cons_succ]
            refine Reg.G_step (o := { dst := some 9, op := Op.alloc 92, type := 0, pos := "law.go:69", after := #[], guard := Option.none }) (by rfl) ?_ (fun K hK => ?_)
            · kernel_rfl
            go_simp
            refine hK.out _ _ ?_ (fun hHeld => ?_)
            · exact ⟨cnew hHeld.1, cnew hHeld.2.1, cnew hHeld.2.2⟩
            clear hK K
            try simp only [Act.put, List.setIfInBounds_toArray, List.set_cons_zero, List.set_cons_succ]
            refine Reg.G_on (o := { dst := some 8, op := Op.assign (Operand.tmp 38), type := 9, pos := "law.go:69", after := #[{ on := 9, ground := Ground.data }, { on := 7, ground := Ground.chain }, { on := 0, ground := Ground.phase }, { on := 1, ground := Ground.phase }, { on := 2, ground := Ground.phase }, { on := 3, ground := Ground.phase }, { on := 4, ground := Ground.phase }, { on := 5, ground := Ground.phase }, { on := 6, ground := Ground.phase }, { on := 7, ground := Ground.phase }, { on := 8, ground := Ground.phase }, { on := 9, ground := Ground.phase }, { on := 10, ground := Ground.textOnly Departure.lateStores }, { on := 11, ground := Ground.phase }], guard := Option.none }) (v := ?_) (by rfl) ?_ (fun wS hSw => ?_) ?_
            rotate_left
            · kernel_rfl
            · (try dsimp only at hSw); go_simp; (try with_reducible rfl)
            try simp only [Act.put, List.setIfInBounds_toArray, List.set_cons_zero, List.set_cons_succ]
            refine Reg.G_step (o := { dst := Option.none, op := Op.store 92 (Operand.tmp 9) (Operand.tmp 39), type := 0, pos := "law.go:69", after := #[{ on := 11, ground := Ground.data }, { on := 10, ground := Ground.data }, { on := 12, ground := Ground.chain }, { on := 0, ground := Ground.phase }, { on := 1, ground := Ground.phase }, { on := 2, ground := Ground.phase }, { on := 3, ground := Ground.phase }, { on := 4, ground := Ground.phase }, { on := 5, ground := Ground.phase }, { on := 6, ground := Ground.phase }, { on := 7, ground := Ground.phase }, { on := 8, ground := Ground.phase }, { on := 9, ground := Ground.phase }, { on := 10, ground := Ground.phase }, { on := 11, ground := Ground.phase }, { on := 12, ground := Ground.phase }], guard := Option.none }) (by rfl) ?_ (fun K hK => ?_)
            · kernel_rfl
            go_simp
            refine hK.out _ _ ?_ (fun hHeld => ?_)
            · exact ⟨cnew hH1.1, cnew hH1.2.1, cnew hH1.2.2⟩
            clear hK K
            try simp only [Act.put, List.setIfInBounds_toArray, List.set_cons_zero, List.set_cons_succ]
            refine Reg.G_done ?_
            clear hH1 hHeld
            obtain ⟨wz, hwz⟩ : ∃ wz, wz = w'.alloc (.cells #[.int .i64 (a2 : Int), .int .i64 e2] 92) := ⟨_, rfl⟩
            have bz : Below wr.heap.size wr wz := by rw [hwz]; exact ((Below.refl wr.heap.size wr).drew.trans hb).alloc hb.size _
            have hz2 : RC wz w'.heap.size a2 e2 := by rw [hwz]; exact heap_alloc_new _ _
            have hzr : w'.heap.size ≠ r := by have := hb.size; simp at this; omega
            rw [← hwz]
            clear hwz hb t0 t1 g0 g1
            generalize w'.heap.size = z at *
            have cz := HB.cb.below bz
            have rz := HB.rc.below bz
            have dz := argb bz c1
            have bbz := bstep HB.be bz
            obtain ⟨⟨s0, s1⟩, -⟩ := two_ hz2
            obtain ⟨⟨t0, t1⟩, u0, u1⟩ := two_ rz
            have rW := RC.set (w := wz) (a' := a2) (e' := e2) rz
            have mW := set2_mod wz r a2 e2
            obtain ⟨W1, hW⟩ : ∃ W1, W1 = set2 wz r a2 e2 := ⟨_, rfl⟩
            rw [← hW] at rW mW
            have cW := cz.far mW (fun h => HB.cr h)
            have bW := mW.below bbz bbz.size (fun k hk => by rw [show k = r from hk]; exact HB.r0)
            have dW := argc mW (fun k (hk : At r k) => show w.heap.size ≤ k by rw [show k = r from hk]; exact HB.r0) hal dz
            unfold set2 at hW
            have hT1 := hT W1 cW
            have hne1 : (ad.add (k * 2)).block ≠ r := by have := HB.r0; omega
            have hne2 : r ≠ (ad.add (k * 2)).block := fun h => hne1 h.symm
            clear hT c1 bz bbz mW rz cz hR dW
            go_wp2_with fail
            rw [← hW]
            clear hW s0 s1 t0 t1 u0 u1 dz hz2 cW hne1 hne2
            refine hT1.mono ?_
            rintro e' W ⟨rfl, hc, mc⟩
            have hra : ¬ At w.heap.size r := fun h => HB.cr (show r = w.heap.size from h).symm
            have HB2 : Bo w W w.heap.size r a2 b e2 := ⟨hc, rW.far mc hra, mc.below bW bW.size (fun k hk => by rw [show k = w.heap.size from hk]; exact Nat.le_refl _), hab2, HB.c0, HB.r0, HB.cr⟩
            clear HB hT1 hc mc bW rW hab2
            have HB := HB2
            clear HB2
            obtain ⟨⟨t0, t1⟩, -⟩ := two_ HB.rc
            have hrl := blk_lt HB.rc
            go_wp2_with fail
            refine Reg.wp_plan (S := fun w' => CB w' w.heap.size a2 b e2 ∧ w'.cell? ⟨r, 0, none⟩ = some (.int .i64 (a2 : Int)) ∧ w'.cell? ⟨r, 1, none⟩ = some (.int .i64 e2)) 20 (.fl 0 (.fl 2 (.fl 3 (.one 1 (.fl 4 (.fl 5 (.fl 6 (.fl 8 (.fl 9 (.one 7 (.fl 10 (.fl 11 (.fl 12 (.fl 13 (.fl 15 (.fl 16 (.one 14 (.one 17 (.fl 18 (.fl 19 .done)))))))))))))))))))) (by kernel_rfl) (by kernel_rfl) (by kernel_rfl) (by kernel_rfl) (fun _ _ _ d _ h => by cases d <;> exact h) ?_ (fun hHeld => ?_)
            · exact ⟨HB.cb, by simpa using t0, by simpa using t1⟩
            refine Reg.G_on (o := { dst := some 71, op := Op.move (Operand.tmp 5), type := 80, pos := "law.go:81", after := #[], guard := Option.none }) (v := ?_) (by rfl) ?_ (fun wS hSw => ?_) ?_
            rotate_left
            · kernel_rfl
            · (try dsimp only at hSw); go_simp; (try with_reducible rfl)
            try simp only [Act.put, List.setIfInBounds_toArray, List.set_cons_zero, List.set_cons_succ]
            refine Reg.G_on (o := { dst := some 73, op := Op.fieldAddr 92 (Operand.tmp 6) 0, type := 0, pos := "law.go:81", after := #[], guard := Option.none }) (v := ?_) (by rfl) ?_ (fun wS hSw => ?_) ?_
            rotate_left
            · kernel_rfl
            · (try dsimp only at hSw); go_simp; (try with_reducible rfl)
            try simp only [Act.put, List.setIfInBounds_toArray, List.set_cons_zero, List.set_cons_succ]
            refine Reg.G_on (o := { dst := some 74, op := Op.load 3 (Operand.tmp 73), type := 3, pos := "law.go:81", after := #[{ on := 2, ground := Ground.data }], guard := Option.none }) (v := ?_) (by rfl) ?_ (fun wS hSw => ?_) ?_
            rotate_left
            · kernel_rfl
            · (try dsimp only at hSw); go_simp; (try with_reducible rfl)
            try simp only [Act.put, List.setIfInBounds_toArray, List.set_cons_zero, List.set_cons_succ]
            refine Reg.G_step (o := { dst := some 72, op := Op.call { callee := Callee.value (Operand.func 61), args := #[Operand.tmp 71], argTypes := #[80] }, type := 3, pos := "law.go:81", after := #[{ on := 0, ground := Ground.data }], guard := Option.none }) (by rfl) ?_ (fun K hK => ?_)
            · kernel_rfl
            go_simp
            refine (at_ w.heap.size a2 b e2 _ hHeld.1).mono ?_
            rintro e w' ⟨rfl, rfl⟩
            refine hK.out _ _ ?_ (fun hHeld => ?_)
            · exact hHeld
            clear hK K
            try simp only [Act.put, List.setIfInBounds_toArray, List.set_cons_zero, List.set_cons_succ]
            refine Reg.G_on (o := { dst := some 75, op := Op.binOp BinOp.neq 3 (Operand.tmp 72) (Operand.tmp 74) 3, type := 4, pos := "law.go:81", after := #[{ on := 1, ground := Ground.data }, { on := 3, ground := Ground.data }], guard := Option.none }) (v := ?_) (by rfl) ?_ (fun wS hSw => ?_) ?_
            rotate_left
            · kernel_rfl
            · (try dsimp only at hSw); go_simp; (try with_reducible rfl)
            try simp only [Act.put, List.setIfInBounds_toArray, List.set_cons_zero, List.set_cons_succ]
            refine Reg.G_on (o := { dst := some 76, op := Op.move (Operand.tmp 75), type := 4, pos := "law.go:81", after := #[{ on := 4, ground := Ground.data }, { on := 1, ground := Ground.chain }], guard := Option.none }) (v := ?_) (by rfl) ?_ (fun wS hSw => ?_) ?_
            rotate_left
            · kernel_rfl
            · (try dsimp only at hSw); go_simp; (try with_reducible rfl)
            try simp only [Act.put, List.setIfInBounds_toArray, List.set_cons_zero, List.set_cons_succ]
            refine Reg.G_on (o := { dst := some 77, op := Op.move (Operand.tmp 5), type := 80, pos := "law.go:81", after := #[{ on := 5, ground := Ground.guard }], guard := some (5, false) }) (v := ?_) (by rfl) ?_ (fun wS hSw => ?_) ?_
            rotate_left
            · kernel_rfl
            · (try dsimp only at hSw); go_simp; (try with_reducible rfl)
            try simp only [Act.put, List.setIfInBounds_toArray, List.set_cons_zero, List.set_cons_succ]
            refine Reg.G_on (o := { dst := some 79, op := Op.fieldAddr 92 (Operand.tmp 6) 1, type := 0, pos := "law.go:81", after := #[{ on := 5, ground := Ground.guard }], guard := some (5, false) }) (v := ?_) (by rfl) ?_ (fun wS hSw => ?_) ?_
            rotate_left
            · kernel_rfl
            · (try dsimp only at hSw); go_simp; (try with_reducible rfl)
            try simp only [Act.put, List.setIfInBounds_toArray, List.set_cons_zero, List.set_cons_succ]
            refine Reg.G_on (o := { dst := some 80, op := Op.load 73 (Operand.tmp 79), type := 73, pos := "law.go:81", after := #[{ on := 8, ground := Ground.data }, { on := 5, ground := Ground.guard }], guard := some (5, false) }) (v := ?_) (by rfl) ?_ (fun wS hSw => ?_) ?_
            rotate_left
            · kernel_rfl
            · (try dsimp only at hSw); go_simp; (try with_reducible rfl)
            try simp only [Act.put, List.setIfInBounds_toArray, List.set_cons_zero, List.set_cons_succ]
            refine Reg.G_step (o := { dst := some 78, op := Op.call { callee := Callee.value (Operand.func 62), args := #[Operand.tmp 77], argTypes := #[80] }, type := 73, pos := "law.go:81", after := #[{ on := 6, ground := Ground.data }, { on := 5, ground := Ground.chain }, { on := 5, ground := Ground.guard }], guard := some (5, false) }) (by rfl) ?_ (fun K hK => ?_)
            · kernel_rfl
            go_simp
            refine (err w.heap.size a2 b e2 _ hHeld.1).mono ?_
            rintro e w' ⟨rfl, rfl⟩
            refine hK.out _ _ ?_ (fun hHeld => ?_)
            · exact hHeld
            clear hK K
            try simp only [Act.put, List.setIfInBounds_toArray, List.set_cons_zero, List.set_cons_succ]
            refine Reg.G_on (o := { dst := some 81, op := Op.binOp BinOp.neq 73 (Operand.tmp 78) (Operand.tmp 80) 73, type := 4, pos := "law.go:81", after := #[{ on := 7, ground := Ground.data }, { on := 9, ground := Ground.data }, { on := 5, ground := Ground.guard }], guard := some (5, false) }) (v := ?_) (by rfl) ?_ (fun wS hSw => ?_) ?_
            rotate_left
            · kernel_rfl
            · (try dsimp only at hSw); go_simp; (try with_reducible rfl)
            try simp only [Act.put, List.setIfInBounds_toArray, List.set_cons_zero, List.set_cons_succ]
            refine Reg.G_on (o := { dst := some 82, op := Op.pick (Operand.tmp 76) (Operand.const (Value.bool true)) (Operand.tmp 81), type := 4, pos := "law.go:81", after := #[{ on := 5, ground := Ground.data }, { on := 10, ground := Ground.data }], guard := Option.none }) (v := ?_) (by rfl) ?_ (fun wS hSw => ?_) ?_
            rotate_left
            · kernel_rfl
            · (try dsimp only at hSw); go_simp; (try with_reducible rfl)
            try simp only [Act.put, List.setIfInBounds_toArray, List.set_cons_zero, List.set_cons_succ]
            refine Reg.G_on (o := { dst := some 83, op := Op.move (Operand.tmp 82), type := 4, pos := "law.go:81", after := #[{ on := 11, ground := Ground.data }, { on := 7, ground := Ground.chain }], guard := Option.none }) (v := ?_) (by rfl) ?_ (fun wS hSw => ?_) ?_
            rotate_left
            · kernel_rfl
            · (try dsimp only at hSw); go_simp; (try with_reducible rfl)
            try simp only [Act.put, List.setIfInBounds_toArray, List.set_cons_zero, List.set_cons_succ]
            refine Reg.G_on (o := { dst := some 84, op := Op.move (Operand.tmp 5), type := 80, pos := "law.go:81", after := #[{ on := 12, ground := Ground.guard }], guard := some (12, false) }) (v := ?_) (by rfl) ?_ (fun wS hSw => ?_) ?_
            rotate_left
            · kernel_rfl
            · (try dsimp only at hSw); go_simp; (try with_reducible rfl)
            try simp only [Act.put, List.setIfInBounds_toArray, List.set_cons_zero, List.set_cons_succ]
            refine Reg.G_on (o := { dst := some 86, op := Op.move (Operand.tmp 0), type := 9, pos := "law.go:81", after := #[{ on := 12, ground := Ground.guard }], guard := some (12, false) }) (v := ?_) (by rfl) ?_ (fun wS hSw => ?_) ?_
            rotate_left
            · kernel_rfl
            · (try dsimp only at hSw); go_simp; (try with_reducible rfl)
            try simp only [Act.put, List.setIfInBounds_toArray, List.set_cons_zero, List.set_cons_succ]
            refine Reg.G_on (o := { dst := some 87, op := Op.load 92 (Operand.tmp 6), type := 92, pos := "law.go:81", after := #[{ on := 12, ground := Ground.guard }], guard := some (12, false) }) (v := ?_) (by rfl) ?_ (fun wS hSw => ?_) ?_
            rotate_left
            · kernel_rfl
            · (try dsimp only at hSw); go_simp; (try with_reducible rfl)
            try simp only [Act.put, List.setIfInBounds_toArray, List.set_cons_zero, List.set_cons_succ]
            refine Reg.G_step (o := { dst := some 85, op := Op.call { callee := Callee.value (Operand.func 63), args := #[Operand.tmp 84], argTypes := #[80] }, type := 73, pos := "law.go:81", after := #[{ on := 13, ground := Ground.data }, { on := 12, ground := Ground.chain }, { on := 12, ground := Ground.guard }], guard := some (12, false) }) (by rfl) ?_ (fun K hK => ?_)
            · kernel_rfl
            go_simp
            refine (done w.heap.size a2 b e2 _ hHeld.1).mono ?_
            rintro e w' ⟨rfl, hb⟩
            refine hK.out _ _ ?_ (fun hHeld => ?_)
            · exact ⟨hHeld.1.below hb, argb hb hHeld.2.1, argb hb hHeld.2.2⟩
            clear hK K
            try simp only [Act.put, List.setIfInBounds_toArray, List.set_cons_zero, List.set_cons_succ]
            skip
            have hb1 := hb
            clear hb
            refine Reg.G_step (o := { dst := some 88, op := Op.call { callee := Callee.value (Operand.func 67), args := #[Operand.tmp 86, Operand.tmp 87], argTypes := #[9, 92] }, type := 73, pos := "law.go:81", after := #[{ on := 15, ground := Ground.data }, { on := 16, ground := Ground.data }, { on := 14, ground := Ground.chain }, { on := 12, ground := Ground.guard }], guard := some (12, false) }) (by rfl) ?_ (fun K hK => ?_)
            · kernel_rfl
            go_simp
            refine (rdone b a2 e2 _).mono ?_
            rintro e w' ⟨rfl, hb⟩
            refine hK.out _ _ ?_ (fun hHeld => ?_)
            · exact ⟨hHeld.1.below hb, argb hb hHeld.2.1, argb hb hHeld.2.2⟩
            clear hK K
            try simp only [Act.put, List.setIfInBounds_toArray, List.set_cons_zero, List.set_cons_succ]
            refine Reg.G_on (o := { dst := some 89, op := Op.binOp BinOp.neq 73 (Operand.tmp 85) (Operand.tmp 88) 73, type := 4, pos := "law.go:81", after := #[{ on := 14, ground := Ground.data }, { on := 17, ground := Ground.data }, { on := 12, ground := Ground.guard }], guard := some (12, false) }) (v := ?_) (by rfl) ?_ (fun wS hSw => ?_) ?_
            rotate_left
            · kernel_rfl
            · (try dsimp only at hSw); go_simp; (try with_reducible rfl)
            try simp only [Act.put, List.setIfInBounds_toArray, List.set_cons_zero, List.set_cons_succ]
            refine Reg.G_on (o := { dst := some 90, op := Op.pick (Operand.tmp 83) (Operand.const (Value.bool true)) (Operand.tmp 89), type := 4, pos := "law.go:81", after := #[{ on := 12, ground := Ground.data }, { on := 18, ground := Ground.data }], guard := Option.none }) (v := ?_) (by rfl) ?_ (fun wS hSw => ?_) ?_
            rotate_left
            · kernel_rfl
            · (try dsimp only at hSw); go_simp; (try with_reducible rfl)
            try simp only [Act.put, List.setIfInBounds_toArray, List.set_cons_zero, List.set_cons_succ]
            refine Reg.G_done ?_
            go_wp2
            have hb3 := (Below.refl W.heap.size W).drew.trans (bstep hb1 hb)
            have HB3 : Bo w w' w.heap.size r a2 b e2 := ⟨HB.cb.below hb3, HB.rc.below hb3, bstep HB.be hb3, HB.ab, HB.c0, HB.r0, HB.cr⟩
            go_roundw
            case rel => exact ⟨k + 1, a2, e2, by omega, by go_num, HB3⟩
            case measure => simp [intOf]; omega

          · refine Reg.G_step (o := { dst := some 9, op := Op.alloc 92, type := 0, pos := "law.go:69", after := #[], guard := Option.none }) (by rfl) ?_ (fun K hK => ?_)
            · kernel_rfl
            go_simp
            refine hK.out _ _ ?_ (fun hHeld => ?_)
            · exact ⟨cnew hHeld.1, cnew hHeld.2.1, cnew hHeld.2.2⟩
            clear hK K
            try simp only [Act.put, List.setIfInBounds_toArray, List.set_cons_zero, List.set_cons_succ]
            skip
            refine Reg.G_step (o := { dst := some 37, op := Op.call { callee := Callee.value (Operand.func 65), args := #[Operand.tmp 30, Operand.tmp 31, Operand.tmp 36], argTypes := #[9, 92, 3] }, type := 95, pos := "law.go:69", after := #[{ on := 0, ground := Ground.data }, { on := 1, ground := Ground.data }, { on := 6, ground := Ground.data }], guard := Option.none }) (by rfl) ?_ (fun K hK => ?_)
            · kernel_rfl
            go_simp
            refine (hR _).mono ?_
            rintro e w' ⟨rfl, hb⟩
            refine hK.out _ _ ?_ (fun hHeld => ?_)
            · exact ⟨argb hb hHeld.1, argb hb hHeld.2.1, argb hb hHeld.2.2⟩
            clear hK K
            try simp only [Act.put, List.setIfInBounds_toArray, List.set_cons_zero, List.set_cons_succ]
            refine Reg.G_on (o := { dst := some 29, op := Op.move (Operand.tmp 37), type := 95, pos := "law.go:69", after := #[{ on := 7, ground := Ground.data }], guard := Option.none }) (v := ?_) (by rfl) ?_ (fun wS hSw => ?_) ?_
            rotate_left
            · kernel_rfl
            · (try dsimp only at hSw); go_simp; (try with_reducible rfl)
            try simp only [Act.put, List.setIfInBounds_toArray, List.set_cons_zero, List.set_cons_succ]
            refine Reg.G_on (o := { dst := some 38, op := Op.extract (Operand.tmp 29) 0, type := 9, pos := "law.go:69", after := #[{ on := 8, ground := Ground.data }], guard := Option.none }) (v := ?_) (by rfl) ?_ (fun wS hSw => ?_) ?_
            rotate_left
            · kernel_rfl
            · (try dsimp only at hSw); go_simp; (try with_reducible rfl)
            try simp only [Act.put, List.setIfInBounds_toArray, List.set_cons_zero, List.set_cons_succ]
            refine Reg.G_on (o := { dst := some 39, op := Op.extract (Operand.tmp 29) 1, type := 92, pos := "law.go:69", after := #[{ on := 8, ground := Ground.data }, { on := 12, ground := Ground.gcOnly Departure.lateStores }], guard := Option.none }) (v := ?_) (by rfl) ?_ (fun wS hSw => ?_) ?_
            rotate_left
            · kernel_rfl
            · (try dsimp only at hSw); go_simp; (try with_reducible rfl)
            try simp only [Act.put, List.setIfInBounds_toArray, List.set_cons_zero, List.set_cons_succ]
            refine Reg.G_on (o := { dst := some 8, op := Op.assign (Operand.tmp 38), type := 9, pos := "law.go:69", after := #[{ on := 9, ground := Ground.data }, { on := 7, ground := Ground.chain }, { on := 0, ground := Ground.phase }, { on := 1, ground := Ground.phase }, { on := 2, ground := Ground.phase }, { on := 3, ground := Ground.phase }, { on := 4, ground := Ground.phase }, { on := 5, ground := Ground.phase }, { on := 6, ground := Ground.phase }, { on := 7, ground := Ground.phase }, { on := 8, ground := Ground.phase }, { on := 9, ground := Ground.phase }, { on := 10, ground := Ground.textOnly Departure.lateStores }, { on := 11, ground := Ground.phase }], guard := Option.none }) (v := ?_) (by rfl) ?_ (fun wS hSw => ?_) ?_
            rotate_left
            · kernel_rfl
            · (try dsimp only at hSw); go_simp; (try with_reducible rfl)
            try simp only [Act.put, List.setIfInBounds_toArray, List.set_cons_zero, List.set_cons_succ]
            have hbs := hb.size
            simp at hbs
            have z8 : RC w' wr.heap.size 0 0 := (hb.block wr.heap.size (by simp)).trans (heap_alloc_new wr _)
            have hzr : wr.heap.size ≠ r := by omega
            have hws := HB.be.size
            have hza : wr.heap.size ≠ (ad.add (k * 2)).block := by omega
            obtain ⟨⟨z0, z1⟩, y0, y1⟩ := two_ z8
            refine Reg.G_step (o := { dst := Option.none, op := Op.store 92 (Operand.tmp 9) (Operand.tmp 39), type := 0, pos := "law.go:69", after := #[{ on := 11, ground := Ground.data }, { on := 10, ground := Ground.data }, { on := 12, ground := Ground.chain }, { on := 0, ground := Ground.phase }, { on := 1, ground := Ground.phase }, { on := 2, ground := Ground.phase }, { on := 3, ground := Ground.phase }, { on := 4, ground := Ground.phase }, { on := 5, ground := Ground.phase }, { on := 6, ground := Ground.phase }, { on := 7, ground := Ground.phase }, { on := 8, ground := Ground.phase }, { on := 9, ground := Ground.phase }, { on := 10, ground := Ground.phase }, { on := 11, ground := Ground.phase }, { on := 12, ground := Ground.phase }], guard := Option.none }) (by rfl) ?_ (fun K hK => ?_)
            · kernel_rfl
            go_simp
            refine hK.out _ _ ?_ (fun hHeld => ?_)
            · exact ⟨cfar (cfar hHeld.1 hzr) hzr, cfar (cfar hHeld.2.1 hzr) hzr, cfar (cfar hHeld.2.2 hza) hza⟩
            clear hK K
            try simp only [Act.put, List.setIfInBounds_toArray, List.set_cons_zero, List.set_cons_succ]
            refine Reg.G_done ?_
            obtain ⟨wz, hwz⟩ : ∃ wz, wz = set2 w' wr.heap.size a2 e2 := ⟨_, rfl⟩
            have bz : Below wr.heap.size wr wz := by
              rw [hwz]
              exact ((((Below.refl wr.heap.size wr).alloc (Nat.le_refl _) _).drew.trans (hb.mono (by simp))).setCell (Nat.le_refl _) _).setCell (Nat.le_refl _) _
            have hz2 : RC wz wr.heap.size a2 e2 := by rw [hwz]; exact z8.set
            unfold set2 at hwz
            rw [← hwz]
            clear hwz hb hbs t0 t1 g0 g1 z8 z0 z1 y0 y1 hHeld hza
            obtain ⟨z, hz⟩ : ∃ z, z = wr.heap.size := ⟨_, rfl⟩
            rw [← hz] at hz2 hzr ⊢
            clear hz hws
            have cz := HB.cb.below bz
            have rz := HB.rc.below bz
            have dz := argb bz c1
            have bbz := bstep HB.be bz
            obtain ⟨⟨s0, s1⟩, -⟩ := two_ hz2
            obtain ⟨⟨t0, t1⟩, u0, u1⟩ := two_ rz
            have rW := RC.set (w := wz) (a' := a2) (e' := e2) rz
            have mW := set2_mod wz r a2 e2
            obtain ⟨W1, hW⟩ : ∃ W1, W1 = set2 wz r a2 e2 := ⟨_, rfl⟩
            rw [← hW] at rW mW
            have cW := cz.far mW (fun h => HB.cr h)
            have bW := mW.below bbz bbz.size (fun k hk => by rw [show k = r from hk]; exact HB.r0)
            have dW := argc mW (fun k (hk : At r k) => show w.heap.size ≤ k by rw [show k = r from hk]; exact HB.r0) hal dz
            unfold set2 at hW
            have hT1 := hT W1 cW
            have hne1 : (ad.add (k * 2)).block ≠ r := by have := HB.r0; omega
            have hne2 : r ≠ (ad.add (k * 2)).block := fun h => hne1 h.symm
            clear hT c1 bz bbz mW rz cz hR dW
            go_wp2_with fail
            rw [← hW]
            clear hW s0 s1 t0 t1 u0 u1 dz hz2 cW hne1 hne2
            refine hT1.mono ?_
            rintro e' W ⟨rfl, hc, mc⟩
            have hra : ¬ At w.heap.size r := fun h => HB.cr (show r = w.heap.size from h).symm
            have HB2 : Bo w W w.heap.size r a2 b e2 := ⟨hc, rW.far mc hra, mc.below bW bW.size (fun k hk => by rw [show k = w.heap.size from hk]; exact Nat.le_refl _), hab2, HB.c0, HB.r0, HB.cr⟩
            clear HB hT1 hc mc bW rW hab2
            have HB := HB2
            clear HB2
            obtain ⟨⟨t0, t1⟩, -⟩ := two_ HB.rc
            have hrl := blk_lt HB.rc
            go_wp2_with fail
            refine Reg.wp_plan (S := fun w' => CB w' w.heap.size a2 b e2 ∧ w'.cell? ⟨r, 0, none⟩ = some (.int .i64 (a2 : Int)) ∧ w'.cell? ⟨r, 1, none⟩ = some (.int .i64 e2)) 20 (.fl 0 (.fl 2 (.fl 3 (.one 1 (.fl 4 (.fl 5 (.fl 6 (.fl 8 (.fl 9 (.one 7 (.fl 10 (.fl 11 (.fl 12 (.fl 13 (.fl 15 (.fl 16 (.one 14 (.one 17 (.fl 18 (.fl 19 .done)))))))))))))))))))) (by kernel_rfl) (by kernel_rfl) (by kernel_rfl) (by kernel_rfl) (fun _ _ _ d _ h => by cases d <;> exact h) ?_ (fun hHeld => ?_)
            · exact ⟨HB.cb, by simpa using t0, by simpa using t1⟩
            refine Reg.G_on (o := { dst := some 71, op := Op.move (Operand.tmp 5), type := 80, pos := "law.go:81", after := #[], guard := Option.none }) (v := ?_) (by rfl) ?_ (fun wS hSw => ?_) ?_
            rotate_left
            · kernel_rfl
            · (try dsimp only at hSw); go_simp; (try with_reducible rfl)
            try simp only [Act.put, List.setIfInBounds_toArray, List.set_cons_zero, List.set_cons_succ]
            refine Reg.G_on (o := { dst := some 73, op := Op.fieldAddr 92 (Operand.tmp 6) 0, type := 0, pos := "law.go:81", after := #[], guard := Option.none }) (v := ?_) (by rfl) ?_ (fun wS hSw => ?_) ?_
            rotate_left
            · kernel_rfl
            · (try dsimp only at hSw); go_simp; (try with_reducible rfl)
            try simp only [Act.put, List.setIfInBounds_toArray, List.set_cons_zero, List.set_cons_succ]
            refine Reg.G_on (o := { dst := some 74, op := Op.load 3 (Operand.tmp 73), type := 3, pos := "law.go:81", after := #[{ on := 2, ground := Ground.data }], guard := Option.none }) (v := ?_) (by rfl) ?_ (fun wS hSw => ?_) ?_
            rotate_left
            · kernel_rfl
            · (try dsimp only at hSw); go_simp; (try with_reducible rfl)
            try simp only [Act.put, List.setIfInBounds_toArray, List.set_cons_zero, List.set_cons_succ]
            refine Reg.G_step (o := { dst := some 72, op := Op.call { callee := Callee.value (Operand.func 61), args := #[Operand.tmp 71], argTypes := #[80] }, type := 3, pos := "law.go:81", after := #[{ on := 0, ground := Ground.data }], guard := Option.none }) (by rfl) ?_ (fun K hK => ?_)
            · kernel_rfl
            go_simp
            refine (at_ w.heap.size a2 b e2 _ hHeld.1).mono ?_
            rintro e w' ⟨rfl, rfl⟩
            refine hK.out _ _ ?_ (fun hHeld => ?_)
            · exact hHeld
            clear hK K
            try simp only [Act.put, List.setIfInBounds_toArray, List.set_cons_zero, List.set_cons_succ]
            refine Reg.G_on (o := { dst := some 75, op := Op.binOp BinOp.neq 3 (Operand.tmp 72) (Operand.tmp 74) 3, type := 4, pos := "law.go:81", after := #[{ on := 1, ground := Ground.data }, { on := 3, ground := Ground.data }], guard := Option.none }) (v := ?_) (by rfl) ?_ (fun wS hSw => ?_) ?_
            rotate_left
            · kernel_rfl
            · (try dsimp only at hSw); go_simp; (try with_reducible rfl)
            try simp only [Act.put, List.setIfInBounds_toArray, List.set_cons_zero, List.set_cons_succ]
            refine Reg.G_on (o := { dst := some 76, op := Op.move (Operand.tmp 75), type := 4, pos := "law.go:81", after := #[{ on := 4, ground := Ground.data }, { on := 1, ground := Ground.chain }], guard := Option.none }) (v := ?_) (by rfl) ?_ (fun wS hSw => ?_) ?_
            rotate_left
            · kernel_rfl
            · (try dsimp only at hSw); go_simp; (try with_reducible rfl)
            try simp only [Act.put, List.setIfInBounds_toArray, List.set_cons_zero, List.set_cons_succ]
            refine Reg.G_on (o := { dst := some 77, op := Op.move (Operand.tmp 5), type := 80, pos := "law.go:81", after := #[{ on := 5, ground := Ground.guard }], guard := some (5, false) }) (v := ?_) (by rfl) ?_ (fun wS hSw => ?_) ?_
            rotate_left
            · kernel_rfl
            · (try dsimp only at hSw); go_simp; (try with_reducible rfl)
            try simp only [Act.put, List.setIfInBounds_toArray, List.set_cons_zero, List.set_cons_succ]
            refine Reg.G_on (o := { dst := some 79, op := Op.fieldAddr 92 (Operand.tmp 6) 1, type := 0, pos := "law.go:81", after := #[{ on := 5, ground := Ground.guard }], guard := some (5, false) }) (v := ?_) (by rfl) ?_ (fun wS hSw => ?_) ?_
            rotate_left
            · kernel_rfl
            · (try dsimp only at hSw); go_simp; (try with_reducible rfl)
            try simp only [Act.put, List.setIfInBounds_toArray, List.set_cons_zero, List.set_cons_succ]
            refine Reg.G_on (o := { dst := some 80, op := Op.load 73 (Operand.tmp 79), type := 73, pos := "law.go:81", after := #[{ on := 8, ground := Ground.data }, { on := 5, ground := Ground.guard }], guard := some (5, false) }) (v := ?_) (by rfl) ?_ (fun wS hSw => ?_) ?_
            rotate_left
            · kernel_rfl
            · (try dsimp only at hSw); go_simp; (try with_reducible rfl)
            try simp only [Act.put, List.setIfInBounds_toArray, List.set_cons_zero, List.set_cons_succ]
            refine Reg.G_step (o := { dst := some 78, op := Op.call { callee := Callee.value (Operand.func 62), args := #[Operand.tmp 77], argTypes := #[80] }, type := 73, pos := "law.go:81", after := #[{ on := 6, ground := Ground.data }, { on := 5, ground := Ground.chain }, { on := 5, ground := Ground.guard }], guard := some (5, false) }) (by rfl) ?_ (fun K hK => ?_)
            · kernel_rfl
            go_simp
            refine (err w.heap.size a2 b e2 _ hHeld.1).mono ?_
            rintro e w' ⟨rfl, rfl⟩
            refine hK.out _ _ ?_ (fun hHeld => ?_)
            · exact hHeld
            clear hK K
            try simp only [Act.put, List.setIfInBounds_toArray, List.set_cons_zero, List.set_cons_succ]
            refine Reg.G_on (o := { dst := some 81, op := Op.binOp BinOp.neq 73 (Operand.tmp 78) (Operand.tmp 80) 73, type := 4, pos := "law.go:81", after := #[{ on := 7, ground := Ground.data }, { on := 9, ground := Ground.data }, { on := 5, ground := Ground.guard }], guard := some (5, false) }) (v := ?_) (by rfl) ?_ (fun wS hSw => ?_) ?_
            rotate_left
            · kernel_rfl
            · (try dsimp only at hSw); go_simp; (try with_reducible rfl)
            try simp only [Act.put, List.setIfInBounds_toArray, List.set_cons_zero, List.set_cons_succ]
            refine Reg.G_on (o := { dst := some 82, op := Op.pick (Operand.tmp 76) (Operand.const (Value.bool true)) (Operand.tmp 81), type := 4, pos := "law.go:81", after := #[{ on := 5, ground := Ground.data }, { on := 10, ground := Ground.data }], guard := Option.none }) (v := ?_) (by rfl) ?_ (fun wS hSw => ?_) ?_
            rotate_left
            · kernel_rfl
            · (try dsimp only at hSw); go_simp; (try with_reducible rfl)
            try simp only [Act.put, List.setIfInBounds_toArray, List.set_cons_zero, List.set_cons_succ]
            refine Reg.G_on (o := { dst := some 83, op := Op.move (Operand.tmp 82), type := 4, pos := "law.go:81", after := #[{ on := 11, ground := Ground.data }, { on := 7, ground := Ground.chain }], guard := Option.none }) (v := ?_) (by rfl) ?_ (fun wS hSw => ?_) ?_
            rotate_left
            · kernel_rfl
            · (try dsimp only at hSw); go_simp; (try with_reducible rfl)
            try simp only [Act.put, List.setIfInBounds_toArray, List.set_cons_zero, List.set_cons_succ]
            refine Reg.G_on (o := { dst := some 84, op := Op.move (Operand.tmp 5), type := 80, pos := "law.go:81", after := #[{ on := 12, ground := Ground.guard }], guard := some (12, false) }) (v := ?_) (by rfl) ?_ (fun wS hSw => ?_) ?_
            rotate_left
            · kernel_rfl
            · (try dsimp only at hSw); go_simp; (try with_reducible rfl)
            try simp only [Act.put, List.setIfInBounds_toArray, List.set_cons_zero, List.set_cons_succ]
            refine Reg.G_on (o := { dst := some 86, op := Op.move (Operand.tmp 0), type := 9, pos := "law.go:81", after := #[{ on := 12, ground := Ground.guard }], guard := some (12, false) }) (v := ?_) (by rfl) ?_ (fun wS hSw => ?_) ?_
            rotate_left
            · kernel_rfl
            · (try dsimp only at hSw); go_simp; (try with_reducible rfl)
            try simp only [Act.put, List.setIfInBounds_toArray, List.set_cons_zero, List.set_cons_succ]
            refine Reg.G_on (o := { dst := some 87, op := Op.load 92 (Operand.tmp 6), type := 92, pos := "law.go:81", after := #[{ on := 12, ground := Ground.guard }], guard := some (12, false) }) (v := ?_) (by rfl) ?_ (fun wS hSw => ?_) ?_
            rotate_left
            · kernel_rfl
            · (try dsimp only at hSw); go_simp; (try with_reducible rfl)
            try simp only [Act.put, List.setIfInBounds_toArray, List.set_cons_zero, List.set_cons_succ]
            refine Reg.G_step (o := { dst := some 85, op := Op.call { callee := Callee.value (Operand.func 63), args := #[Operand.tmp 84], argTypes := #[80] }, type := 73, pos := "law.go:81", after := #[{ on := 13, ground := Ground.data }, { on := 12, ground := Ground.chain }, { on := 12, ground := Ground.guard }], guard := some (12, false) }) (by rfl) ?_ (fun K hK => ?_)
            · kernel_rfl
            go_simp
            refine (done w.heap.size a2 b e2 _ hHeld.1).mono ?_
            rintro e w' ⟨rfl, hb⟩
            refine hK.out _ _ ?_ (fun hHeld => ?_)
            · exact ⟨hHeld.1.below hb, argb hb hHeld.2.1, argb hb hHeld.2.2⟩
            clear hK K
            try simp only [Act.put, List.setIfInBounds_toArray, List.set_cons_zero, List.set_cons_succ]
            skip
            have hb1 := hb
            clear hb
            refine Reg.G_step (o := { dst := some 88, op := Op.call { callee := Callee.value (Operand.func 67), args := #[Operand.tmp 86, Operand.tmp 87], argTypes := #[9, 92] }, type := 73, pos := "law.go:81", after := #[{ on := 15, ground := Ground.data }, { on := 16, ground := Ground.data }, { on := 14, ground := Ground.chain }, { on := 12, ground := Ground.guard }], guard := some (12, false) }) (by rfl) ?_ (fun K hK => ?_)
            · kernel_rfl
            go_simp
            refine (rdone b a2 e2 _).mono ?_
            rintro e w' ⟨rfl, hb⟩
            refine hK.out _ _ ?_ (fun hHeld => ?_)
            · exact ⟨hHeld.1.below hb, argb hb hHeld.2.1, argb hb hHeld.2.2⟩
            clear hK K
            try simp only [Act.put, List.setIfInBounds_toArray, List.set_cons_zero, List.set_cons_succ]
            refine Reg.G_on (o := { dst := some 89, op := Op.binOp BinOp.neq 73 (Operand.tmp 85) (Operand.tmp 88) 73, type := 4, pos := "law.go:81", after := #[{ on := 14, ground := Ground.data }, { on := 17, ground := Ground.data }, { on := 12, ground := Ground.guard }], guard := some (12, false) }) (v := ?_) (by rfl) ?_ (fun wS hSw => ?_) ?_
            rotate_left
            · kernel_rfl
            · (try dsimp only at hSw); go_simp; (try with_reducible rfl)
            try simp only [Act.put, List.setIfInBounds_toArray, List.set_cons_zero, List.set_cons_succ]
            refine Reg.G_on (o := { dst := some 90, op := Op.pick (Operand.tmp 83) (Operand.const (Value.bool true)) (Operand.tmp 89), type := 4, pos := "law.go:81", after := #[{ on := 12, ground := Ground.data }, { on := 18, ground := Ground.data }], guard := Option.none }) (v := ?_) (by rfl) ?_ (fun wS hSw => ?_) ?_
            rotate_left
            · kernel_rfl
            · (try dsimp only at hSw); go_simp; (try with_reducible rfl)
            try simp only [Act.put, List.setIfInBounds_toArray, List.set_cons_zero, List.set_cons_succ]
            refine Reg.G_done ?_
            go_wp2
            have hb3 := (Below.refl W.heap.size W).drew.trans (bstep hb1 hb)
            have HB3 : Bo w w' w.heap.size r a2 b e2 := ⟨HB.cb.below hb3, HB.rc.below hb3, bstep HB.be hb3, HB.ab, HB.c0, HB.r0, HB.cr⟩
            go_roundw
            case rel => exact ⟨k + 1, a2, e2, by omega, by go_num, HB3⟩
            case measure => simp [intOf]; omega
        | false =>
          obtain ⟨sv, a2, e2, hr, hab2⟩ := ctake_ex b a e n HB.ab
          have hR := fun w => rtake2 b a e n HB.ab HZ.out w
          have hT := fun W h => take_at w.heap.size a b e n W h HB.ab HZ.out hr
          rw [hr] at hR
          clear hr
          go_wp2_with fail
          refine Reg.wp_plan (S := fun w' => w'.cell? ⟨r, 0, none⟩ = some (.int .i64 (a : Int)) ∧ w'.cell? ⟨r, 1, none⟩ = some (.int .i64 e) ∧ w'.cell? ⟨(ad.add (k * 2)).block, (ad.add (k * 2)).off + 1, none⟩ = some (.int .i64 n)) 14 (.fl 0 (.fl 1 (.fl 2 (.fl 3 (.fl 4 (.fl 5 (.fl 6 (.two 7 11 (.fl 8 (.fl 9 (.fl 10 (.one 11 (.fl 12 (.one 13 .done)))))) (.one 7 (.fl 8 (.fl 9 (.fl 10 (.fl 12 (.one 13 .done)))))))))))))) (by kernel_rfl) (by kernel_rfl) (by kernel_rfl) (by kernel_rfl) (fun _ _ _ d _ h => by cases d <;> exact h) ?_ (fun hHeld => ?_)
          · exact ⟨by simpa using t0, by simpa using t1, by simpa using c1⟩
          refine Reg.G_on (o := { dst := some 51, op := Op.move (Operand.tmp 0), type := 9, pos := "law.go:75", after := #[], guard := Option.none }) (v := ?_) (by rfl) ?_ (fun wS hSw => ?_) ?_
          rotate_left
          · kernel_rfl
          · (try dsimp only at hSw); go_simp; (try with_reducible rfl)
          try simp only [Act.put, List.setIfInBounds_toArray, List.set_cons_zero, List.set_cons_succ]
          refine Reg.G_on (o := { dst := some 52, op := Op.load 92 (Operand.tmp 6), type := 92, pos := "law.go:75", after := #[], guard := Option.none }) (v := ?_) (by rfl) ?_ (fun wS hSw => ?_) ?_
          rotate_left
          · kernel_rfl
          · (try dsimp only at hSw); go_simp; (try with_reducible rfl)
          try simp only [Act.put, List.setIfInBounds_toArray, List.set_cons_zero, List.set_cons_succ]
          refine Reg.G_on (o := { dst := some 53, op := Op.move (Operand.tmp 1), type := 89, pos := "law.go:75", after := #[], guard := Option.none }) (v := ?_) (by rfl) ?_ (fun wS hSw => ?_) ?_
          rotate_left
          · kernel_rfl
          · (try dsimp only at hSw); go_simp; (try with_reducible rfl)
          try simp only [Act.put, List.setIfInBounds_toArray, List.set_cons_zero, List.set_cons_succ]
          refine Reg.G_on (o := { dst := some 54, op := Op.move (Operand.tmp 7), type := 3, pos := "law.go:75", after := #[], guard := Option.none }) (v := ?_) (by rfl) ?_ (fun wS hSw => ?_) ?_
          rotate_left
          · kernel_rfl
          · (try dsimp only at hSw); go_simp; (try with_reducible rfl)
          try simp only [Act.put, List.setIfInBounds_toArray, List.set_cons_zero, List.set_cons_succ]
          refine Reg.G_on (o := { dst := some 55, op := Op.indexAddr 89 (Operand.tmp 53) (Operand.tmp 54), type := 0, pos := "law.go:75", after := #[{ on := 2, ground := Ground.data }, { on := 3, ground := Ground.data }], guard := Option.none }) (v := ?_) (by rfl) ?_ (fun wS hSw => ?_) ?_
          rotate_left
          · kernel_rfl
          · (try dsimp only at hSw); go_simp; (try with_reducible rfl)
          try simp only [Act.put, List.setIfInBounds_toArray, List.set_cons_zero, List.set_cons_succ]
          refine Reg.G_on (o := { dst := some 56, op := Op.fieldAddr 94 (Operand.tmp 55) 1, type := 0, pos := "law.go:75", after := #[{ on := 4, ground := Ground.data }], guard := Option.none }) (v := ?_) (by rfl) ?_ (fun wS hSw => ?_) ?_
          rotate_left
          · kernel_rfl
          · (try dsimp only at hSw); go_simp; (try with_reducible rfl)
          try simp only [Act.put, List.setIfInBounds_toArray, List.set_cons_zero, List.set_cons_succ]
          refine Reg.G_on (o := { dst := some 57, op := Op.load 3 (Operand.tmp 56), type := 3, pos := "law.go:75", after := #[{ on := 5, ground := Ground.data }], guard := Option.none }) (v := ?_) (by rfl) ?_ (fun wS hSw => ?_) ?_
          rotate_left
          · kernel_rfl
          · (try dsimp only at hSw); go_simp; (try with_reducible rfl)
          try simp only [Act.put, List.setIfInBounds_toArray, List.set_cons_zero, List.set_cons_succ]
          refine Reg.G_two ?_ ?_
          · refine Reg.G_step (o := { dst := some 58, op := Op.call { callee := Callee.value (Operand.func 66), args := #[Operand.tmp 51, Operand.tmp 52, Operand.tmp 57], argTypes := #[9, 92, 3] }, type := 97, pos := "law.go:75", after := #[{ on := 0, ground := Ground.data }, { on := 1, ground := Ground.data }, { on := 6, ground := Ground.data }], guard := Option.none }) (by rfl) ?_ (fun K hK => ?_)
            · kernel_rfl
            go_simp
            refine (hR _).mono ?_
            rintro e w' ⟨rfl, hb⟩
            refine hK.out _ _ ?_ (fun hHeld => ?_)
            · exact ⟨argb hb hHeld.1, argb hb hHeld.2.1, argb hb hHeld.2.2⟩
            clear hK K
            try simp only [Act.put, List.setIfInBounds_toArray, List.set_cons_zero, List.set_cons_succ]
            have hH1 := hHeld
            refine Reg.G_on (o := { dst := some 50, op := Op.move (Operand.tmp 58), type := 97, pos := "law.go:75", after := #[{ on := 7, ground := Ground.data }], guard := Option.none }) (v := ?_) (by rfl) ?_ (fun wS hSw => ?_) ?_
            rotate_left
            · kernel_rfl
            · (try dsimp only at hSw); go_simp; (try with_reducible rfl)
            try simp only [Act.put, List.setIfInBounds_toArray, List.set_cons_zero, List.set_cons_succ]
            refine Reg.G_on (o := { dst := some 59, op := Op.extract (Operand.tmp 50) 0, type := 22, pos := "law.go:75", after := #[{ on := 8, ground := Ground.data }], guard := Option.none }) (v := ?_) (by rfl) ?_ (fun wS hSw => ?_) ?_
            rotate_left
            · kernel_rfl
            · (try dsimp only at hSw); go_simp; (try with_reducible rfl)
            try simp only [Act.put, List.setIfInBounds_toArray, List.set_cons_zero, List.set_cons_succ]
            refine Reg.G_on (o := { dst := some 60, op := Op.extract (Operand.tmp 50) 1, type := 92, pos := "law.go:75", after := #[{ on := 8, ground := Ground.data }, { on := 12, ground := Ground.gcOnly Departure.lateStores }], guard := Option.none }) (v := ?_) (by rfl) ?_ (fun wS hSw => ?_) ?_
            rotate_left
            · kernel_rfl
            · (try dsimp only at hSw); go_simp; (try with_reducible rfl)
            try simp only [Act.put, List.setIfInBounds_toArray, List.set_cons_zero, List.set_cons_succ]
            refine Reg.G_step (o := { dst := some 11, op := Op.alloc 92, type := 0, pos := "law.go:75", after := #[], guard := Option.none }) (by rfl) ?_ (fun K hK => ?_)
            · kernel_rfl
            go_simp
            refine hK.out _ _ ?_ (fun hHeld => ?_)
            · exact ⟨cnew hHeld.1, cnew hHeld.2.1, cnew hHeld.2.2⟩
            clear hK K
            try simp only [Act.put, List.setIfInBounds_toArray, List.set_cons_zero, List.set_cons_succ]
            refine Reg.G_on (o := { dst := some 10, op := Op.assign (Operand.tmp 59), type := 22, pos := "law.go:75", after := #[{ on := 9, ground := Ground.data }, { on := 7, ground := Ground.chain }, { on := 0, ground := Ground.phase }, { on := 1, ground := Ground.phase }, { on := 2, ground := Ground.phase }, { on := 3, ground := Ground.phase }, { on := 4, ground := Ground.phase }, { on := 5, ground := Ground.phase }, { on := 6, ground := Ground.phase }, { on := 7, ground := Ground.phase }, { on := 8, ground := Ground.phase }, { on := 9, ground := Ground.phase }, { on := 10, ground := Ground.textOnly Departure.lateStores }, { on := 11, ground := Ground.phase }], guard := Option.none }) (v := ?_) (by rfl) ?_ (fun wS hSw => ?_) ?_
            rotate_left
            · kernel_rfl
            · (try dsimp only at hSw); go_simp; (try with_reducible rfl)
            try simp only [Act.put, List.setIfInBounds_toArray, List.set_cons_zero, List.set_cons_succ]
            refine Reg.G_step (o := { dst := Option.none, op := Op.store 92 (Operand.tmp 11) (Operand.tmp 60), type := 0, pos := "law.go:75", after := #[{ on := 11, ground := Ground.data }, { on := 10, ground := Ground.data }, { on := 12, ground := Ground.chain }, { on := 0, ground := Ground.phase }, { on := 1, ground := Ground.phase }, { on := 2, ground := Ground.phase }, { on := 3, ground := Ground.phase }, { on := 4, ground := Ground.phase }, { on := 5, ground := Ground.phase }, { on := 6, ground := Ground.phase }, { on := 7, ground := Ground.phase }, { on := 8, ground := Ground.phase }, { on := 9, ground := Ground.phase }, { on := 10, ground := Ground.phase }, { on := 11, ground := Ground.phase }, { on := 12, ground := Ground.phase }], guard := Option.none }) (by rfl) ?_ (fun K hK => ?_)
            · kernel_rfl
            go_simp
            refine hK.out _ _ ?_ (fun hHeld => ?_)
            · exact ⟨cnew hH1.1, cnew hH1.2.1, cnew hH1.2.2⟩
            clear hK K
            try simp only [Act.put, List.setIfInBounds_toArray, List.set_cons_zero, List.set_cons_succ]
            refine Reg.G_done ?_
            clear hH1 hHeld
            obtain ⟨wz, hwz⟩ : ∃ wz, wz = w'.alloc (.cells #[.int .i64 (a2 : Int), .int .i64 e2] 92) := ⟨_, rfl⟩
            have bz : Below wr.heap.size wr wz := by rw [hwz]; exact ((Below.refl wr.heap.size wr).drew.trans hb).alloc hb.size _
            have hz2 : RC wz w'.heap.size a2 e2 := by rw [hwz]; exact heap_alloc_new _ _
            have hzr : w'.heap.size ≠ r := by have := hb.size; simp at this; omega
            rw [← hwz]
            clear hwz hb t0 t1 g0 g1
            generalize w'.heap.size = z at *
            have cz := HB.cb.below bz
            have rz := HB.rc.below bz
            have dz := argb bz c1
            have bbz := bstep HB.be bz
            obtain ⟨⟨s0, s1⟩, -⟩ := two_ hz2
            obtain ⟨⟨t0, t1⟩, u0, u1⟩ := two_ rz
            have rW := RC.set (w := wz) (a' := a2) (e' := e2) rz
            have mW := set2_mod wz r a2 e2
            obtain ⟨W1, hW⟩ : ∃ W1, W1 = set2 wz r a2 e2 := ⟨_, rfl⟩
            rw [← hW] at rW mW
            have cW := cz.far mW (fun h => HB.cr h)
            have bW := mW.below bbz bbz.size (fun k hk => by rw [show k = r from hk]; exact HB.r0)
            have dW := argc mW (fun k (hk : At r k) => show w.heap.size ≤ k by rw [show k = r from hk]; exact HB.r0) hal dz
            unfold set2 at hW
            have hT1 := hT W1 cW
            have hne1 : (ad.add (k * 2)).block ≠ r := by have := HB.r0; omega
            have hne2 : r ≠ (ad.add (k * 2)).block := fun h => hne1 h.symm
            clear hT c1 bz bbz mW rz cz hR dW
            go_wp2_with fail
            rw [← hW]
            clear hW s0 s1 t0 t1 u0 u1 dz hz2 cW hne1 hne2
            refine hT1.mono ?_
            rintro e' W ⟨rfl, hc, mc⟩
            have hra : ¬ At w.heap.size r := fun h => HB.cr (show r = w.heap.size from h).symm
            have HB2 : Bo w W w.heap.size r a2 b e2 := ⟨hc, rW.far mc hra, mc.below bW bW.size (fun k hk => by rw [show k = w.heap.size from hk]; exact Nat.le_refl _), hab2, HB.c0, HB.r0, HB.cr⟩
            clear HB hT1 hc mc bW rW hab2
            have HB := HB2
            clear HB2
            obtain ⟨⟨t0, t1⟩, -⟩ := two_ HB.rc
            have hrl := blk_lt HB.rc
            go_wp2_with fail
            refine Reg.wp_plan (S := fun w' => CB w' w.heap.size a2 b e2 ∧ w'.cell? ⟨r, 0, none⟩ = some (.int .i64 (a2 : Int)) ∧ w'.cell? ⟨r, 1, none⟩ = some (.int .i64 e2)) 20 (.fl 0 (.fl 2 (.fl 3 (.one 1 (.fl 4 (.fl 5 (.fl 6 (.fl 8 (.fl 9 (.one 7 (.fl 10 (.fl 11 (.fl 12 (.fl 13 (.fl 15 (.fl 16 (.one 14 (.one 17 (.fl 18 (.fl 19 .done)))))))))))))))))))) (by kernel_rfl) (by kernel_rfl) (by kernel_rfl) (by kernel_rfl) (fun _ _ _ d _ h => by cases d <;> exact h) ?_ (fun hHeld => ?_)
            · exact ⟨HB.cb, by simpa using t0, by simpa using t1⟩
            refine Reg.G_on (o := { dst := some 71, op := Op.move (Operand.tmp 5), type := 80, pos := "law.go:81", after := #[], guard := Option.none }) (v := ?_) (by rfl) ?_ (fun wS hSw => ?_) ?_
            rotate_left
            · kernel_rfl
            · (try dsimp only at hSw); go_simp; (try with_reducible rfl)
            try simp only [Act.put, List.setIfInBounds_toArray, List.set_cons_zero, List.set_cons_succ]
            refine Reg.G_on (o := { dst := some 73, op := Op.fieldAddr 92 (Operand.tmp 6) 0, type := 0, pos := "law.go:81", after := #[], guard := Option.none }) (v := ?_) (by rfl) ?_ (fun wS hSw => ?_) ?_
            rotate_left
            · kernel_rfl
            · (try dsimp only at hSw); go_simp; (try with_reducible rfl)
            try simp only [Act.put, List.setIfInBounds_toArray, List.set_cons_zero, List.set_cons_succ]
            refine Reg.G_on (o := { dst := some 74, op := Op.load 3 (Operand.tmp 73), type := 3, pos := "law.go:81", after := #[{ on := 2, ground := Ground.data }], guard := Option.none }) (v := ?_) (by rfl) ?_ (fun wS hSw => ?_) ?_
            rotate_left
            · kernel_rfl
            · (try dsimp only at hSw); go_simp; (try with_reducible rfl)
            try simp only [Act.put, List.setIfInBounds_toArray, List.set_cons_zero, List.set_cons_succ]
            refine Reg.G_step (o := { dst := some 72, op := Op.call { callee := Callee.value (Operand.func 61), args := #[Operand.tmp 71], argTypes := #[80] }, type := 3, pos := "law.go:81", after := #[{ on := 0, ground := Ground.data }], guard := Option.none }) (by rfl) ?_ (fun K hK => ?_)
            · kernel_rfl
            go_simp
            refine (at_ w.heap.size a2 b e2 _ hHeld.1).mono ?_
            rintro e w' ⟨rfl, rfl⟩
            refine hK.out _ _ ?_ (fun hHeld => ?_)
            · exact hHeld
            clear hK K
            try simp only [Act.put, List.setIfInBounds_toArray, List.set_cons_zero, List.set_cons_succ]
            refine Reg.G_on (o := { dst := some 75, op := Op.binOp BinOp.neq 3 (Operand.tmp 72) (Operand.tmp 74) 3, type := 4, pos := "law.go:81", after := #[{ on := 1, ground := Ground.data }, { on := 3, ground := Ground.data }], guard := Option.none }) (v := ?_) (by rfl) ?_ (fun wS hSw => ?_) ?_
            rotate_left
            · kernel_rfl
            · (try dsimp only at hSw); go_simp; (try with_reducible rfl)
            try simp only [Act.put, List.setIfInBounds_toArray, List.set_cons_zero, List.set_cons_succ]
            refine Reg.G_on (o := { dst := some 76, op := Op.move (Operand.tmp 75), type := 4, pos := "law.go:81", after := #[{ on := 4, ground := Ground.data }, { on := 1, ground := Ground.chain }], guard := Option.none }) (v := ?_) (by rfl) ?_ (fun wS hSw => ?_) ?_
            rotate_left
            · kernel_rfl
            · (try dsimp only at hSw); go_simp; (try with_reducible rfl)
            try simp only [Act.put, List.setIfInBounds_toArray, List.set_cons_zero, List.set_cons_succ]
            refine Reg.G_on (o := { dst := some 77, op := Op.move (Operand.tmp 5), type := 80, pos := "law.go:81", after := #[{ on := 5, ground := Ground.guard }], guard := some (5, false) }) (v := ?_) (by rfl) ?_ (fun wS hSw => ?_) ?_
            rotate_left
            · kernel_rfl
            · (try dsimp only at hSw); go_simp; (try with_reducible rfl)
            try simp only [Act.put, List.setIfInBounds_toArray, List.set_cons_zero, List.set_cons_succ]
            refine Reg.G_on (o := { dst := some 79, op := Op.fieldAddr 92 (Operand.tmp 6) 1, type := 0, pos := "law.go:81", after := #[{ on := 5, ground := Ground.guard }], guard := some (5, false) }) (v := ?_) (by rfl) ?_ (fun wS hSw => ?_) ?_
            rotate_left
            · kernel_rfl
            · (try dsimp only at hSw); go_simp; (try with_reducible rfl)
            try simp only [Act.put, List.setIfInBounds_toArray, List.set_cons_zero, List.set_cons_succ]
            refine Reg.G_on (o := { dst := some 80, op := Op.load 73 (Operand.tmp 79), type := 73, pos := "law.go:81", after := #[{ on := 8, ground := Ground.data }, { on := 5, ground := Ground.guard }], guard := some (5, false) }) (v := ?_) (by rfl) ?_ (fun wS hSw => ?_) ?_
            rotate_left
            · kernel_rfl
            · (try dsimp only at hSw); go_simp; (try with_reducible rfl)
            try simp only [Act.put, List.setIfInBounds_toArray, List.set_cons_zero, List.set_cons_succ]
            refine Reg.G_step (o := { dst := some 78, op := Op.call { callee := Callee.value (Operand.func 62), args := #[Operand.tmp 77], argTypes := #[80] }, type := 73, pos := "law.go:81", after := #[{ on := 6, ground := Ground.data }, { on := 5, ground := Ground.chain }, { on := 5, ground := Ground.guard }], guard := some (5, false) }) (by rfl) ?_ (fun K hK => ?_)
            · kernel_rfl
            go_simp
            refine (err w.heap.size a2 b e2 _ hHeld.1).mono ?_
            rintro e w' ⟨rfl, rfl⟩
            refine hK.out _ _ ?_ (fun hHeld => ?_)
            · exact hHeld
            clear hK K
            try simp only [Act.put, List.setIfInBounds_toArray, List.set_cons_zero, List.set_cons_succ]
            refine Reg.G_on (o := { dst := some 81, op := Op.binOp BinOp.neq 73 (Operand.tmp 78) (Operand.tmp 80) 73, type := 4, pos := "law.go:81", after := #[{ on := 7, ground := Ground.data }, { on := 9, ground := Ground.data }, { on := 5, ground := Ground.guard }], guard := some (5, false) }) (v := ?_) (by rfl) ?_ (fun wS hSw => ?_) ?_
            rotate_left
            · kernel_rfl
            · (try dsimp only at hSw); go_simp; (try with_reducible rfl)
            try simp only [Act.put, List.setIfInBounds_toArray, List.set_cons_zero, List.set_cons_succ]
            refine Reg.G_on (o := { dst := some 82, op := Op.pick (Operand.tmp 76) (Operand.const (Value.bool true)) (Operand.tmp 81), type := 4, pos := "law.go:81", after := #[{ on := 5, ground := Ground.data }, { on := 10, ground := Ground.data }], guard := Option.none }) (v := ?_) (by rfl) ?_ (fun wS hSw => ?_) ?_
            rotate_left
            · kernel_rfl
            · (try dsimp only at hSw); go_simp; (try with_reducible rfl)
            try simp only [Act.put, List.setIfInBounds_toArray, List.set_cons_zero, List.set_cons_succ]
            refine Reg.G_on (o := { dst := some 83, op := Op.move (Operand.tmp 82), type := 4, pos := "law.go:81", after := #[{ on := 11, ground := Ground.data }, { on := 7, ground := Ground.chain }], guard := Option.none }) (v := ?_) (by rfl) ?_ (fun wS hSw => ?_) ?_
            rotate_left
            · kernel_rfl
            · (try dsimp only at hSw); go_simp; (try with_reducible rfl)
            try simp only [Act.put, List.setIfInBounds_toArray, List.set_cons_zero, List.set_cons_succ]
            refine Reg.G_on (o := { dst := some 84, op := Op.move (Operand.tmp 5), type := 80, pos := "law.go:81", after := #[{ on := 12, ground := Ground.guard }], guard := some (12, false) }) (v := ?_) (by rfl) ?_ (fun wS hSw => ?_) ?_
            rotate_left
            · kernel_rfl
            · (try dsimp only at hSw); go_simp; (try with_reducible rfl)
            try simp only [Act.put, List.setIfInBounds_toArray, List.set_cons_zero, List.set_cons_succ]
            refine Reg.G_on (o := { dst := some 86, op := Op.move (Operand.tmp 0), type := 9, pos := "law.go:81", after := #[{ on := 12, ground := Ground.guard }], guard := some (12, false) }) (v := ?_) (by rfl) ?_ (fun wS hSw => ?_) ?_
            rotate_left
            · kernel_rfl
            · (try dsimp only at hSw); go_simp; (try with_reducible rfl)
            try simp only [Act.put, List.setIfInBounds_toArray, List.set_cons_zero, List.set_cons_succ]
            refine Reg.G_on (o := { dst := some 87, op := Op.load 92 (Operand.tmp 6), type := 92, pos := "law.go:81", after := #[{ on := 12, ground := Ground.guard }], guard := some (12, false) }) (v := ?_) (by rfl) ?_ (fun wS hSw => ?_) ?_
            rotate_left
            · kernel_rfl
            · (try dsimp only at hSw); go_simp; (try with_reducible rfl)
            try simp only [Act.put, List.setIfInBounds_toArray, List.set_cons_zero, List.set_cons_succ]
            refine Reg.G_step (o := { dst := some 85, op := Op.call { callee := Callee.value (Operand.func 63), args := #[Operand.tmp 84], argTypes := #[80] }, type := 73, pos := "law.go:81", after := #[{ on := 13, ground := Ground.data }, { on := 12, ground := Ground.chain }, { on := 12, ground := Ground.guard }], guard := some (12, false) }) (by rfl) ?_ (fun K hK => ?_)
            · kernel_rfl
            go_simp
            refine (done w.heap.size a2 b e2 _ hHeld.1).mono ?_
            rintro e w' ⟨rfl, hb⟩
            refine hK.out _ _ ?_ (fun hHeld => ?_)
            · exact ⟨hHeld.1.below hb, argb hb hHeld.2.1, argb hb hHeld.2.2⟩
            clear hK K
            try simp only [Act.put, List.setIfInBounds_toArray, List.set_cons_zero, List.set_cons_succ]
            skip
            have hb1 := hb
            clear hb
            refine Reg.G_step (o := { dst := some 88, op := Op.call { callee := Callee.value (Operand.func 67), args := #[Operand.tmp 86, Operand.tmp 87], argTypes := #[9, 92] }, type := 73, pos := "law.go:81", after := #[{ on := 15, ground := Ground.data }, { on := 16, ground := Ground.data }, { on := 14, ground := Ground.chain }, { on := 12, ground := Ground.guard }], guard := some (12, false) }) (by rfl) ?_ (fun K hK => ?_)
            · kernel_rfl
            go_simp
            refine (rdone b a2 e2 _).mono ?_
            rintro e w' ⟨rfl, hb⟩
            refine hK.out _ _ ?_ (fun hHeld => ?_)
            · exact ⟨hHeld.1.below hb, argb hb hHeld.2.1, argb hb hHeld.2.2⟩
            clear hK K
            try simp only [Act.put, List.setIfInBounds_toArray, List.set_cons_zero, List.set_cons_succ]
            refine Reg.G_on (o := { dst := some 89, op := Op.binOp BinOp.neq 73 (Operand.tmp 85) (Operand.tmp 88) 73, type := 4, pos := "law.go:81", after := #[{ on := 14, ground := Ground.data }, { on := 17, ground := Ground.data }, { on := 12, ground := Ground.guard }], guard := some (12, false) }) (v := ?_) (by rfl) ?_ (fun wS hSw => ?_) ?_
            rotate_left
            · kernel_rfl
            · (try dsimp only at hSw); go_simp; (try with_reducible rfl)
            try simp only [Act.put, List.setIfInBounds_toArray, List.set_cons_zero, List.set_cons_succ]
            refine Reg.G_on (o := { dst := some 90, op := Op.pick (Operand.tmp 83) (Operand.const (Value.bool true)) (Operand.tmp 89), type := 4, pos := "law.go:81", after := #[{ on := 12, ground := Ground.data }, { on := 18, ground := Ground.data }], guard := Option.none }) (v := ?_) (by rfl) ?_ (fun wS hSw => ?_) ?_
            rotate_left
            · kernel_rfl
            · (try dsimp only at hSw); go_simp; (try with_reducible rfl)
            try simp only [Act.put, List.setIfInBounds_toArray, List.set_cons_zero, List.set_cons_succ]
            refine Reg.G_done ?_
            go_wp2
            have hb3 := (Below.refl W.heap.size W).drew.trans (bstep hb1 hb)
            have HB3 : Bo w w' w.heap.size r a2 b e2 := ⟨HB.cb.below hb3, HB.rc.below hb3, bstep HB.be hb3, HB.ab, HB.c0, HB.r0, HB.cr⟩
            go_roundw
            case rel => exact ⟨k + 1, a2, e2, by omega, by go_num, HB3⟩
            case measure => simp [intOf]; omega

          · refine Reg.G_step (o := { dst := some 11, op := Op.alloc 92, type := 0, pos := "law.go:75", after := #[], guard := Option.none }) (by rfl) ?_ (fun K hK => ?_)
            · kernel_rfl
            go_simp
            refine hK.out _ _ ?_ (fun hHeld => ?_)
            · exact ⟨cnew hHeld.1, cnew hHeld.2.1, cnew hHeld.2.2⟩
            clear hK K
            try simp only [Act.put, List.setIfInBounds_toArray, List.set_cons_zero, List.set_cons_succ]
            skip
            refine Reg.G_step (o := { dst := some 58, op := Op.call { callee := Callee.value (Operand.func 66), args := #[Operand.tmp 51, Operand.tmp 52, Operand.tmp 57], argTypes := #[9, 92, 3] }, type := 97, pos := "law.go:75", after := #[{ on := 0, ground := Ground.data }, { on := 1, ground := Ground.data }, { on := 6, ground := Ground.data }], guard := Option.none }) (by rfl) ?_ (fun K hK => ?_)
            · kernel_rfl
            go_simp
            refine (hR _).mono ?_
            rintro e w' ⟨rfl, hb⟩
            refine hK.out _ _ ?_ (fun hHeld => ?_)
            · exact ⟨argb hb hHeld.1, argb hb hHeld.2.1, argb hb hHeld.2.2⟩
            clear hK K
            try simp only [Act.put, List.setIfInBounds_toArray, List.set_cons_zero, List.set_cons_succ]
            refine Reg.G_on (o := { dst := some 50, op := Op.move (Operand.tmp 58), type := 97, pos := "law.go:75", after := #[{ on := 7, ground := Ground.data }], guard := Option.none }) (v := ?_) (by rfl) ?_ (fun wS hSw => ?_) ?_
            rotate_left
            · kernel_rfl
            · (try dsimp only at hSw); go_simp; (try with_reducible rfl)
            try simp only [Act.put, List.setIfInBounds_toArray, List.set_cons_zero, List.set_cons_succ]
            refine Reg.G_on (o := { dst := some 59, op := Op.extract (Operand.tmp 50) 0, type := 22, pos := "law.go:75", after := #[{ on := 8, ground := Ground.data }], guard := Option.none }) (v := ?_) (by rfl) ?_ (fun wS hSw => ?_) ?_
            rotate_left
            · kernel_rfl
            · (try dsimp only at hSw); go_simp; (try with_reducible rfl)
            try simp only [Act.put, List.setIfInBounds_toArray, List.set_cons_zero, List.set_cons_succ]
            refine Reg.G_on (o := { dst := some 60, op := Op.extract (Operand.tmp 50) 1, type := 92, pos := "law.go:75", after := #[{ on := 8, ground := Ground.data }, { on := 12, ground := Ground.gcOnly Departure.lateStores }], guard := Option.none }) (v := ?_) (by rfl) ?_ (fun wS hSw => ?_) ?_
            rotate_left
            · kernel_rfl
            · (try dsimp only at hSw); go_simp; (try with_reducible rfl)
            try simp only [Act.put, List.setIfInBounds_toArray, List.set_cons_zero, List.set_cons_succ]
            refine Reg.G_on (o := { dst := some 10, op := Op.assign (Operand.tmp 59), type := 22, pos := "law.go:75", after := #[{ on := 9, ground := Ground.data }, { on := 7, ground := Ground.chain }, { on := 0, ground := Ground.phase }, { on := 1, ground := Ground.phase }, { on := 2, ground := Ground.phase }, { on := 3, ground := Ground.phase }, { on := 4, ground := Ground.phase }, { on := 5, ground := Ground.phase }, { on := 6, ground := Ground.phase }, { on := 7, ground := Ground.phase }, { on := 8, ground := Ground.phase }, { on := 9, ground := Ground.phase }, { on := 10, ground := Ground.textOnly Departure.lateStores }, { on := 11, ground := Ground.phase }], guard := Option.none }) (v := ?_) (by rfl) ?_ (fun wS hSw => ?_) ?_
            rotate_left
            · kernel_rfl
            · (try dsimp only at hSw); go_simp; (try with_reducible rfl)
            try simp only [Act.put, List.setIfInBounds_toArray, List.set_cons_zero, List.set_cons_succ]
            have hbs := hb.size
            simp at hbs
            have z8 : RC w' wr.heap.size 0 0 := (hb.block wr.heap.size (by simp)).trans (heap_alloc_new wr _)
            have hzr : wr.heap.size ≠ r := by omega
            have hws := HB.be.size
            have hza : wr.heap.size ≠ (ad.add (k * 2)).block := by omega
            obtain ⟨⟨z0, z1⟩, y0, y1⟩ := two_ z8
            refine Reg.G_step (o := { dst := Option.none, op := Op.store 92 (Operand.tmp 11) (Operand.tmp 60), type := 0, pos := "law.go:75", after := #[{ on := 11, ground := Ground.data }, { on := 10, ground := Ground.data }, { on := 12, ground := Ground.chain }, { on := 0, ground := Ground.phase }, { on := 1, ground := Ground.phase }, { on := 2, ground := Ground.phase }, { on := 3, ground := Ground.phase }, { on := 4, ground := Ground.phase }, { on := 5, ground := Ground.phase }, { on := 6, ground := Ground.phase }, { on := 7, ground := Ground.phase }, { on := 8, ground := Ground.phase }, { on := 9, ground := Ground.phase }, { on := 10, ground := Ground.phase }, { on := 11, ground := Ground.phase }, { on := 12, ground := Ground.phase }], guard := Option.none }) (by rfl) ?_ (fun K hK => ?_)
            · kernel_rfl
            go_simp
            refine hK.out _ _ ?_ (fun hHeld => ?_)
            · exact ⟨cfar (cfar hHeld.1 hzr) hzr, cfar (cfar hHeld.2.1 hzr) hzr, cfar (cfar hHeld.2.2 hza) hza⟩
            clear hK K
            try simp only [Act.put, List.setIfInBounds_toArray, List.set_cons_zero, List.set_cons_succ]
            refine Reg.G_done ?_
            obtain ⟨wz, hwz⟩ : ∃ wz, wz = set2 w' wr.heap.size a2 e2 := ⟨_, rfl⟩
            have bz : Below wr.heap.size wr wz := by
              rw [hwz]
              exact ((((Below.refl wr.heap.size wr).alloc (Nat.le_refl _) _).drew.trans (hb.mono (by simp))).setCell (Nat.le_refl _) _).setCell (Nat.le_refl _) _
            have hz2 : RC wz wr.heap.size a2 e2 := by rw [hwz]; exact z8.set
            unfold set2 at hwz
            rw [← hwz]
            clear hwz hb hbs t0 t1 g0 g1 z8 z0 z1 y0 y1 hHeld hza
            obtain ⟨z, hz⟩ : ∃ z, z = wr.heap.size := ⟨_, rfl⟩
            rw [← hz] at hz2 hzr ⊢
            clear hz hws
            have cz := HB.cb.below bz
            have rz := HB.rc.below bz
            have dz := argb bz c1
            have bbz := bstep HB.be bz
            obtain ⟨⟨s0, s1⟩, -⟩ := two_ hz2
            obtain ⟨⟨t0, t1⟩, u0, u1⟩ := two_ rz
            have rW := RC.set (w := wz) (a' := a2) (e' := e2) rz
            have mW := set2_mod wz r a2 e2
            obtain ⟨W1, hW⟩ : ∃ W1, W1 = set2 wz r a2 e2 := ⟨_, rfl⟩
            rw [← hW] at rW mW
            have cW := cz.far mW (fun h => HB.cr h)
            have bW := mW.below bbz bbz.size (fun k hk => by rw [show k = r from hk]; exact HB.r0)
            have dW := argc mW (fun k (hk : At r k) => show w.heap.size ≤ k by rw [show k = r from hk]; exact HB.r0) hal dz
            unfold set2 at hW
            have hT1 := hT W1 cW
            have hne1 : (ad.add (k * 2)).block ≠ r := by have := HB.r0; omega
            have hne2 : r ≠ (ad.add (k * 2)).block := fun h => hne1 h.symm
            clear hT c1 bz bbz mW rz cz hR dW
            go_wp2_with fail
            rw [← hW]
            clear hW s0 s1 t0 t1 u0 u1 dz hz2 cW hne1 hne2
            refine hT1.mono ?_
            rintro e' W ⟨rfl, hc, mc⟩
            have hra : ¬ At w.heap.size r := fun h => HB.cr (show r = w.heap.size from h).symm
            have HB2 : Bo w W w.heap.size r a2 b e2 := ⟨hc, rW.far mc hra, mc.below bW bW.size (fun k hk => by rw [show k = w.heap.size from hk]; exact Nat.le_refl _), hab2, HB.c0, HB.r0, HB.cr⟩
            clear HB hT1 hc mc bW rW hab2
            have HB := HB2
            clear HB2
            obtain ⟨⟨t0, t1⟩, -⟩ := two_ HB.rc
            have hrl := blk_lt HB.rc
            go_wp2_with fail
            refine Reg.wp_plan (S := fun w' => CB w' w.heap.size a2 b e2 ∧ w'.cell? ⟨r, 0, none⟩ = some (.int .i64 (a2 : Int)) ∧ w'.cell? ⟨r, 1, none⟩ = some (.int .i64 e2)) 20 (.fl 0 (.fl 2 (.fl 3 (.one 1 (.fl 4 (.fl 5 (.fl 6 (.fl 8 (.fl 9 (.one 7 (.fl 10 (.fl 11 (.fl 12 (.fl 13 (.fl 15 (.fl 16 (.one 14 (.one 17 (.fl 18 (.fl 19 .done)))))))))))))))))))) (by kernel_rfl) (by kernel_rfl) (by kernel_rfl) (by kernel_rfl) (fun _ _ _ d _ h => by cases d <;> exact h) ?_ (fun hHeld => ?_)
            · exact ⟨HB.cb, by simpa using t0, by simpa using t1⟩
            refine Reg.G_on (o := { dst := some 71, op := Op.move (Operand.tmp 5), type := 80, pos := "law.go:81", after := #[], guard := Option.none }) (v := ?_) (by rfl) ?_ (fun wS hSw => ?_) ?_
            rotate_left
            · kernel_rfl
            · (try dsimp only at hSw); go_simp; (try with_reducible rfl)
            try simp only [Act.put, List.setIfInBounds_toArray, List.set_cons_zero, List.set_cons_succ]
            refine Reg.G_on (o := { dst := some 73, op := Op.fieldAddr 92 (Operand.tmp 6) 0, type := 0, pos := "law.go:81", after := #[], guard := Option.none }) (v := ?_) (by rfl) ?_ (fun wS hSw => ?_) ?_
            rotate_left
            · kernel_rfl
            · (try dsimp only at hSw); go_simp; (try with_reducible rfl)
            try simp only [Act.put, List.setIfInBounds_toArray, List.set_cons_zero, List.set_cons_succ]
            refine Reg.G_on (o := { dst := some 74, op := Op.load 3 (Operand.tmp 73), type := 3, pos := "law.go:81", after := #[{ on := 2, ground := Ground.data }], guard := Option.none }) (v := ?_) (by rfl) ?_ (fun wS hSw => ?_) ?_
            rotate_left
            · kernel_rfl
            · (try dsimp only at hSw); go_simp; (try with_reducible rfl)
            try simp only [Act.put, List.setIfInBounds_toArray, List.set_cons_zero, List.set_cons_succ]
            refine Reg.G_step (o := { dst := some 72, op := Op.call { callee := Callee.value (Operand.func 61), args := #[Operand.tmp 71], argTypes := #[80] }, type := 3, pos := "law.go:81", after := #[{ on := 0, ground := Ground.data }], guard := Option.none }) (by rfl) ?_ (fun K hK => ?_)
            · kernel_rfl
            go_simp
            refine (at_ w.heap.size a2 b e2 _ hHeld.1).mono ?_
            rintro e w' ⟨rfl, rfl⟩
            refine hK.out _ _ ?_ (fun hHeld => ?_)
            · exact hHeld
            clear hK K
            try simp only [Act.put, List.setIfInBounds_toArray, List.set_cons_zero, List.set_cons_succ]
            refine Reg.G_on (o := { dst := some 75, op := Op.binOp BinOp.neq 3 (Operand.tmp 72) (Operand.tmp 74) 3, type := 4, pos := "law.go:81", after := #[{ on := 1, ground := Ground.data }, { on := 3, ground := Ground.data }], guard := Option.none }) (v := ?_) (by rfl) ?_ (fun wS hSw => ?_) ?_
            rotate_left
            · kernel_rfl
            · (try dsimp only at hSw); go_simp; (try with_reducible rfl)
            try simp only [Act.put, List.setIfInBounds_toArray, List.set_cons_zero, List.set_cons_succ]
            refine Reg.G_on (o := { dst := some 76, op := Op.move (Operand.tmp 75), type := 4, pos := "law.go:81", after := #[{ on := 4, ground := Ground.data }, { on := 1, ground := Ground.chain }], guard := Option.none }) (v := ?_) (by rfl) ?_ (fun wS hSw => ?_) ?_
            rotate_left
            · kernel_rfl
            · (try dsimp only at hSw); go_simp; (try with_reducible rfl)
            try simp only [Act.put, List.setIfInBounds_toArray, List.set_cons_zero, List.set_cons_succ]
            refine Reg.G_on (o := { dst := some 77, op := Op.move (Operand.tmp 5), type := 80, pos := "law.go:81", after := #[{ on := 5, ground := Ground.guard }], guard := some (5, false) }) (v := ?_) (by rfl) ?_ (fun wS hSw => ?_) ?_
            rotate_left
            · kernel_rfl
            · (try dsimp only at hSw); go_simp; (try with_reducible rfl)
            try simp only [Act.put, List.setIfInBounds_toArray, List.set_cons_zero, List.set_cons_succ]
            refine Reg.G_on (o := { dst := some 79, op := Op.fieldAddr 92 (Operand.tmp 6) 1, type := 0, pos := "law.go:81", after := #[{ on := 5, ground := Ground.guard }], guard := some (5, false) }) (v := ?_) (by rfl) ?_ (fun wS hSw => ?_) ?_
            rotate_left
            · kernel_rfl
            · (try dsimp only at hSw); go_simp; (try with_reducible rfl)
            try simp only [Act.put, List.setIfInBounds_toArray, List.set_cons_zero, List.set_cons_succ]
            refine Reg.G_on (o := { dst := some 80, op := Op.load 73 (Operand.tmp 79), type := 73, pos := "law.go:81", after := #[{ on := 8, ground := Ground.data }, { on := 5, ground := Ground.guard }], guard := some (5, false) }) (v := ?_) (by rfl) ?_ (fun wS hSw => ?_) ?_
            rotate_left
            · kernel_rfl
            · (try dsimp only at hSw); go_simp; (try with_reducible rfl)
            try simp only [Act.put, List.setIfInBounds_toArray, List.set_cons_zero, List.set_cons_succ]
            refine Reg.G_step (o := { dst := some 78, op := Op.call { callee := Callee.value (Operand.func 62), args := #[Operand.tmp 77], argTypes := #[80] }, type := 73, pos := "law.go:81", after := #[{ on := 6, ground := Ground.data }, { on := 5, ground := Ground.chain }, { on := 5, ground := Ground.guard }], guard := some (5, false) }) (by rfl) ?_ (fun K hK => ?_)
            · kernel_rfl
            go_simp
            refine (err w.heap.size a2 b e2 _ hHeld.1).mono ?_
            rintro e w' ⟨rfl, rfl⟩
            refine hK.out _ _ ?_ (fun hHeld => ?_)
            · exact hHeld
            clear hK K
            try simp only [Act.put, List.setIfInBounds_toArray, List.set_cons_zero, List.set_cons_succ]
            refine Reg.G_on (o := { dst := some 81, op := Op.binOp BinOp.neq 73 (Operand.tmp 78) (Operand.tmp 80) 73, type := 4, pos := "law.go:81", after := #[{ on := 7, ground := Ground.data }, { on := 9, ground := Ground.data }, { on := 5, ground := Ground.guard }], guard := some (5, false) }) (v := ?_) (by rfl) ?_ (fun wS hSw => ?_) ?_
            rotate_left
            · kernel_rfl
            · (try dsimp only at hSw); go_simp; (try with_reducible rfl)
            try simp only [Act.put, List.setIfInBounds_toArray, List.set_cons_zero, List.set_cons_succ]
            refine Reg.G_on (o := { dst := some 82, op := Op.pick (Operand.tmp 76) (Operand.const (Value.bool true)) (Operand.tmp 81), type := 4, pos := "law.go:81", after := #[{ on := 5, ground := Ground.data }, { on := 10, ground := Ground.data }], guard := Option.none }) (v := ?_) (by rfl) ?_ (fun wS hSw => ?_) ?_
            rotate_left
            · kernel_rfl
            · (try dsimp only at hSw); go_simp; (try with_reducible rfl)
            try simp only [Act.put, List.setIfInBounds_toArray, List.set_cons_zero, List.set_cons_succ]
            refine Reg.G_on (o := { dst := some 83, op := Op.move (Operand.tmp 82), type := 4, pos := "law.go:81", after := #[{ on := 11, ground := Ground.data }, { on := 7, ground := Ground.chain }], guard := Option.none }) (v := ?_) (by rfl) ?_ (fun wS hSw => ?_) ?_
            rotate_left
            · kernel_rfl
            · (try dsimp only at hSw); go_simp; (try with_reducible rfl)
            try simp only [Act.put, List.setIfInBounds_toArray, List.set_cons_zero, List.set_cons_succ]
            refine Reg.G_on (o := { dst := some 84, op := Op.move (Operand.tmp 5), type := 80, pos := "law.go:81", after := #[{ on := 12, ground := Ground.guard }], guard := some (12, false) }) (v := ?_) (by rfl) ?_ (fun wS hSw => ?_) ?_
            rotate_left
            · kernel_rfl
            · (try dsimp only at hSw); go_simp; (try with_reducible rfl)
            try simp only [Act.put, List.setIfInBounds_toArray, List.set_cons_zero, List.set_cons_succ]
            refine Reg.G_on (o := { dst := some 86, op := Op.move (Operand.tmp 0), type := 9, pos := "law.go:81", after := #[{ on := 12, ground := Ground.guard }], guard := some (12, false) }) (v := ?_) (by rfl) ?_ (fun wS hSw => ?_) ?_
            rotate_left
            · kernel_rfl
            · (try dsimp only at hSw); go_simp; (try with_reducible rfl)
            try simp only [Act.put, List.setIfInBounds_toArray, List.set_cons_zero, List.set_cons_succ]
            refine Reg.G_on (o := { dst := some 87, op := Op.load 92 (Operand.tmp 6), type := 92, pos := "law.go:81", after := #[{ on := 12, ground := Ground.guard }], guard := some (12, false) }) (v := ?_) (by rfl) ?_ (fun wS hSw => ?_) ?_
            rotate_left
            · kernel_rfl
            · (try dsimp only at hSw); go_simp; (try with_reducible rfl)
            try simp only [Act.put, List.setIfInBounds_toArray, List.set_cons_zero, List.set_cons_succ]
            refine Reg.G_step (o := { dst := some 85, op := Op.call { callee := Callee.value (Operand.func 63), args := #[Operand.tmp 84], argTypes := #[80] }, type := 73, pos := "law.go:81", after := #[{ on := 13, ground := Ground.data }, { on := 12, ground := Ground.chain }, { on := 12, ground := Ground.guard }], guard := some (12, false) }) (by rfl) ?_ (fun K hK => ?_)
            · kernel_rfl
            go_simp
            refine (done w.heap.size a2 b e2 _ hHeld.1).mono ?_
            rintro e w' ⟨rfl, hb⟩
            refine hK.out _ _ ?_ (fun hHeld => ?_)
            · exact ⟨hHeld.1.below hb, argb hb hHeld.2.1, argb hb hHeld.2.2⟩
            clear hK K
            try simp only [Act.put, List.setIfInBounds_toArray, List.set_cons_zero, List.set_cons_succ]
            skip
            have hb1 := hb
            clear hb
            refine Reg.G_step (o := { dst := some 88, op := Op.call { callee := Callee.value (Operand.func 67), args := #[Operand.tmp 86, Operand.tmp 87], argTypes := #[9, 92] }, type := 73, pos := "law.go:81", after := #[{ on := 15, ground := Ground.data }, { on := 16, ground := Ground.data }, { on := 14, ground := Ground.chain }, { on := 12, ground := Ground.guard }], guard := some (12, false) }) (by rfl) ?_ (fun K hK => ?_)
            · kernel_rfl
            go_simp
            refine (rdone b a2 e2 _).mono ?_
            rintro e w' ⟨rfl, hb⟩
            refine hK.out _ _ ?_ (fun hHeld => ?_)
            · exact ⟨hHeld.1.below hb, argb hb hHeld.2.1, argb hb hHeld.2.2⟩
            clear hK K
            try simp only [Act.put, List.setIfInBounds_toArray, List.set_cons_zero, List.set_cons_succ]
            refine Reg.G_on (o := { dst := some 89, op := Op.binOp BinOp.neq 73 (Operand.tmp 85) (Operand.tmp 88) 73, type := 4, pos := "law.go:81", after := #[{ on := 14, ground := Ground.data }, { on := 17, ground := Ground.data }, { on := 12, ground := Ground.guard }], guard := some (12, false) }) (v := ?_) (by rfl) ?_ (fun wS hSw => ?_) ?_
            rotate_left
            · kernel_rfl
            · (try dsimp only at hSw); go_simp; (try with_reducible rfl)
            try simp only [Act.put, List.setIfInBounds_toArray, List.set_cons_zero, List.set_cons_succ]
            refine Reg.G_on (o := { dst := some 90, op := Op.pick (Operand.tmp 83) (Operand.const (Value.bool true)) (Operand.tmp 89), type := 4, pos := "law.go:81", after := #[{ on := 12, ground := Ground.data }, { on := 18, ground := Ground.data }], guard := Option.none }) (v := ?_) (by rfl) ?_ (fun wS hSw => ?_) ?_
            rotate_left
            · kernel_rfl
            · (try dsimp only at hSw); go_simp; (try with_reducible rfl)
            try simp only [Act.put, List.setIfInBounds_toArray, List.set_cons_zero, List.set_cons_succ]
            refine Reg.G_done ?_
            go_wp2
            have hb3 := (Below.refl W.heap.size W).drew.trans (bstep hb1 hb)
            have HB3 : Bo w w' w.heap.size r a2 b e2 := ⟨HB.cb.below hb3, HB.rc.below hb3, bstep HB.be hb3, HB.ab, HB.c0, HB.r0, HB.cr⟩
            go_roundw
            case rel => exact ⟨k + 1, a2, e2, by omega, by go_num, HB3⟩
            case measure => simp [intOf]; omega
      · have hk2 : ¬ ((k : Int) < (l.length : Int)) := by omega
        go_wp2_with fail
        refine Reg.wp_plan (S := fun w' => CB w' w.heap.size a b e ∧ w'.cell? ⟨r, 0, none⟩ = some (.int .i64 (a : Int)) ∧ w'.cell? ⟨r, 1, none⟩ = some (.int .i64 e)) 10 (.fl 0 (.fl 2 (.fl 3 (.one 1 (.one 4 (.fl 5 (.fl 6 (.one 7 (.fl 8 (.fl 9 .done)))))))))) (by kernel_rfl) (by kernel_rfl) (by kernel_rfl) (by kernel_rfl) (fun _ _ _ d _ h => by cases d <;> exact h) ?_ (fun hHeld => ?_)
        · exact ⟨HB.cb, by simpa using t0, by simpa using t1⟩
        refine Reg.G_on (o := { dst := some 91, op := Op.move (Operand.tmp 5), type := 80, pos := "law.go:85", after := #[], guard := Option.none }) (v := ?_) (by rfl) ?_ (fun wS hSw => ?_) ?_
        rotate_left
        · kernel_rfl
        · (try dsimp only at hSw); go_simp; (try with_reducible rfl)
        try simp only [Act.put, List.setIfInBounds_toArray, List.set_cons_zero, List.set_cons_succ]
        refine Reg.G_on (o := { dst := some 93, op := Op.move (Operand.tmp 0), type := 9, pos := "law.go:85", after := #[], guard := Option.none }) (v := ?_) (by rfl) ?_ (fun wS hSw => ?_) ?_
        rotate_left
        · kernel_rfl
        · (try dsimp only at hSw); go_simp; (try with_reducible rfl)
        try simp only [Act.put, List.setIfInBounds_toArray, List.set_cons_zero, List.set_cons_succ]
        refine Reg.G_on (o := { dst := some 94, op := Op.load 92 (Operand.tmp 6), type := 92, pos := "law.go:85", after := #[], guard := Option.none }) (v := ?_) (by rfl) ?_ (fun wS hSw => ?_) ?_
        rotate_left
        · kernel_rfl
        · (try dsimp only at hSw); go_simp; (try with_reducible rfl)
        try simp only [Act.put, List.setIfInBounds_toArray, List.set_cons_zero, List.set_cons_succ]
        refine Reg.G_step (o := { dst := some 92, op := Op.call { callee := Callee.value (Operand.func 63), args := #[Operand.tmp 91], argTypes := #[80] }, type := 73, pos := "law.go:85", after := #[{ on := 0, ground := Ground.data }], guard := Option.none }) (by rfl) ?_ (fun K hK => ?_)
        · kernel_rfl
        go_simp
        refine (done w.heap.size a b e _ hHeld.1).mono ?_
        rintro e w' ⟨rfl, hb⟩
        refine hK.out _ _ ?_ (fun hHeld => ?_)
        · exact ⟨hHeld.1.below hb, argb hb hHeld.2.1, argb hb hHeld.2.2⟩
        clear hK K
        try simp only [Act.put, List.setIfInBounds_toArray, List.set_cons_zero, List.set_cons_succ]
        skip
        have hb1 := hb
        clear hb
        refine Reg.G_step (o := { dst := some 95, op := Op.call { callee := Callee.value (Operand.func 67), args := #[Operand.tmp 93, Operand.tmp 94], argTypes := #[9, 92] }, type := 73, pos := "law.go:85", after := #[{ on := 2, ground := Ground.data }, { on := 3, ground := Ground.data }, { on := 1, ground := Ground.chain }], guard := Option.none }) (by rfl) ?_ (fun K hK => ?_)
        · kernel_rfl
        go_simp
        refine (rdone b a e _).mono ?_
        rintro e w' ⟨rfl, hb⟩
        refine hK.out _ _ ?_ (fun hHeld => ?_)
        · exact ⟨hHeld.1.below hb, argb hb hHeld.2.1, argb hb hHeld.2.2⟩
        clear hK K
        try simp only [Act.put, List.setIfInBounds_toArray, List.set_cons_zero, List.set_cons_succ]
        refine Reg.G_on (o := { dst := some 96, op := Op.binOp BinOp.eql 73 (Operand.tmp 92) (Operand.tmp 95) 73, type := 4, pos := "law.go:85", after := #[{ on := 1, ground := Ground.data }, { on := 4, ground := Ground.data }], guard := Option.none }) (v := ?_) (by rfl) ?_ (fun wS hSw => ?_) ?_
        rotate_left
        · kernel_rfl
        · (try dsimp only at hSw); go_simp; (try with_reducible rfl)
        try simp only [Act.put, List.setIfInBounds_toArray, List.set_cons_zero, List.set_cons_succ]
        refine Reg.G_on (o := { dst := some 97, op := Op.move (Operand.tmp 96), type := 4, pos := "law.go:85", after := #[{ on := 5, ground := Ground.data }, { on := 4, ground := Ground.chain }], guard := Option.none }) (v := ?_) (by rfl) ?_ (fun wS hSw => ?_) ?_
        rotate_left
        · kernel_rfl
        · (try dsimp only at hSw); go_simp; (try with_reducible rfl)
        try simp only [Act.put, List.setIfInBounds_toArray, List.set_cons_zero, List.set_cons_succ]
        have hb2 := hb
        clear hb
        refine Reg.G_step (o := { dst := some 98, op := Op.call { callee := Callee.value (Operand.func 50), args := #[], argTypes := #[] }, type := 4, pos := "law.go:85", after := #[{ on := 6, ground := Ground.chain }, { on := 6, ground := Ground.guard }], guard := some (6, true) }) (by rfl) ?_ (fun K hK => ?_)
        · kernel_rfl
        go_simp
        refine (Al.awake _).mono ?_
        rintro e w' ⟨rfl, hb⟩
        refine hK.out _ _ ?_ (fun hHeld => ?_)
        · exact ⟨hHeld.1.below hb, argb hb hHeld.2.1, argb hb hHeld.2.2⟩
        clear hK K
        try simp only [Act.put, List.setIfInBounds_toArray, List.set_cons_zero, List.set_cons_succ]
        refine Reg.G_on (o := { dst := some 99, op := Op.pick (Operand.tmp 97) (Operand.tmp 98) (Operand.const (Value.bool false)), type := 4, pos := "law.go:85", after := #[{ on := 6, ground := Ground.data }, { on := 7, ground := Ground.data }], guard := Option.none }) (v := ?_) (by rfl) ?_ (fun wS hSw => ?_) ?_
        rotate_left
        · kernel_rfl
        · (try dsimp only at hSw); go_simp; (try with_reducible rfl)
        try simp only [Act.put, List.setIfInBounds_toArray, List.set_cons_zero, List.set_cons_succ]
        refine Reg.G_on (o := { dst := some 4, op := Op.assign (Operand.tmp 99), type := 4, pos := "law.go:85", after := #[{ on := 8, ground := Ground.data }, { on := 7, ground := Ground.chain }, { on := 0, ground := Ground.phase }, { on := 1, ground := Ground.phase }, { on := 2, ground := Ground.phase }, { on := 3, ground := Ground.phase }, { on := 4, ground := Ground.phase }, { on := 5, ground := Ground.phase }, { on := 6, ground := Ground.phase }, { on := 7, ground := Ground.phase }, { on := 8, ground := Ground.phase }], guard := Option.none }) (v := ?_) (by rfl) ?_ (fun wS hSw => ?_) ?_
        rotate_left
        · kernel_rfl
        · (try dsimp only at hSw); go_simp; (try with_reducible rfl)
        try simp only [Act.put, List.setIfInBounds_toArray, List.set_cons_zero, List.set_cons_succ]
        refine Reg.G_done ?_
        go_wp2
        go_ret
        exact ⟨rfl, bstep HB.be ((Below.refl wr.heap.size wr).drew.trans (bstep (bstep hb1 hb2) hb))⟩
end Go.Proofs.Ytibcdpnmhkhebaa.Cur
namespace Go.Proofs.Ytibcdpnmhkhebaa.Cur
open Go.RowKit Base Sp Flat Go.Proofs.YtibcdpnmhkhebaaW.PrintWords Go.Proofs.YtibcdpnmhkhebaaW.PrintLast Wd Al Buf
theorem tx_get (l : List UInt8) (i : Nat) (h : i < (tx l).size) : (tx l)[i] = l[i]'h := rfl
theorem pad_zeros (b : ByteArray) : ∀ (g a : Nat), (∀ j, j < g → ∃ h : a + j < b.size, b[a + j] = 0) → pad b g a = 0
  | 0, _, _ => rfl
  | g + 1, a, h => by
    obtain ⟨h0, h1⟩ := h 0 (by omega)
    rw [pad_step (by simpa using h0) (by simpa using h1)]
    exact pad_zeros b g (a + 1) (fun j hj => by
      obtain ⟨h2, h3⟩ := h (j + 1) (by omega)
      exact ⟨by omega, by have e : a + 1 + j = a + (j + 1) := by omega
                          simp only [e]; exact h3⟩)
theorem pcode_sz {n s : Int} (h : pcode n s = 0) : sz s = true ∧ n < pw s := by
  unfold pcode at h
  split at h
  · split at h
    · exact ⟨by assumption, by assumption⟩
    · cases h
  · cases h
theorem pbytes_len {n s : Int} (P : List UInt8) (h : pcode n s = 0) : ((pbytes P n s).length : Int) = P.length + gapv P.length s + s := by
  have hc := sz_cases (pcode_sz h).1
  have hg := gapv_le P.length s
  unfold pbytes
  rw [List.length_append, List.length_append, List.length_replicate, nbytes_len]
  omega
theorem ctake_back (P : List UInt8) (n s : Int) (hc : pcode n s = 0) (h0 : 0 ≤ n) (R : List UInt8) : ctake (tx (pbytes P n s ++ R)) P.length 0 s = (n, ((pbytes P n s).length : Int), 0) := by
  obtain ⟨hs, hp⟩ := pcode_sz hc
  have hg := gapv_le P.length s
  have hpad : pad (tx (pbytes P n s ++ R)) (gapv P.length s).toNat P.length = 0 := by
    refine pad_zeros _ _ _ (fun j hj => ?_)
    have hsz : (tx (pbytes P n s ++ R)).size = P.length + (gapv P.length s).toNat + (nbytes n s).length + R.length := by
      rw [tx_size, List.length_append, pbytes, List.length_append, List.length_append, List.length_replicate]
    refine ⟨by omega, ?_⟩
    rw [tx_get]
    simp only [pbytes, List.append_assoc]
    rw [List.getElem_append_right (by omega), List.getElem_append_left (by simp; omega), List.getElem_replicate]
  have htk : takev (tx (pbytes P n s ++ R)) ((P.length : Int) + gapv P.length s) s = (n, 0) := by
    have e : tx (pbytes P n s ++ R) = tx (P ++ List.replicate (gapv P.length s).toNat 0) ++ strOfNums (le n s.toNat) ++ tx R := by
      unfold pbytes
      rw [tx_app, tx_app]
      rfl
    have e2 : ((P.length : Int) + gapv P.length s) = ((tx (P ++ List.replicate (gapv P.length s).toNat 0)).size : Int) := by
      rw [tx_size, List.length_append, List.length_replicate]
      omega
    rw [e, e2]
    exact take_back _ _ n s hs h0 hp
  unfold ctake
  rw [if_neg (fun h => h rfl), if_neg (by rw [hs]; decide), hpad, if_neg (by decide), htk, if_neg (fun h => h rfl), pbytes_len P hc]
theorem extract_mid (a t b : ByteArray) : (a ++ t ++ b).extract a.size (a.size + t.size) = t := by
  apply ByteArray.ext
  apply Array.ext'
  have h1 : a.size = a.data.toList.length := rfl
  have h2 : t.size = t.data.toList.length := rfl
  rw [h1, h2, ByteArray.data_extract, ByteArray.data_append, ByteArray.data_append, Array.toList_extract, Array.toList_append, Array.toList_append, List.extract_eq_take_drop, List.append_assoc, List.drop_left, Nat.add_sub_cancel_left, List.take_left]
theorem ctext_back (P : List UInt8) (T : ByteArray) (R : List UInt8) : ctext (tx (P ++ T.data.toList ++ R)) P.length 0 T.size = (T, ((P ++ T.data.toList).length : Int), 0) := by
  have hsz : (tx (P ++ T.data.toList ++ R)).size = P.length + T.size + R.length := by
    rw [tx_size, List.length_append, List.length_append]
    rfl
  unfold ctext
  rw [if_pos rfl, if_neg (by omega), if_neg (by rw [hsz]; omega), Int.toNat_natCast]
  have e : tx (P ++ T.data.toList ++ R) = tx P ++ T ++ tx R := by rw [tx_app, tx_app]; rfl
  rw [e, show P.length = (tx P).size from rfl, extract_mid, List.length_append]
  rfl
/-- Is a part put? Its bytes behind others. -/
def okp (p : Bool × Int × Int × ByteArray) : Prop := p.1 = true ∨ (p.1 = false ∧ pcode p.2.1 p.2.2.1 = 0 ∧ 0 ≤ p.2.1)
def add1 (L : List UInt8) (p : Bool × Int × Int × ByteArray) : List UInt8 := if p.1 = true then L ++ p.2.2.2.data.toList else pbytes L p.2.1 p.2.2.1
def enc (ps : List (Bool × Int × Int × ByteArray)) : List UInt8 := ps.foldl add1 []
theorem enc_snoc (ps : List (Bool × Int × Int × ByteArray)) (p : Bool × Int × Int × ByteArray) : enc (ps ++ [p]) = add1 (enc ps) p := by simp [enc]
theorem add1_pre (L : List UInt8) (p : Bool × Int × Int × ByteArray) : ∃ r, add1 L p = L ++ r := by
  unfold add1
  split
  · exact ⟨_, rfl⟩
  · exact ⟨_, by unfold pbytes; rw [List.append_assoc]⟩
theorem fold_pre : ∀ (ps : List (Bool × Int × Int × ByteArray)) (L : List UInt8), ∃ r, ps.foldl add1 L = L ++ r
  | [], L => ⟨[], by simp⟩
  | p :: ps, L => by
    obtain ⟨r1, h1⟩ := add1_pre L p
    obtain ⟨r2, h2⟩ := fold_pre ps (add1 L p)
    exact ⟨r1 ++ r2, by rw [List.foldl_cons, h2, h1, List.append_assoc]⟩
theorem enc_split (ps : List (Bool × Int × Int × ByteArray)) (i : Nat) (hi : i < ps.length) : ∃ R, enc ps = add1 (enc (ps.take i)) ps[i] ++ R := by
  have e : ps = ps.take i ++ ps[i] :: ps.drop (i + 1) := by simp
  obtain ⟨r, h⟩ := fold_pre (ps.drop (i + 1)) (add1 (enc (ps.take i)) ps[i])
  refine ⟨r, ?_⟩
  rw [← h]
  conv => lhs; rw [e]
  unfold enc
  rw [List.foldl_append, List.foldl_cons]
theorem enc_take (ps : List (Bool × Int × Int × ByteArray)) (i : Nat) (hi : i < ps.length) : enc (ps.take (i + 1)) = add1 (enc (ps.take i)) ps[i] := by
  rw [List.take_succ_eq_append_getElem hi, enc_snoc]
end Go.Proofs.Ytibcdpnmhkhebaa.Cur
namespace Go.Proofs.Ytibcdpnmhkhebaa.Cur
open Go.RowKit Base Sp Flat Go.Proofs.YtibcdpnmhkhebaaW.PrintWords Go.Proofs.YtibcdpnmhkhebaaW.PrintLast Wd Al Buf
theorem flat_kp : Flat kp := flat_pair flat_bool (flat_pair (flat_int _) (flat_pair (flat_int _) flat_string))
theorem BB_same {w w' : World} {F : Nat → Prop} {b : Nat} {l : List UInt8} (h : BB w F b l) (hs : Same F w w') (hz : w.heap.size ≤ w'.heap.size) : BB w' F b l := uB.same h hs hz
/-- What is known in the first loop. -/
structure St (w0 w : World) (k : Nat) (ps : List (Bool × Int × Int × ByteArray)) (F G : Nat → Prop) (v : Value) : Prop where
  bb : BB w F w0.heap.size (enc ps)
  ow : Own kp 71 w G v ps
  ok : ∀ p ∈ ps, okp p
  nk : ps.length ≤ k
  lk : (enc ps).length ≤ k * 400
  fF : ∀ k, F k → w0.heap.size ≤ k
  fG : ∀ k, G k → w0.heap.size ≤ k
  dis : ∀ k, F k → ¬ G k
  lG : ∀ k, G k → k < w.heap.size
  be : Below w0.heap.size w0 w
theorem part_K (w : World) (p : Bool × Int × Int × ByteArray) : kp.K w p [.bool p.1, .int .u64 p.2.1, .int .i64 p.2.2.1, .string p.2.2.2] := ⟨_, _, rfl, rfl, _, _, rfl, rfl, _, _, rfl, rfl, rfl⟩
/-- The buffer has been written: what is known then. -/
theorem St.wrote {w0 w wa : World} {k : Nat} {ps : List (Bool × Int × Int × ByteArray)} {F F2 G : Nat → Prop} {v : Value} {L2 : List UInt8} (h : St w0 w k ps F G v) (hb : BB wa F2 w0.heap.size L2) (hm : Mod F w wa) (hg : Grow F F2 w) :
    Own kp 71 wa G v ps ∧ (∀ k, F2 k → w0.heap.size ≤ k) ∧ (∀ k, F2 k → ¬ G k) ∧ (∀ k, G k → k < wa.heap.size) ∧ Below w0.heap.size w0 wa :=
  ⟨h.ow.same flat_kp (fun k hk => hm.block k (h.lG k hk) (fun hf => h.dis k hf hk)), grow_up hg h.fF h.be.size, fun k hf hk => (hg k hf).elim (fun h1 => h.dis k h1 hk) (fun h1 => by have := h.lG k hk; omega),
    fun k hk => Nat.lt_of_lt_of_le (h.lG k hk) hm.size, hm.below h.be h.be.size h.fF⟩
/-- A part has been appended: what is known then. -/
theorem St.put {w0 w wa : World} {k : Nat} {ps : List (Bool × Int × Int × ByteArray)} {F F2 G : Nat → Prop} {v : Value} {p : Bool × Int × Int × ByteArray} (h : St w0 w k ps F G v) (hb : BB wa F2 w0.heap.size (add1 (enc ps) p)) (hm : Mod F w wa) (hg : Grow F F2 w)
    (hok : okp p) (hk : k ≤ 200) (hl : (add1 (enc ps) p).length ≤ (k + 1) * 400) : ∃ A c w1 G1, (Builtin.append_ #[67, 67] 67 #[v, .slice (some ⟨wa.heap.size, 0, none⟩) 1 1]).run Try.prog (wa.alloc (.cells #[.bool p.1, .int .u64 p.2.1, .int .i64 p.2.2.1, .string p.2.2.2] 71)) = .ok (.slice A (ps ++ [p]).length c) w1 ∧
      St w0 w1 (k + 1) (ps ++ [p]) F2 G1 (.slice A (ps ++ [p]).length c) ∧ (∀ (a : Addr) (u : Value), a.block < w0.heap.size → wa.cell? a = some u → w1.cell? a = some u) := by
  obtain ⟨ho, f2, d2, l2, b2⟩ := h.wrote hb hm hg
  obtain ⟨v1, w1, hrun, ho1, hg1, hs1⟩ := ho.append (P := Try.prog) flat_kp 67 67 (.agg #[.bool false, .int .u64 0, .int .i64 0, .string ⟨#[]⟩]) 40 Try.underlying67 (by kernel_rfl) rfl (by decide) (by decide) p _ (part_K wa p) l2 (by have := h.nk; omega)
  obtain ⟨A, c, rfl, _, _⟩ := ho1.rd.get
  have b5 : Below w0.heap.size w0 w1 := b2.grown hg1 b2.size (fun k hk => h.fG k (ho.base k hk))
  refine ⟨A, c, w1, _, hrun, ⟨?_, ho1, ?_, ?_, ?_, f2, ?_, ?_, ?_, b5⟩, fun a u ha hc => ?_⟩
  · rw [enc_snoc]
    exact BB_same hb (fun k hk => hg1.block k (hb.lt k hk) (ho.away (d2 k hk))) hg1.size
  · intro q hq
    rcases List.mem_append.1 hq with hq | hq
    · exact h.ok q hq
    · rw [List.mem_singleton.1 hq]
      exact hok
  · rw [List.length_append]
    have := h.nk
    simp
    omega
  · rw [enc_snoc]
    exact hl
  · exact fun k hk => hk.elim (h.fG k) (fun h1 => Nat.le_trans b2.size h1.1)
  · exact fun k hf hk => hk.elim (d2 k hf) (fun h1 => by have := hb.lt k hf; omega)
  · exact fun k hk => hk.elim (fun h1 => by have := l2 k h1; omega) (fun h1 => h1.2)
  · have hl := World.block_lt_of_cell? wa a hc
    rw [← hc]
    unfold World.cell?
    rw [hg1.block a.block hl (fun e => by have := h.fG _ (ho.base a.block e.symm); omega)]
set_option maxRecDepth 20000 in
theorem nums (L1 L2 : Nat) (s : Int) (hs : sz s = true) (h : (L2 : Int) = L1 + gapv L1 s + s) (hl : L1 ≤ 1000000) : ∃ q d : Int, IntKind.i64.wrap ((L2 : Int) - s) = q ∧ wrap64 ((L2 : Int) - s) = q ∧ Int.tmod q s = 0 ∧ q % s = 0 ∧ IntKind.i64.wrap ((L2 : Int) - L1) = d ∧ wrap64 ((L2 : Int) - L1) = d ∧ IntKind.i64.wrap (2 * s) = 2 * s ∧ ¬ (2 * s ≤ d) ∧ (s ≠ 0 ∧ 0 ≤ q) := by
  have hg := gapv_le L1 s
  have hgv : Hid (gapv L1 s = (-(L1 : Int)) % s) := Lib.hid (by
    unfold gapv
    rw [if_neg (by omega), if_pos hs])
  have hc := sz_cases hs
  refine ⟨(L2 : Int) - s, (L2 : Int) - L1, wrapi64 (by omega) (by omega), by unfold wrap64; omega, ?_, ?_, wrapi64 (by omega) (by omega), by unfold wrap64; omega, wrapi64 (by omega) (by omega), ?_, by omega, by omega⟩
  · rw [Int.tmod_eq_emod_of_nonneg (by omega)]
    rw [hgv.out] at h
    rcases hc with rfl | rfl | rfl | rfl <;> omega
  · rw [hgv.out] at h
    rcases hc with rfl | rfl | rfl | rfl <;> omega
  · rw [hgv.out] at h
    rcases hc with rfl | rfl | rfl | rfl <;> omega
theorem St.keep {w0 w wa : World} {k : Nat} {ps : List (Bool × Int × Int × ByteArray)} {F F2 G : Nat → Prop} {v : Value} (h : St w0 w k ps F G v) (hb : BB wa F2 w0.heap.size (enc ps)) (hm : Mod F w wa) (hg : Grow F F2 w) : St w0 wa (k + 1) ps F2 G v := by
  obtain ⟨ho, f2, d2, l2, b2⟩ := h.wrote hb hm hg
  exact ⟨hb, ho, h.ok, Nat.le_succ_of_le h.nk, Nat.le_trans h.lk (Nat.mul_le_mul_right 400 (Nat.le_succ k)), f2, h.fG, d2, l2, b2⟩
theorem St.drew {w0 w : World} {k : Nat} {ps : List (Bool × Int × Int × ByteArray)} {F G : Nat → Prop} {v : Value} (h : St w0 w k ps F G v) : St w0 w.drew k ps F G v :=
  ⟨h.bb, h.ow.same flat_kp (fun _ _ => rfl), h.ok, h.nk, h.lk, h.fF, h.fG, h.dis, h.lG, h.be.drew⟩
/-- What is known in the second loop. -/
structure S2 (w0 w : World) (r j : Nat) (ps : List (Bool × Int × Int × ByteArray)) (F G : Nat → Prop) (A : Option Addr) : Prop where
  cb : CB w r (enc (ps.take j)).length (tx (enc ps)) 0
  bb : BB w F w0.heap.size (enc ps)
  cp : Kd.C kp w A ps.length ps
  ga : ∀ a, A = some a → G a.block
  fr : ∀ k, F k → k < r
  gr : ∀ k, G k → k < r
  r0 : w0.heap.size ≤ r
  be : Below w0.heap.size w0 w
theorem S2.go {w0 w w' : World} {r j i : Nat} {ps : List (Bool × Int × Int × ByteArray)} {F G : Nat → Prop} {A : Option Addr} (h : S2 w0 w r j ps F G A) (hc : CB w' r (enc (ps.take i)).length (tx (enc ps)) 0) (hm : Mod (At r) w w') : S2 w0 w' r i ps F G A :=
  ⟨hc, h.bb.far hm (fun k hk ha => by have := h.fr k hk; have h2 : k = r := ha; omega), C_same flat_kp h.cp (fun a ha => hm.block _ (Nat.lt_trans (h.gr _ (h.ga a ha)) h.cb.lt) (fun hr => by have := h.gr _ (h.ga a ha); have h2 : a.block = r := hr; omega)), h.ga, h.fr, h.gr, h.r0, hm.below h.be h.be.size (fun k hk => by rw [show k = r from hk]; exact h.r0)⟩
theorem plain_back (ps : List (Bool × Int × Int × ByteArray)) (j : Nat) (hj : j < ps.length) (hp : ps[j].1 = true) : ctext (tx (enc ps)) (enc (ps.take j)).length 0 ps[j].2.2.2.size = (ps[j].2.2.2, ((enc (ps.take (j + 1))).length : Int), 0) := by
  obtain ⟨R, hR⟩ := enc_split ps j hj
  rw [enc_take ps j hj, hR]
  have e : add1 (enc (ps.take j)) ps[j] = enc (ps.take j) ++ ps[j].2.2.2.data.toList := by unfold add1; rw [if_pos hp]
  rw [e]
  exact ctext_back _ _ _
theorem num_back (ps : List (Bool × Int × Int × ByteArray)) (j : Nat) (hj : j < ps.length) (hp : ps[j].1 = false) (hc : pcode ps[j].2.1 ps[j].2.2.1 = 0) (h0 : 0 ≤ ps[j].2.1) : ctake (tx (enc ps)) (enc (ps.take j)).length 0 ps[j].2.2.1 = (ps[j].2.1, ((enc (ps.take (j + 1))).length : Int), 0) := by
  obtain ⟨R, hR⟩ := enc_split ps j hj
  rw [enc_take ps j hj, hR]
  have e : add1 (enc (ps.take j)) ps[j] = pbytes (enc (ps.take j)) ps[j].2.1 ps[j].2.2.1 := by unfold add1; rw [hp]; rfl
  rw [e]
  exact ctake_back _ _ _ hc h0 _
theorem enc_le (ps : List (Bool × Int × Int × ByteArray)) (j : Nat) : (enc (ps.take j)).length ≤ (tx (enc ps)).size := by
  obtain ⟨r, h⟩ := fold_pre (ps.drop j) (enc (ps.take j))
  have e : enc ps = enc (ps.take j) ++ r := by
    rw [← h]
    conv => lhs; rw [← List.take_append_drop j ps]
    unfold enc
    rw [List.foldl_append]
  rw [tx_size, e, List.length_append]
  omega
set_option maxRecDepth 20000 in
set_option maxHeartbeats 4000000 in
theorem back (A : Option Addr) (cc : Nat) (l : List (Bool × Int × Int × ByteArray)) (w : World) (hC : Kd.C kp w A l.length l) (hn : ∀ x ∈ l, 0 ≤ x.2.1 ∧ x.2.1 < 18446744073709551616) :
    Calls Try.prog 14 #[.slice A l.length cc] w fun e w' => e = .returned (.bool true) ∧ Below w.heap.size w w' := by
  have HN := Lib.hid hn
  clear hn
  by_cases hbig : 200 < l.length
  · go_enter Try.func14, Try.ntmps14
    go_wp2_with fail
    refine (Al.awake _).mono ?_
    rintro e w' ⟨rfl, hb⟩
    go_wp2
    go_ret
    exact ⟨rfl, hb⟩
  · have hfr := Buf.fresh w
    have HX : St w (w.alloc (.cells #[.int .i64 0, .pointer none, .slice none 0 0] 106)) 0 [] (fun k => k = w.heap.size) (fun _ => False) (.slice none 0 0) :=
      ⟨hfr, Own.nil _ _ _ _, (fun p hp => by cases hp), Nat.zero_le _, Nat.zero_le _, (fun k hk => by rw [show k = w.heap.size from hk]; exact Nat.le_refl _), fun k hk => hk.elim, fun _ _ h => h, fun _ h => h.elim, (Below.refl _ _).alloc (Nat.le_refl _) _⟩
    clear hfr
    go_enter Try.func14, Try.ntmps14
    go_wp2
    go_loopw [4, 5] (fun v i wr => ∃ (k : Nat) (ps : List (Bool × Int × Int × ByteArray)) (F G : Nat → Prop), k ≤ l.length ∧ i = .int .i64 (k : Int) ∧ St w wr k ps F G v) (fun _ i _ => (l.length - (intOf i).toNat))
    case atStart => exact ⟨0, [], _, _, by omega, rfl, HX⟩
    case round =>
      rename_i v _
      clear HX
      obtain ⟨k, ps, F, G, hk, rfl, HS⟩ := hrel
      have k0 : (0 : Int) ≤ (k : Int) := by omega
      obtain ⟨A1, c1, rfl, -, -⟩ := HS.ow.rd.get
      by_cases hlt : k < l.length
      · have k2 : (k : Int) < (l.length : Int) := by omega
        obtain ⟨ad, rfl, c0, c1, c2, c3⟩ := part_cells (Kd.C_below hC HS.be) k hlt
        obtain ⟨_, ea, ca, _⟩ := part_cells hC k hlt
        obtain rfl := Option.some.inj ea
        have hal := World.block_lt_of_cell? w _ ca
        have HXn := Lib.hid (HN.out _ (List.getElem_mem hlt))
        clear ca
        generalize l[k] = x at *
        obtain ⟨x0, x1, x2, x3⟩ := x
        dsimp only at c0 c1 c2 c3 HXn
        by_cases hbg : 300 < x3.size
        · go_wp2_with fail
          refine (Al.awake _).mono ?_
          rintro e w' ⟨rfl, hb⟩
          go_wp2
          go_ret
          exact ⟨rfl, bstep HS.be hb⟩
        · have hb2 : ¬ ((300 : Int) < (x3.size : Int)) := by omega
          cases x0 with
          | true =>
            have hT := Buf.text F w.heap.size (enc ps) x3 wr HS.bb (by have := HS.lk; omega)
            go_wp2_with fail
            refine hT.mono ?_
            rintro e wa ⟨rfl, F2, HB2, m2, g2⟩
            have c0 := arg m2 HS.fF hal c0
            have c1 := argc m2 HS.fF hal c1
            have c2 := argc m2 HS.fF hal c2
            have c3 := argc m2 HS.fF hal c3
            obtain ⟨A5, c5, w1, G1, hrun, HS1, -⟩ := HS.put (p := (true, x1, x2, x3)) (by exact HB2) m2 g2 (.inl rfl) (by omega) (by
              have := HS.lk
              show (enc ps ++ x3.data.toList).length ≤ _
              rw [List.length_append]
              show (enc ps).length + x3.size ≤ _
              omega)
            have HR := Lib.hid hrun
            clear hrun hT HB2 m2 g2 HS
            generalize ps ++ [(true, x1, x2, x3)] = ps2 at *
            go_wp2_with (at_builtin; refine wp_append rfl _ _ _ rfl rfl rfl HR.out ?_)
            go_roundw
            case rel => exact ⟨k + 1, ps2, _, _, by omega, by go_num, HS1⟩
            case measure => simp [intOf]; omega
          | false =>
            have hP := fun W h => aput F w.heap.size (enc ps) x1 x2 W h (by have := HS.lk; omega) HXn.out.1 HXn.out.2
            go_wp2_with fail
            refine (Buf.len_ F w.heap.size (enc ps) wr HS.bb).mono ?_
            rintro e w' ⟨rfl, rfl⟩
            by_cases hq : pcode x1 x2 = 0
            · have hpt : pto (enc ps) x1 x2 = pbytes (enc ps) x1 x2 := if_pos hq
              rw [hq, hpt] at hP
              clear hpt
              go_wp2_with fail
              refine Reg.wp_plan (S := fun w' => w'.cell? (ad.add (k * 4)) = some (.bool false) ∧ w'.cell? ⟨(ad.add (k * 4)).block, (ad.add (k * 4)).off + 1, none⟩ = some (.int .u64 x1) ∧ w'.cell? ⟨(ad.add (k * 4)).block, (ad.add (k * 4)).off + 2, none⟩ = some (.int .i64 x2) ∧ w'.cell? ⟨(ad.add (k * 4)).block, (ad.add (k * 4)).off + 3, none⟩ = some (.string x3)) 13 (.fl 0 (.fl 1 (.fl 2 (.fl 3 (.fl 4 (.fl 5 (.fl 6 (.fl 7 (.fl 8 (.fl 9 (.fl 10 (.one 11 (.fl 12 .done))))))))))))) (by kernel_rfl) (by kernel_rfl) (by kernel_rfl) (by kernel_rfl) (fun _ _ _ d _ h => by cases d <;> exact h) ?_ (fun hHeld => ?_)
              · exact ⟨by simpa using c0, by simpa using c1, by simpa using c2, by simpa using c3⟩
              refine Reg.G_on (o := { dst := some 50, op := Op.move (Operand.tmp 3), type := 68, pos := "law.go:105", after := #[], guard := Option.none }) (v := ?_) (by rfl) ?_ (fun wS hSw => ?_) ?_
              rotate_left
              · kernel_rfl
              · (try dsimp only at hSw); go_simp; (try with_reducible rfl)
              try simp only [Act.put, List.setIfInBounds_toArray, List.set_cons_zero, List.set_cons_succ]
              refine Reg.G_on (o := { dst := some 51, op := Op.move (Operand.tmp 0), type := 67, pos := "law.go:105", after := #[], guard := Option.none }) (v := ?_) (by rfl) ?_ (fun wS hSw => ?_) ?_
              rotate_left
              · kernel_rfl
              · (try dsimp only at hSw); go_simp; (try with_reducible rfl)
              try simp only [Act.put, List.setIfInBounds_toArray, List.set_cons_zero, List.set_cons_succ]
              refine Reg.G_on (o := { dst := some 52, op := Op.move (Operand.tmp 5), type := 3, pos := "law.go:105", after := #[], guard := Option.none }) (v := ?_) (by rfl) ?_ (fun wS hSw => ?_) ?_
              rotate_left
              · kernel_rfl
              · (try dsimp only at hSw); go_simp; (try with_reducible rfl)
              try simp only [Act.put, List.setIfInBounds_toArray, List.set_cons_zero, List.set_cons_succ]
              refine Reg.G_on (o := { dst := some 53, op := Op.indexAddr 67 (Operand.tmp 51) (Operand.tmp 52), type := 0, pos := "law.go:105", after := #[{ on := 1, ground := Ground.data }, { on := 2, ground := Ground.data }], guard := Option.none }) (v := ?_) (by rfl) ?_ (fun wS hSw => ?_) ?_
              rotate_left
              · kernel_rfl
              · (try dsimp only at hSw); go_simp; (try with_reducible rfl)
              try simp only [Act.put, List.setIfInBounds_toArray, List.set_cons_zero, List.set_cons_succ]
              refine Reg.G_on (o := { dst := some 54, op := Op.fieldAddr 71 (Operand.tmp 53) 1, type := 0, pos := "law.go:105", after := #[{ on := 3, ground := Ground.data }], guard := Option.none }) (v := ?_) (by rfl) ?_ (fun wS hSw => ?_) ?_
              rotate_left
              · kernel_rfl
              · (try dsimp only at hSw); go_simp; (try with_reducible rfl)
              try simp only [Act.put, List.setIfInBounds_toArray, List.set_cons_zero, List.set_cons_succ]
              refine Reg.G_on (o := { dst := some 55, op := Op.load 22 (Operand.tmp 54), type := 22, pos := "law.go:105", after := #[{ on := 4, ground := Ground.data }], guard := Option.none }) (v := ?_) (by rfl) ?_ (fun wS hSw => ?_) ?_
              rotate_left
              · kernel_rfl
              · (try dsimp only at hSw); go_simp; (try with_reducible rfl)
              try simp only [Act.put, List.setIfInBounds_toArray, List.set_cons_zero, List.set_cons_succ]
              refine Reg.G_on (o := { dst := some 56, op := Op.move (Operand.tmp 0), type := 67, pos := "law.go:105", after := #[], guard := Option.none }) (v := ?_) (by rfl) ?_ (fun wS hSw => ?_) ?_
              rotate_left
              · kernel_rfl
              · (try dsimp only at hSw); go_simp; (try with_reducible rfl)
              try simp only [Act.put, List.setIfInBounds_toArray, List.set_cons_zero, List.set_cons_succ]
              refine Reg.G_on (o := { dst := some 57, op := Op.move (Operand.tmp 5), type := 3, pos := "law.go:105", after := #[], guard := Option.none }) (v := ?_) (by rfl) ?_ (fun wS hSw => ?_) ?_
              rotate_left
              · kernel_rfl
              · (try dsimp only at hSw); go_simp; (try with_reducible rfl)
              try simp only [Act.put, List.setIfInBounds_toArray, List.set_cons_zero, List.set_cons_succ]
              refine Reg.G_on (o := { dst := some 58, op := Op.indexAddr 67 (Operand.tmp 56) (Operand.tmp 57), type := 0, pos := "law.go:105", after := #[{ on := 6, ground := Ground.data }, { on := 7, ground := Ground.data }], guard := Option.none }) (v := ?_) (by rfl) ?_ (fun wS hSw => ?_) ?_
              rotate_left
              · kernel_rfl
              · (try dsimp only at hSw); go_simp; (try with_reducible rfl)
              try simp only [Act.put, List.setIfInBounds_toArray, List.set_cons_zero, List.set_cons_succ]
              refine Reg.G_on (o := { dst := some 59, op := Op.fieldAddr 71 (Operand.tmp 58) 2, type := 0, pos := "law.go:105", after := #[{ on := 8, ground := Ground.data }], guard := Option.none }) (v := ?_) (by rfl) ?_ (fun wS hSw => ?_) ?_
              rotate_left
              · kernel_rfl
              · (try dsimp only at hSw); go_simp; (try with_reducible rfl)
              try simp only [Act.put, List.setIfInBounds_toArray, List.set_cons_zero, List.set_cons_succ]
              refine Reg.G_on (o := { dst := some 60, op := Op.load 3 (Operand.tmp 59), type := 3, pos := "law.go:105", after := #[{ on := 9, ground := Ground.data }], guard := Option.none }) (v := ?_) (by rfl) ?_ (fun wS hSw => ?_) ?_
              rotate_left
              · kernel_rfl
              · (try dsimp only at hSw); go_simp; (try with_reducible rfl)
              try simp only [Act.put, List.setIfInBounds_toArray, List.set_cons_zero, List.set_cons_succ]
              refine Reg.G_step (o := { dst := some 61, op := Op.call { callee := Callee.value (Operand.func 54), args := #[Operand.tmp 50, Operand.tmp 55, Operand.tmp 60], argTypes := #[68, 22, 3] }, type := 73, pos := "law.go:105", after := #[{ on := 0, ground := Ground.data }, { on := 5, ground := Ground.data }, { on := 10, ground := Ground.data }], guard := Option.none }) (by rfl) ?_ (fun K hK => ?_)
              · kernel_rfl
              go_simp
              refine (hP wr.drew HS.bb.drew).mono ?_
              rintro e w' ⟨rfl, F2, HB2, mp, g2⟩
              refine hK.out _ _ ?_ (fun hHeld => ?_)
              · exact ⟨arg mp HS.fF hal hHeld.1, argc mp HS.fF hal hHeld.2.1, argc mp HS.fF hal hHeld.2.2.1, argc mp HS.fF hal hHeld.2.2.2⟩
              clear hK K
              try simp only [Act.put, List.setIfInBounds_toArray, List.set_cons_zero, List.set_cons_succ]
              refine Reg.G_on (o := { dst := some 62, op := Op.binOp BinOp.eql 73 (Operand.tmp 61) (Operand.const (Value.int IntKind.i64 0)) 73, type := 4, pos := "law.go:105", after := #[{ on := 11, ground := Ground.data }], guard := Option.none }) (v := ?_) (by rfl) ?_ (fun wS hSw => ?_) ?_
              rotate_left
              · kernel_rfl
              · (try dsimp only at hSw); go_simp; (try with_reducible rfl)
              try simp only [Act.put, List.setIfInBounds_toArray, List.set_cons_zero, List.set_cons_succ]
              refine Reg.G_done ?_
              rename World => wa
              clear hP c0 c1 c2 c3
              obtain ⟨c0, c1, c2, c3⟩ := hHeld
              have hpl := pbytes_len (enc ps) hq
              obtain ⟨A5, c5, w1, G1, hrun, HS1, hkeep⟩ := HS.drew.put (p := (false, x1, x2, x3)) (by exact HB2) mp g2 (.inr ⟨rfl, hq, HXn.out.1⟩) (by omega) (by
                have := HS.lk
                have := gapv_le (enc ps).length x2
                have := sz_cases (pcode_sz hq).1
                show (pbytes (enc ps) x1 x2).length ≤ _
                omega)
              have HR := Lib.hid hrun
              have d2 := hkeep ⟨(ad.add (k * 4)).block, (ad.add (k * 4)).off + 2, none⟩ _ hal c2
              have hnum := nums (enc ps).length (enc (ps ++ [(false, x1, x2, x3)])).length x2 (pcode_sz hq).1 (by rw [enc_snoc]; exact hpl) (by have := HS.lk; omega)
              clear hrun HB2 mp g2 HS hpl hkeep
              generalize enc ps = L1 at *
              generalize ps ++ [(false, x1, x2, x3)] = ps2 at *
              obtain ⟨q, d, n1, n2, n3, n4, n5, n6, n7, n8, n9⟩ := hnum
              go_wp2_with (at_builtin; refine wp_append rfl _ _ _ rfl rfl rfl HR.out ?_)
              refine Reg.wp_plan (S := fun w' => BB w' F2 w.heap.size (enc ps2) ∧ w'.cell? ⟨(ad.add (k * 4)).block, (ad.add (k * 4)).off + 2, none⟩ = some (.int .i64 x2)) 28 (.fl 0 (.fl 2 (.fl 3 (.fl 4 (.fl 5 (.fl 6 (.fl 8 (.fl 9 (.fl 10 (.fl 11 (.fl 12 (.one 1 (.fl 7 (.fl 13 (.fl 14 (.fl 15 (.fl 16 (.fl 18 (.fl 20 (.fl 21 (.fl 22 (.fl 23 (.fl 24 (.fl 25 (.one 17 (.fl 19 (.fl 26 (.fl 27 .done)))))))))))))))))))))))))))) (by kernel_rfl) (by kernel_rfl) (by kernel_rfl) (by kernel_rfl) (fun _ _ _ d _ h => by cases d <;> exact h) ?_ (fun hHeld => ?_)
              · exact ⟨HS1.bb, by simpa using d2⟩
              refine Reg.G_on (o := { dst := some 70, op := Op.move (Operand.tmp 3), type := 68, pos := "law.go:107", after := #[], guard := Option.none }) (v := ?_) (by rfl) ?_ (fun wS hSw => ?_) ?_
              rotate_left
              · kernel_rfl
              · (try dsimp only at hSw); go_simp; (try with_reducible rfl)
              try simp only [Act.put, List.setIfInBounds_toArray, List.set_cons_zero, List.set_cons_succ]
              refine Reg.G_on (o := { dst := some 72, op := Op.move (Operand.tmp 0), type := 67, pos := "law.go:107", after := #[], guard := Option.none }) (v := ?_) (by rfl) ?_ (fun wS hSw => ?_) ?_
              rotate_left
              · kernel_rfl
              · (try dsimp only at hSw); go_simp; (try with_reducible rfl)
              try simp only [Act.put, List.setIfInBounds_toArray, List.set_cons_zero, List.set_cons_succ]
              refine Reg.G_on (o := { dst := some 73, op := Op.move (Operand.tmp 5), type := 3, pos := "law.go:107", after := #[], guard := Option.none }) (v := ?_) (by rfl) ?_ (fun wS hSw => ?_) ?_
              rotate_left
              · kernel_rfl
              · (try dsimp only at hSw); go_simp; (try with_reducible rfl)
              try simp only [Act.put, List.setIfInBounds_toArray, List.set_cons_zero, List.set_cons_succ]
              refine Reg.G_on (o := { dst := some 74, op := Op.indexAddr 67 (Operand.tmp 72) (Operand.tmp 73), type := 0, pos := "law.go:107", after := #[{ on := 2, ground := Ground.data }, { on := 3, ground := Ground.data }], guard := Option.none }) (v := ?_) (by rfl) ?_ (fun wS hSw => ?_) ?_
              rotate_left
              · kernel_rfl
              · (try dsimp only at hSw); go_simp; (try with_reducible rfl)
              try simp only [Act.put, List.setIfInBounds_toArray, List.set_cons_zero, List.set_cons_succ]
              refine Reg.G_on (o := { dst := some 75, op := Op.fieldAddr 71 (Operand.tmp 74) 2, type := 0, pos := "law.go:107", after := #[{ on := 4, ground := Ground.data }], guard := Option.none }) (v := ?_) (by rfl) ?_ (fun wS hSw => ?_) ?_
              rotate_left
              · kernel_rfl
              · (try dsimp only at hSw); go_simp; (try with_reducible rfl)
              try simp only [Act.put, List.setIfInBounds_toArray, List.set_cons_zero, List.set_cons_succ]
              refine Reg.G_on (o := { dst := some 76, op := Op.load 3 (Operand.tmp 75), type := 3, pos := "law.go:107", after := #[{ on := 5, ground := Ground.data }], guard := Option.none }) (v := ?_) (by rfl) ?_ (fun wS hSw => ?_) ?_
              rotate_left
              · kernel_rfl
              · (try dsimp only at hSw); go_simp; (try with_reducible rfl)
              try simp only [Act.put, List.setIfInBounds_toArray, List.set_cons_zero, List.set_cons_succ]
              refine Reg.G_on (o := { dst := some 78, op := Op.move (Operand.tmp 0), type := 67, pos := "law.go:107", after := #[], guard := Option.none }) (v := ?_) (by rfl) ?_ (fun wS hSw => ?_) ?_
              rotate_left
              · kernel_rfl
              · (try dsimp only at hSw); go_simp; (try with_reducible rfl)
              try simp only [Act.put, List.setIfInBounds_toArray, List.set_cons_zero, List.set_cons_succ]
              refine Reg.G_on (o := { dst := some 79, op := Op.move (Operand.tmp 5), type := 3, pos := "law.go:107", after := #[], guard := Option.none }) (v := ?_) (by rfl) ?_ (fun wS hSw => ?_) ?_
              rotate_left
              · kernel_rfl
              · (try dsimp only at hSw); go_simp; (try with_reducible rfl)
              try simp only [Act.put, List.setIfInBounds_toArray, List.set_cons_zero, List.set_cons_succ]
              refine Reg.G_on (o := { dst := some 80, op := Op.indexAddr 67 (Operand.tmp 78) (Operand.tmp 79), type := 0, pos := "law.go:107", after := #[{ on := 8, ground := Ground.data }, { on := 9, ground := Ground.data }], guard := Option.none }) (v := ?_) (by rfl) ?_ (fun wS hSw => ?_) ?_
              rotate_left
              · kernel_rfl
              · (try dsimp only at hSw); go_simp; (try with_reducible rfl)
              try simp only [Act.put, List.setIfInBounds_toArray, List.set_cons_zero, List.set_cons_succ]
              refine Reg.G_on (o := { dst := some 81, op := Op.fieldAddr 71 (Operand.tmp 80) 2, type := 0, pos := "law.go:107", after := #[{ on := 10, ground := Ground.data }], guard := Option.none }) (v := ?_) (by rfl) ?_ (fun wS hSw => ?_) ?_
              rotate_left
              · kernel_rfl
              · (try dsimp only at hSw); go_simp; (try with_reducible rfl)
              try simp only [Act.put, List.setIfInBounds_toArray, List.set_cons_zero, List.set_cons_succ]
              refine Reg.G_on (o := { dst := some 82, op := Op.load 3 (Operand.tmp 81), type := 3, pos := "law.go:107", after := #[{ on := 11, ground := Ground.data }], guard := Option.none }) (v := ?_) (by rfl) ?_ (fun wS hSw => ?_) ?_
              rotate_left
              · kernel_rfl
              · (try dsimp only at hSw); go_simp; (try with_reducible rfl)
              try simp only [Act.put, List.setIfInBounds_toArray, List.set_cons_zero, List.set_cons_succ]
              refine Reg.G_step (o := { dst := some 71, op := Op.call { callee := Callee.value (Operand.func 55), args := #[Operand.tmp 70], argTypes := #[68] }, type := 3, pos := "law.go:107", after := #[{ on := 0, ground := Ground.data }], guard := Option.none }) (by rfl) ?_ (fun K hK => ?_)
              · kernel_rfl
              go_simp
              refine (Buf.len_ F2 w.heap.size (enc ps2) _ hHeld.1).mono ?_
              rintro e w' ⟨rfl, rfl⟩
              refine hK.out _ _ ?_ (fun hHeld => ?_)
              · exact hHeld
              clear hK K
              try simp only [Act.put, List.setIfInBounds_toArray, List.set_cons_zero, List.set_cons_succ]
              refine Reg.G_on (o := { dst := some 77, op := Op.binOp BinOp.sub 3 (Operand.tmp 71) (Operand.tmp 76) 3, type := 3, pos := "law.go:107", after := #[{ on := 1, ground := Ground.data }, { on := 6, ground := Ground.data }], guard := Option.none }) (v := ?_) (by rfl) ?_ (fun wS hSw => ?_) ?_
              rotate_left
              · kernel_rfl
              · (try dsimp only at hSw); go_simp; (try with_reducible rfl)
              try simp only [Act.put, List.setIfInBounds_toArray, List.set_cons_zero, List.set_cons_succ]
              refine Reg.G_on (o := { dst := some 83, op := Op.binOp BinOp.rem 3 (Operand.tmp 77) (Operand.tmp 82) 3, type := 3, pos := "law.go:107", after := #[{ on := 7, ground := Ground.data }, { on := 12, ground := Ground.data }], guard := Option.none }) (v := ?_) (by rfl) ?_ (fun wS hSw => ?_) ?_
              rotate_left
              · kernel_rfl
              · (try dsimp only at hSw); go_simp; (try with_reducible rfl)
              try simp only [Act.put, List.setIfInBounds_toArray, List.set_cons_zero, List.set_cons_succ]
              refine Reg.G_on (o := { dst := some 84, op := Op.binOp BinOp.neq 3 (Operand.tmp 83) (Operand.const (Value.int IntKind.i64 0)) 3, type := 4, pos := "law.go:107", after := #[{ on := 13, ground := Ground.data }], guard := Option.none }) (v := ?_) (by rfl) ?_ (fun wS hSw => ?_) ?_
              rotate_left
              · kernel_rfl
              · (try dsimp only at hSw); go_simp; (try with_reducible rfl)
              try simp only [Act.put, List.setIfInBounds_toArray, List.set_cons_zero, List.set_cons_succ]
              refine Reg.G_on (o := { dst := some 85, op := Op.move (Operand.tmp 84), type := 4, pos := "law.go:107", after := #[{ on := 14, ground := Ground.data }, { on := 1, ground := Ground.chain }], guard := Option.none }) (v := ?_) (by rfl) ?_ (fun wS hSw => ?_) ?_
              rotate_left
              · kernel_rfl
              · (try dsimp only at hSw); go_simp; (try with_reducible rfl)
              try simp only [Act.put, List.setIfInBounds_toArray, List.set_cons_zero, List.set_cons_succ]
              refine Reg.G_on (o := { dst := some 86, op := Op.move (Operand.tmp 3), type := 68, pos := "law.go:107", after := #[{ on := 15, ground := Ground.guard }], guard := some (15, false) }) (v := ?_) (by rfl) ?_ (fun wS hSw => ?_) ?_
              rotate_left
              · kernel_rfl
              · (try dsimp only at hSw); go_simp; (try with_reducible rfl)
              try simp only [Act.put, List.setIfInBounds_toArray, List.set_cons_zero, List.set_cons_succ]
              refine Reg.G_on (o := { dst := some 88, op := Op.move (Operand.tmp 6), type := 3, pos := "law.go:107", after := #[{ on := 15, ground := Ground.guard }], guard := some (15, false) }) (v := ?_) (by rfl) ?_ (fun wS hSw => ?_) ?_
              rotate_left
              · kernel_rfl
              · (try dsimp only at hSw); go_simp; (try with_reducible rfl)
              try simp only [Act.put, List.setIfInBounds_toArray, List.set_cons_zero, List.set_cons_succ]
              refine Reg.G_on (o := { dst := some 90, op := Op.move (Operand.tmp 0), type := 67, pos := "law.go:107", after := #[{ on := 15, ground := Ground.guard }], guard := some (15, false) }) (v := ?_) (by rfl) ?_ (fun wS hSw => ?_) ?_
              rotate_left
              · kernel_rfl
              · (try dsimp only at hSw); go_simp; (try with_reducible rfl)
              try simp only [Act.put, List.setIfInBounds_toArray, List.set_cons_zero, List.set_cons_succ]
              refine Reg.G_on (o := { dst := some 91, op := Op.move (Operand.tmp 5), type := 3, pos := "law.go:107", after := #[{ on := 15, ground := Ground.guard }], guard := some (15, false) }) (v := ?_) (by rfl) ?_ (fun wS hSw => ?_) ?_
              rotate_left
              · kernel_rfl
              · (try dsimp only at hSw); go_simp; (try with_reducible rfl)
              try simp only [Act.put, List.setIfInBounds_toArray, List.set_cons_zero, List.set_cons_succ]
              refine Reg.G_on (o := { dst := some 92, op := Op.indexAddr 67 (Operand.tmp 90) (Operand.tmp 91), type := 0, pos := "law.go:107", after := #[{ on := 20, ground := Ground.data }, { on := 21, ground := Ground.data }, { on := 15, ground := Ground.guard }], guard := some (15, false) }) (v := ?_) (by rfl) ?_ (fun wS hSw => ?_) ?_
              rotate_left
              · kernel_rfl
              · (try dsimp only at hSw); go_simp; (try with_reducible rfl)
              try simp only [Act.put, List.setIfInBounds_toArray, List.set_cons_zero, List.set_cons_succ]
              refine Reg.G_on (o := { dst := some 93, op := Op.fieldAddr 71 (Operand.tmp 92) 2, type := 0, pos := "law.go:107", after := #[{ on := 22, ground := Ground.data }, { on := 15, ground := Ground.guard }], guard := some (15, false) }) (v := ?_) (by rfl) ?_ (fun wS hSw => ?_) ?_
              rotate_left
              · kernel_rfl
              · (try dsimp only at hSw); go_simp; (try with_reducible rfl)
              try simp only [Act.put, List.setIfInBounds_toArray, List.set_cons_zero, List.set_cons_succ]
              refine Reg.G_on (o := { dst := some 94, op := Op.load 3 (Operand.tmp 93), type := 3, pos := "law.go:107", after := #[{ on := 23, ground := Ground.data }, { on := 15, ground := Ground.guard }], guard := some (15, false) }) (v := ?_) (by rfl) ?_ (fun wS hSw => ?_) ?_
              rotate_left
              · kernel_rfl
              · (try dsimp only at hSw); go_simp; (try with_reducible rfl)
              try simp only [Act.put, List.setIfInBounds_toArray, List.set_cons_zero, List.set_cons_succ]
              refine Reg.G_on (o := { dst := some 95, op := Op.binOp BinOp.mul 3 (Operand.const (Value.int IntKind.i64 2)) (Operand.tmp 94) 3, type := 3, pos := "law.go:107", after := #[{ on := 24, ground := Ground.data }, { on := 15, ground := Ground.guard }], guard := some (15, false) }) (v := ?_) (by rfl) ?_ (fun wS hSw => ?_) ?_
              rotate_left
              · kernel_rfl
              · (try dsimp only at hSw); go_simp; (try with_reducible rfl)
              try simp only [Act.put, List.setIfInBounds_toArray, List.set_cons_zero, List.set_cons_succ]
              refine Reg.G_step (o := { dst := some 87, op := Op.call { callee := Callee.value (Operand.func 55), args := #[Operand.tmp 86], argTypes := #[68] }, type := 3, pos := "law.go:107", after := #[{ on := 16, ground := Ground.data }, { on := 15, ground := Ground.chain }, { on := 15, ground := Ground.guard }], guard := some (15, false) }) (by rfl) ?_ (fun K hK => ?_)
              · kernel_rfl
              go_simp
              refine (Buf.len_ F2 w.heap.size (enc ps2) _ hHeld.1).mono ?_
              rintro e w' ⟨rfl, rfl⟩
              refine hK.out _ _ ?_ (fun hHeld => ?_)
              · exact hHeld
              clear hK K
              try simp only [Act.put, List.setIfInBounds_toArray, List.set_cons_zero, List.set_cons_succ]
              refine Reg.G_on (o := { dst := some 89, op := Op.binOp BinOp.sub 3 (Operand.tmp 87) (Operand.tmp 88) 3, type := 3, pos := "law.go:107", after := #[{ on := 17, ground := Ground.data }, { on := 18, ground := Ground.data }, { on := 15, ground := Ground.guard }], guard := some (15, false) }) (v := ?_) (by rfl) ?_ (fun wS hSw => ?_) ?_
              rotate_left
              · kernel_rfl
              · (try dsimp only at hSw); go_simp; (try with_reducible rfl)
              try simp only [Act.put, List.setIfInBounds_toArray, List.set_cons_zero, List.set_cons_succ]
              refine Reg.G_on (o := { dst := some 96, op := Op.binOp BinOp.geq 3 (Operand.tmp 89) (Operand.tmp 95) 3, type := 4, pos := "law.go:107", after := #[{ on := 19, ground := Ground.data }, { on := 25, ground := Ground.data }, { on := 15, ground := Ground.guard }], guard := some (15, false) }) (v := ?_) (by rfl) ?_ (fun wS hSw => ?_) ?_
              rotate_left
              · kernel_rfl
              · (try dsimp only at hSw); go_simp; (try with_reducible rfl)
              try simp only [Act.put, List.setIfInBounds_toArray, List.set_cons_zero, List.set_cons_succ]
              refine Reg.G_on (o := { dst := some 97, op := Op.pick (Operand.tmp 85) (Operand.const (Value.bool true)) (Operand.tmp 96), type := 4, pos := "law.go:107", after := #[{ on := 15, ground := Ground.data }, { on := 26, ground := Ground.data }], guard := Option.none }) (v := ?_) (by rfl) ?_ (fun wS hSw => ?_) ?_
              rotate_left
              · kernel_rfl
              · (try dsimp only at hSw); go_simp; (try with_reducible rfl)
              try simp only [Act.put, List.setIfInBounds_toArray, List.set_cons_zero, List.set_cons_succ]
              refine Reg.G_done ?_
              have HS2 := HS1.drew
              clear HS1 hHeld HR
              go_wp2
              go_roundw
              case rel => exact ⟨k + 1, ps2, _, _, by omega, by go_num, HS2⟩
              case measure => simp [intOf]; omega
            · have hpt : pto (enc ps) x1 x2 = enc ps := if_neg hq
              rw [hpt] at hP
              have hq2 : (pcode x1 x2 == 0) = false := by simpa using hq
              generalize pcode x1 x2 = qq at *
              clear hpt hq
              go_wp2_with fail
              refine Reg.wp_plan (S := fun w' => w'.cell? ⟨(ad.add (k * 4)).block, (ad.add (k * 4)).off + 1, none⟩ = some (.int .u64 x1) ∧ w'.cell? ⟨(ad.add (k * 4)).block, (ad.add (k * 4)).off + 2, none⟩ = some (.int .i64 x2)) 13 (.fl 0 (.fl 1 (.fl 2 (.fl 3 (.fl 4 (.fl 5 (.fl 6 (.fl 7 (.fl 8 (.fl 9 (.fl 10 (.one 11 (.fl 12 .done))))))))))))) (by kernel_rfl) (by kernel_rfl) (by kernel_rfl) (by kernel_rfl) (fun _ _ _ d _ h => by cases d <;> exact h) ?_ (fun hHeld => ?_)
              · exact ⟨by simpa using c1, by simpa using c2⟩
              refine Reg.G_on (o := { dst := some 50, op := Op.move (Operand.tmp 3), type := 68, pos := "law.go:105", after := #[], guard := Option.none }) (v := ?_) (by rfl) ?_ (fun wS hSw => ?_) ?_
              rotate_left
              · kernel_rfl
              · (try dsimp only at hSw); go_simp; (try with_reducible rfl)
              try simp only [Act.put, List.setIfInBounds_toArray, List.set_cons_zero, List.set_cons_succ]
              refine Reg.G_on (o := { dst := some 51, op := Op.move (Operand.tmp 0), type := 67, pos := "law.go:105", after := #[], guard := Option.none }) (v := ?_) (by rfl) ?_ (fun wS hSw => ?_) ?_
              rotate_left
              · kernel_rfl
              · (try dsimp only at hSw); go_simp; (try with_reducible rfl)
              try simp only [Act.put, List.setIfInBounds_toArray, List.set_cons_zero, List.set_cons_succ]
              refine Reg.G_on (o := { dst := some 52, op := Op.move (Operand.tmp 5), type := 3, pos := "law.go:105", after := #[], guard := Option.none }) (v := ?_) (by rfl) ?_ (fun wS hSw => ?_) ?_
              rotate_left
              · kernel_rfl
              · (try dsimp only at hSw); go_simp; (try with_reducible rfl)
              try simp only [Act.put, List.setIfInBounds_toArray, List.set_cons_zero, List.set_cons_succ]
              refine Reg.G_on (o := { dst := some 53, op := Op.indexAddr 67 (Operand.tmp 51) (Operand.tmp 52), type := 0, pos := "law.go:105", after := #[{ on := 1, ground := Ground.data }, { on := 2, ground := Ground.data }], guard := Option.none }) (v := ?_) (by rfl) ?_ (fun wS hSw => ?_) ?_
              rotate_left
              · kernel_rfl
              · (try dsimp only at hSw); go_simp; (try with_reducible rfl)
              try simp only [Act.put, List.setIfInBounds_toArray, List.set_cons_zero, List.set_cons_succ]
              refine Reg.G_on (o := { dst := some 54, op := Op.fieldAddr 71 (Operand.tmp 53) 1, type := 0, pos := "law.go:105", after := #[{ on := 3, ground := Ground.data }], guard := Option.none }) (v := ?_) (by rfl) ?_ (fun wS hSw => ?_) ?_
              rotate_left
              · kernel_rfl
              · (try dsimp only at hSw); go_simp; (try with_reducible rfl)
              try simp only [Act.put, List.setIfInBounds_toArray, List.set_cons_zero, List.set_cons_succ]
              refine Reg.G_on (o := { dst := some 55, op := Op.load 22 (Operand.tmp 54), type := 22, pos := "law.go:105", after := #[{ on := 4, ground := Ground.data }], guard := Option.none }) (v := ?_) (by rfl) ?_ (fun wS hSw => ?_) ?_
              rotate_left
              · kernel_rfl
              · (try dsimp only at hSw); go_simp; (try with_reducible rfl)
              try simp only [Act.put, List.setIfInBounds_toArray, List.set_cons_zero, List.set_cons_succ]
              refine Reg.G_on (o := { dst := some 56, op := Op.move (Operand.tmp 0), type := 67, pos := "law.go:105", after := #[], guard := Option.none }) (v := ?_) (by rfl) ?_ (fun wS hSw => ?_) ?_
              rotate_left
              · kernel_rfl
              · (try dsimp only at hSw); go_simp; (try with_reducible rfl)
              try simp only [Act.put, List.setIfInBounds_toArray, List.set_cons_zero, List.set_cons_succ]
              refine Reg.G_on (o := { dst := some 57, op := Op.move (Operand.tmp 5), type := 3, pos := "law.go:105", after := #[], guard := Option.none }) (v := ?_) (by rfl) ?_ (fun wS hSw => ?_) ?_
              rotate_left
              · kernel_rfl
              · (try dsimp only at hSw); go_simp; (try with_reducible rfl)
              try simp only [Act.put, List.setIfInBounds_toArray, List.set_cons_zero, List.set_cons_succ]
              refine Reg.G_on (o := { dst := some 58, op := Op.indexAddr 67 (Operand.tmp 56) (Operand.tmp 57), type := 0, pos := "law.go:105", after := #[{ on := 6, ground := Ground.data }, { on := 7, ground := Ground.data }], guard := Option.none }) (v := ?_) (by rfl) ?_ (fun wS hSw => ?_) ?_
              rotate_left
              · kernel_rfl
              · (try dsimp only at hSw); go_simp; (try with_reducible rfl)
              try simp only [Act.put, List.setIfInBounds_toArray, List.set_cons_zero, List.set_cons_succ]
              refine Reg.G_on (o := { dst := some 59, op := Op.fieldAddr 71 (Operand.tmp 58) 2, type := 0, pos := "law.go:105", after := #[{ on := 8, ground := Ground.data }], guard := Option.none }) (v := ?_) (by rfl) ?_ (fun wS hSw => ?_) ?_
              rotate_left
              · kernel_rfl
              · (try dsimp only at hSw); go_simp; (try with_reducible rfl)
              try simp only [Act.put, List.setIfInBounds_toArray, List.set_cons_zero, List.set_cons_succ]
              refine Reg.G_on (o := { dst := some 60, op := Op.load 3 (Operand.tmp 59), type := 3, pos := "law.go:105", after := #[{ on := 9, ground := Ground.data }], guard := Option.none }) (v := ?_) (by rfl) ?_ (fun wS hSw => ?_) ?_
              rotate_left
              · kernel_rfl
              · (try dsimp only at hSw); go_simp; (try with_reducible rfl)
              try simp only [Act.put, List.setIfInBounds_toArray, List.set_cons_zero, List.set_cons_succ]
              refine Reg.G_step (o := { dst := some 61, op := Op.call { callee := Callee.value (Operand.func 54), args := #[Operand.tmp 50, Operand.tmp 55, Operand.tmp 60], argTypes := #[68, 22, 3] }, type := 73, pos := "law.go:105", after := #[{ on := 0, ground := Ground.data }, { on := 5, ground := Ground.data }, { on := 10, ground := Ground.data }], guard := Option.none }) (by rfl) ?_ (fun K hK => ?_)
              · kernel_rfl
              go_simp
              refine (hP wr.drew HS.bb.drew).mono ?_
              rintro e w' ⟨rfl, F2, HB2, mp, g2⟩
              refine hK.out _ _ ?_ (fun hHeld => ?_)
              · exact ⟨argc mp HS.fF hal hHeld.1, argc mp HS.fF hal hHeld.2⟩
              clear hK K
              try simp only [Act.put, List.setIfInBounds_toArray, List.set_cons_zero, List.set_cons_succ]
              refine Reg.G_on (o := { dst := some 62, op := Op.binOp BinOp.eql 73 (Operand.tmp 61) (Operand.const (Value.int IntKind.i64 0)) 73, type := 4, pos := "law.go:105", after := #[{ on := 11, ground := Ground.data }], guard := Option.none }) (v := ?_) (by rfl) ?_ (fun wS hSw => ?_) ?_
              rotate_left
              · kernel_rfl
              · (try dsimp only at hSw); go_simp; (try with_reducible rfl)
              try simp only [Act.put, List.setIfInBounds_toArray, List.set_cons_zero, List.set_cons_succ]
              refine Reg.G_done ?_
              rename World => wa
              have HS1 := HS.drew.keep HB2 mp g2
              clear hP c0 c1 c2 c3 hHeld HB2 mp g2 HS
              go_wp2_with fail
              refine (Buf.len_ F2 w.heap.size (enc ps) wa HS1.bb).mono ?_
              rintro e w' ⟨rfl, rfl⟩
              go_wp2
              go_roundw
              case rel => exact ⟨k + 1, ps, _, _, by omega, by go_num, HS1⟩
              case measure => simp [intOf]; omega
      · have hk2 : ¬ ((k : Int) < (l.length : Int)) := by omega
        have hb := abytes F w.heap.size (enc ps) wr HS.bb
        go_wp2_with fail
        refine hb.mono ?_
        rintro e w1 ⟨rfl, hb1, m1⟩
        have HS1 := HS.keep hb1 m1 (fun k hk => .inl hk)
        clear hb hb1 m1 HS
        go_wp2_with fail
        refine (read (tx (enc ps)) w1).mono ?_
        rintro e w2 ⟨rfl, hc2, b2⟩
        have hBB : BB w2 F w.heap.size (enc ps) := HS1.bb.below b2
        have hRd : Rd kp w2 G (.slice A1 ps.length c1) ps := (HS1.ow.same flat_kp (Same.of b2 HS1.lG)).rd
        obtain ⟨A2, c2, e2, hlc, hCp, hGA⟩ := hRd
        injection e2 with e3 _ e4
        subst e3 e4
        have hbe := bstep HS1.be b2
        have hcF : w.heap.size < w1.heap.size := HS1.bb.lt _ HS1.bb.at_
        have hsz : (tx (enc ps)).size ≤ 140737488355328 := by have := HS1.lk; rw [tx_size]; omega
        have hok := Lib.hid HS1.ok
        have hnk := HS1.nk
        have hFl : Hid (∀ k, F k → k < w1.heap.size) := Lib.hid HS1.bb.lt
        have hFg : Hid (∀ k, G k → k < w1.heap.size) := Lib.hid HS1.lG
        go_wp2
        have HX : S2 w w2 w1.heap.size 0 ps F G A1 := ⟨hc2, hBB, hCp, hGA, hFl.out, hFg.out, by omega, hbe⟩
        generalize hcr : w1.heap.size = r at *
        clear HS1 b2 hcr hc2 hBB hCp hGA hFl hFg hbe
        go_loopw [8] (fun i wr => ∃ j : Nat, j ≤ ps.length ∧ i = .int .i64 (j : Int) ∧ S2 w wr r j ps F G A1) (fun i _ => (ps.length - (intOf i).toNat))
        case atStart => exact ⟨0, by omega, rfl, HX⟩
        case round =>
          rename World => wr2
          clear HX
          obtain ⟨j, hj, rfl, HS⟩ := hrel
          have j0 : (0 : Int) ≤ (j : Int) := by omega
          have hle := enc_le ps j
          by_cases hjl : j < ps.length
          · have j2 : (j : Int) < (ps.length : Int) := by omega
            obtain ⟨ad2, rfl, d0, d1, d2, d3⟩ := part_cells HS.cp j hjl
            have hab : (ad2.add (j * 4)).block < r := by
              rw [add_block]
              exact HS.gr _ (HS.ga _ rfl)
            have hokj := hok.out _ (List.getElem_mem hjl)
            have hwr : r < wr2.heap.size := HS.cb.lt
            have hne : (ad2.add (j * 4)).block ≠ r := by omega
            have hgo := fun w' => HS.go (w' := w') (i := j + 1)
            have hle2 := enc_le ps (j + 1)
            rcases hokj with hp | ⟨hp, hpc, hp0⟩
            · have hpb := plain_back ps j hjl hp
              have hsz2 : ps[j].2.2.2.size ≤ (tx (enc ps)).size := by
                rw [enc_take ps j hjl] at hle2
                unfold add1 at hle2
                rw [if_pos hp, List.length_append] at hle2
                have : ps[j].2.2.2.data.toList.length = ps[j].2.2.2.size := rfl
                omega
              have hT := fun W (h : CB W r (enc (ps.take j)).length (tx (enc ps)) 0) => text_at r _ (tx (enc ps)) 0 (ps[j].2.2.2.size : Int) W h hle hsz (by omega) hpb
              have hcb := HS.cb
              clear hpb hsz2 hle hle2
              generalize ps[j] = y at *
              obtain ⟨y0, y1, y2, y3⟩ := y
              dsimp only at d0 d1 d2 d3 hp hT
              subst hp
              generalize (enc (ps.take j)).length = aj at *
              generalize (enc (ps.take (j + 1))).length = aj2 at *
              generalize tx (enc ps) = T at *
              go_wp2_with fail
              refine Reg.wp_plan (S := fun w' => w'.cell? (ad2.add (j * 4)) = some (.bool true) ∧ w'.cell? ⟨(ad2.add (j * 4)).block, (ad2.add (j * 4)).off + 3, none⟩ = some (.string y3)) 44 (.fl 0 (.fl 1 (.fl 2 (.fl 3 (.fl 4 (.fl 5 (.fl 6 (.fl 7 (.fl 8 (.fl 9 (.fl 10 (.fl 11 (.fl 12 (.fl 14 (.fl 15 (.fl 16 (.fl 17 (.fl 18 (.one 13 (.fl 19 (.fl 20 (.fl 21 (.fl 22 (.fl 23 (.fl 24 (.fl 25 (.fl 26 (.fl 27 (.fl 28 (.fl 29 (.fl 30 (.fl 31 (.fl 32 (.fl 33 (.fl 34 (.fl 36 (.fl 37 (.fl 38 (.fl 39 (.fl 40 (.one 35 (.fl 41 (.fl 42 (.fl 43 .done)))))))))))))))))))))))))))))))))))))))))))) (by kernel_rfl) (by kernel_rfl) (by kernel_rfl) (by kernel_rfl) (fun _ _ _ d _ h => by cases d <;> exact h) ?_ (fun hHeld => ?_)
              · exact ⟨by simpa using d0, by simpa using d3⟩
              refine Reg.G_on (o := { dst := some 111, op := Op.move (Operand.tmp 4), type := 67, pos := "law.go:116", after := #[], guard := Option.none }) (v := ?_) (by rfl) ?_ (fun wS hSw => ?_) ?_
              rotate_left
              · kernel_rfl
              · (try dsimp only at hSw); go_simp; (try with_reducible rfl)
              try simp only [Act.put, List.setIfInBounds_toArray, List.set_cons_zero, List.set_cons_succ]
              refine Reg.G_on (o := { dst := some 112, op := Op.move (Operand.tmp 8), type := 3, pos := "law.go:116", after := #[], guard := Option.none }) (v := ?_) (by rfl) ?_ (fun wS hSw => ?_) ?_
              rotate_left
              · kernel_rfl
              · (try dsimp only at hSw); go_simp; (try with_reducible rfl)
              try simp only [Act.put, List.setIfInBounds_toArray, List.set_cons_zero, List.set_cons_succ]
              refine Reg.G_on (o := { dst := some 113, op := Op.indexAddr 67 (Operand.tmp 111) (Operand.tmp 112), type := 0, pos := "law.go:116", after := #[{ on := 0, ground := Ground.data }, { on := 1, ground := Ground.data }], guard := Option.none }) (v := ?_) (by rfl) ?_ (fun wS hSw => ?_) ?_
              rotate_left
              · kernel_rfl
              · (try dsimp only at hSw); go_simp; (try with_reducible rfl)
              try simp only [Act.put, List.setIfInBounds_toArray, List.set_cons_zero, List.set_cons_succ]
              refine Reg.G_on (o := { dst := some 114, op := Op.fieldAddr 71 (Operand.tmp 113) 0, type := 0, pos := "law.go:116", after := #[{ on := 2, ground := Ground.data }], guard := Option.none }) (v := ?_) (by rfl) ?_ (fun wS hSw => ?_) ?_
              rotate_left
              · kernel_rfl
              · (try dsimp only at hSw); go_simp; (try with_reducible rfl)
              try simp only [Act.put, List.setIfInBounds_toArray, List.set_cons_zero, List.set_cons_succ]
              refine Reg.G_on (o := { dst := some 115, op := Op.load 4 (Operand.tmp 114), type := 4, pos := "law.go:116", after := #[{ on := 3, ground := Ground.data }], guard := Option.none }) (v := ?_) (by rfl) ?_ (fun wS hSw => ?_) ?_
              rotate_left
              · kernel_rfl
              · (try dsimp only at hSw); go_simp; (try with_reducible rfl)
              try simp only [Act.put, List.setIfInBounds_toArray, List.set_cons_zero, List.set_cons_succ]
              refine Reg.G_on (o := { dst := some 116, op := Op.move (Operand.tmp 115), type := 4, pos := "law.go:116", after := #[{ on := 4, ground := Ground.data }], guard := Option.none }) (v := ?_) (by rfl) ?_ (fun wS hSw => ?_) ?_
              rotate_left
              · kernel_rfl
              · (try dsimp only at hSw); go_simp; (try with_reducible rfl)
              try simp only [Act.put, List.setIfInBounds_toArray, List.set_cons_zero, List.set_cons_succ]
              refine Reg.G_on (o := { dst := some 117, op := Op.move (Operand.tmp 7), type := 80, pos := "law.go:116", after := #[{ on := 5, ground := Ground.guard }], guard := some (5, true) }) (v := ?_) (by rfl) ?_ (fun wS hSw => ?_) ?_
              rotate_left
              · kernel_rfl
              · (try dsimp only at hSw); go_simp; (try with_reducible rfl)
              try simp only [Act.put, List.setIfInBounds_toArray, List.set_cons_zero, List.set_cons_succ]
              refine Reg.G_on (o := { dst := some 118, op := Op.move (Operand.tmp 4), type := 67, pos := "law.go:116", after := #[{ on := 5, ground := Ground.guard }], guard := some (5, true) }) (v := ?_) (by rfl) ?_ (fun wS hSw => ?_) ?_
              rotate_left
              · kernel_rfl
              · (try dsimp only at hSw); go_simp; (try with_reducible rfl)
              try simp only [Act.put, List.setIfInBounds_toArray, List.set_cons_zero, List.set_cons_succ]
              refine Reg.G_on (o := { dst := some 119, op := Op.move (Operand.tmp 8), type := 3, pos := "law.go:116", after := #[{ on := 5, ground := Ground.guard }], guard := some (5, true) }) (v := ?_) (by rfl) ?_ (fun wS hSw => ?_) ?_
              rotate_left
              · kernel_rfl
              · (try dsimp only at hSw); go_simp; (try with_reducible rfl)
              try simp only [Act.put, List.setIfInBounds_toArray, List.set_cons_zero, List.set_cons_succ]
              refine Reg.G_on (o := { dst := some 120, op := Op.indexAddr 67 (Operand.tmp 118) (Operand.tmp 119), type := 0, pos := "law.go:116", after := #[{ on := 7, ground := Ground.data }, { on := 8, ground := Ground.data }, { on := 5, ground := Ground.guard }], guard := some (5, true) }) (v := ?_) (by rfl) ?_ (fun wS hSw => ?_) ?_
              rotate_left
              · kernel_rfl
              · (try dsimp only at hSw); go_simp; (try with_reducible rfl)
              try simp only [Act.put, List.setIfInBounds_toArray, List.set_cons_zero, List.set_cons_succ]
              refine Reg.G_on (o := { dst := some 121, op := Op.fieldAddr 71 (Operand.tmp 120) 3, type := 0, pos := "law.go:116", after := #[{ on := 9, ground := Ground.data }, { on := 5, ground := Ground.guard }], guard := some (5, true) }) (v := ?_) (by rfl) ?_ (fun wS hSw => ?_) ?_
              rotate_left
              · kernel_rfl
              · (try dsimp only at hSw); go_simp; (try with_reducible rfl)
              try simp only [Act.put, List.setIfInBounds_toArray, List.set_cons_zero, List.set_cons_succ]
              refine Reg.G_on (o := { dst := some 122, op := Op.load 9 (Operand.tmp 121), type := 9, pos := "law.go:116", after := #[{ on := 10, ground := Ground.data }, { on := 5, ground := Ground.guard }], guard := some (5, true) }) (v := ?_) (by rfl) ?_ (fun wS hSw => ?_) ?_
              rotate_left
              · kernel_rfl
              · (try dsimp only at hSw); go_simp; (try with_reducible rfl)
              try simp only [Act.put, List.setIfInBounds_toArray, List.set_cons_zero, List.set_cons_succ]
              refine Reg.G_on (o := { dst := some 123, op := Op.call { callee := Callee.builtin Builtin.len, args := #[Operand.tmp 122], argTypes := #[9] }, type := 3, pos := "law.go:116", after := #[{ on := 11, ground := Ground.data }, { on := 5, ground := Ground.guard }], guard := some (5, true) }) (v := ?_) (by rfl) ?_ (fun wS hSw => ?_) ?_
              rotate_left
              · kernel_rfl
              · (try dsimp only at hSw); go_simp; (try with_reducible rfl)
              try simp only [Act.put, List.setIfInBounds_toArray, List.set_cons_zero, List.set_cons_succ]
              refine Reg.G_on (o := { dst := some 125, op := Op.move (Operand.tmp 4), type := 67, pos := "law.go:116", after := #[{ on := 5, ground := Ground.guard }], guard := some (5, true) }) (v := ?_) (by rfl) ?_ (fun wS hSw => ?_) ?_
              rotate_left
              · kernel_rfl
              · (try dsimp only at hSw); go_simp; (try with_reducible rfl)
              try simp only [Act.put, List.setIfInBounds_toArray, List.set_cons_zero, List.set_cons_succ]
              refine Reg.G_on (o := { dst := some 126, op := Op.move (Operand.tmp 8), type := 3, pos := "law.go:116", after := #[{ on := 5, ground := Ground.guard }], guard := some (5, true) }) (v := ?_) (by rfl) ?_ (fun wS hSw => ?_) ?_
              rotate_left
              · kernel_rfl
              · (try dsimp only at hSw); go_simp; (try with_reducible rfl)
              try simp only [Act.put, List.setIfInBounds_toArray, List.set_cons_zero, List.set_cons_succ]
              refine Reg.G_on (o := { dst := some 127, op := Op.indexAddr 67 (Operand.tmp 125) (Operand.tmp 126), type := 0, pos := "law.go:116", after := #[{ on := 14, ground := Ground.data }, { on := 15, ground := Ground.data }, { on := 5, ground := Ground.guard }], guard := some (5, true) }) (v := ?_) (by rfl) ?_ (fun wS hSw => ?_) ?_
              rotate_left
              · kernel_rfl
              · (try dsimp only at hSw); go_simp; (try with_reducible rfl)
              try simp only [Act.put, List.setIfInBounds_toArray, List.set_cons_zero, List.set_cons_succ]
              refine Reg.G_on (o := { dst := some 128, op := Op.fieldAddr 71 (Operand.tmp 127) 3, type := 0, pos := "law.go:116", after := #[{ on := 16, ground := Ground.data }, { on := 5, ground := Ground.guard }], guard := some (5, true) }) (v := ?_) (by rfl) ?_ (fun wS hSw => ?_) ?_
              rotate_left
              · kernel_rfl
              · (try dsimp only at hSw); go_simp; (try with_reducible rfl)
              try simp only [Act.put, List.setIfInBounds_toArray, List.set_cons_zero, List.set_cons_succ]
              refine Reg.G_on (o := { dst := some 129, op := Op.load 9 (Operand.tmp 128), type := 9, pos := "law.go:116", after := #[{ on := 17, ground := Ground.data }, { on := 5, ground := Ground.guard }], guard := some (5, true) }) (v := ?_) (by rfl) ?_ (fun wS hSw => ?_) ?_
              rotate_left
              · kernel_rfl
              · (try dsimp only at hSw); go_simp; (try with_reducible rfl)
              try simp only [Act.put, List.setIfInBounds_toArray, List.set_cons_zero, List.set_cons_succ]
              refine Reg.G_step (o := { dst := some 124, op := Op.call { callee := Callee.value (Operand.func 60), args := #[Operand.tmp 117, Operand.tmp 123], argTypes := #[80, 3] }, type := 9, pos := "law.go:116", after := #[{ on := 6, ground := Ground.data }, { on := 12, ground := Ground.data }, { on := 5, ground := Ground.chain }, { on := 5, ground := Ground.guard }], guard := some (5, true) }) (by rfl) ?_ (fun K hK => ?_)
              · kernel_rfl
              go_simp
              refine (hT wr2.drew hcb).mono ?_
              rintro e w' ⟨rfl, hc, mp⟩
              refine hK.out _ _ ?_ (fun hHeld => ?_)
              · exact ⟨mp.cell hHeld.1 hne, mp.cell hHeld.2 hne⟩
              clear hK K
              try simp only [Act.put, List.setIfInBounds_toArray, List.set_cons_zero, List.set_cons_succ]
              refine Reg.G_on (o := { dst := some 130, op := Op.binOp BinOp.neq 9 (Operand.tmp 124) (Operand.tmp 129) 9, type := 4, pos := "law.go:116", after := #[{ on := 13, ground := Ground.data }, { on := 18, ground := Ground.data }, { on := 5, ground := Ground.guard }], guard := some (5, true) }) (v := ?_) (by rfl) ?_ (fun wS hSw => ?_) ?_
              rotate_left
              · kernel_rfl
              · (try dsimp only at hSw); go_simp; (try with_reducible rfl)
              try simp only [Act.put, List.setIfInBounds_toArray, List.set_cons_zero, List.set_cons_succ]
              refine Reg.G_on (o := { dst := some 131, op := Op.pick (Operand.tmp 116) (Operand.tmp 130) (Operand.const (Value.bool false)), type := 4, pos := "law.go:116", after := #[{ on := 5, ground := Ground.data }, { on := 19, ground := Ground.data }], guard := Option.none }) (v := ?_) (by rfl) ?_ (fun wS hSw => ?_) ?_
              rotate_left
              · kernel_rfl
              · (try dsimp only at hSw); go_simp; (try with_reducible rfl)
              try simp only [Act.put, List.setIfInBounds_toArray, List.set_cons_zero, List.set_cons_succ]
              refine Reg.G_on (o := { dst := some 132, op := Op.move (Operand.tmp 131), type := 4, pos := "law.go:116", after := #[{ on := 20, ground := Ground.data }, { on := 13, ground := Ground.chain }], guard := Option.none }) (v := ?_) (by rfl) ?_ (fun wS hSw => ?_) ?_
              rotate_left
              · kernel_rfl
              · (try dsimp only at hSw); go_simp; (try with_reducible rfl)
              try simp only [Act.put, List.setIfInBounds_toArray, List.set_cons_zero, List.set_cons_succ]
              refine Reg.G_on (o := { dst := some 133, op := Op.move (Operand.tmp 4), type := 67, pos := "law.go:116", after := #[{ on := 21, ground := Ground.guard }], guard := some (21, false) }) (v := ?_) (by rfl) ?_ (fun wS hSw => ?_) ?_
              rotate_left
              · kernel_rfl
              · (try dsimp only at hSw); go_simp; (try with_reducible rfl)
              try simp only [Act.put, List.setIfInBounds_toArray, List.set_cons_zero, List.set_cons_succ]
              refine Reg.G_on (o := { dst := some 134, op := Op.move (Operand.tmp 8), type := 3, pos := "law.go:116", after := #[{ on := 21, ground := Ground.guard }], guard := some (21, false) }) (v := ?_) (by rfl) ?_ (fun wS hSw => ?_) ?_
              rotate_left
              · kernel_rfl
              · (try dsimp only at hSw); go_simp; (try with_reducible rfl)
              try simp only [Act.put, List.setIfInBounds_toArray, List.set_cons_zero, List.set_cons_succ]
              refine Reg.G_on (o := { dst := some 135, op := Op.indexAddr 67 (Operand.tmp 133) (Operand.tmp 134), type := 0, pos := "law.go:116", after := #[{ on := 22, ground := Ground.data }, { on := 23, ground := Ground.data }, { on := 21, ground := Ground.guard }], guard := some (21, false) }) (v := ?_) (by rfl) ?_ (fun wS hSw => ?_) ?_
              rotate_left
              · kernel_rfl
              · (try dsimp only at hSw); go_simp; (try with_reducible rfl)
              try simp only [Act.put, List.setIfInBounds_toArray, List.set_cons_zero, List.set_cons_succ]
              refine Reg.G_on (o := { dst := some 136, op := Op.fieldAddr 71 (Operand.tmp 135) 0, type := 0, pos := "law.go:116", after := #[{ on := 24, ground := Ground.data }, { on := 21, ground := Ground.guard }], guard := some (21, false) }) (v := ?_) (by rfl) ?_ (fun wS hSw => ?_) ?_
              rotate_left
              · kernel_rfl
              · (try dsimp only at hSw); go_simp; (try with_reducible rfl)
              try simp only [Act.put, List.setIfInBounds_toArray, List.set_cons_zero, List.set_cons_succ]
              refine Reg.G_on (o := { dst := some 137, op := Op.load 4 (Operand.tmp 136), type := 4, pos := "law.go:116", after := #[{ on := 25, ground := Ground.data }, { on := 21, ground := Ground.guard }], guard := some (21, false) }) (v := ?_) (by rfl) ?_ (fun wS hSw => ?_) ?_
              rotate_left
              · kernel_rfl
              · (try dsimp only at hSw); go_simp; (try with_reducible rfl)
              try simp only [Act.put, List.setIfInBounds_toArray, List.set_cons_zero, List.set_cons_succ]
              refine Reg.G_on (o := { dst := some 138, op := Op.unOp UnOp.not 4 (Operand.tmp 137), type := 4, pos := "law.go:116", after := #[{ on := 26, ground := Ground.data }, { on := 21, ground := Ground.guard }], guard := some (21, false) }) (v := ?_) (by rfl) ?_ (fun wS hSw => ?_) ?_
              rotate_left
              · kernel_rfl
              · (try dsimp only at hSw); go_simp; (try with_reducible rfl)
              try simp only [Act.put, List.setIfInBounds_toArray, List.set_cons_zero, List.set_cons_succ]
              refine Reg.G_on (o := { dst := some 139, op := Op.move (Operand.tmp 138), type := 4, pos := "law.go:116", after := #[{ on := 27, ground := Ground.data }, { on := 21, ground := Ground.chain }, { on := 21, ground := Ground.guard }], guard := some (21, false) }) (v := ?_) (by rfl) ?_ (fun wS hSw => ?_) ?_
              rotate_left
              · kernel_rfl
              · (try dsimp only at hSw); go_simp; (try with_reducible rfl)
              try simp only [Act.put, List.setIfInBounds_toArray, List.set_cons_zero, List.set_cons_succ]
              refine Reg.G_off (o := { dst := some 140, op := Op.move (Operand.tmp 7), type := 80, pos := "law.go:116", after := #[{ on := 28, ground := Ground.guard }], guard := some (28, true) }) (by rfl) ?_ ?_
              · kernel_rfl
              try simp only [Act.put, List.setIfInBounds_toArray, List.set_cons_zero, List.set_cons_succ]
              refine Reg.G_off (o := { dst := some 141, op := Op.move (Operand.tmp 4), type := 67, pos := "law.go:116", after := #[{ on := 28, ground := Ground.guard }], guard := some (28, true) }) (by rfl) ?_ ?_
              · kernel_rfl
              try simp only [Act.put, List.setIfInBounds_toArray, List.set_cons_zero, List.set_cons_succ]
              refine Reg.G_off (o := { dst := some 142, op := Op.move (Operand.tmp 8), type := 3, pos := "law.go:116", after := #[{ on := 28, ground := Ground.guard }], guard := some (28, true) }) (by rfl) ?_ ?_
              · kernel_rfl
              try simp only [Act.put, List.setIfInBounds_toArray, List.set_cons_zero, List.set_cons_succ]
              refine Reg.G_off (o := { dst := some 143, op := Op.indexAddr 67 (Operand.tmp 141) (Operand.tmp 142), type := 0, pos := "law.go:116", after := #[{ on := 30, ground := Ground.data }, { on := 31, ground := Ground.data }, { on := 28, ground := Ground.guard }], guard := some (28, true) }) (by rfl) ?_ ?_
              · kernel_rfl
              try simp only [Act.put, List.setIfInBounds_toArray, List.set_cons_zero, List.set_cons_succ]
              refine Reg.G_off (o := { dst := some 144, op := Op.fieldAddr 71 (Operand.tmp 143) 2, type := 0, pos := "law.go:116", after := #[{ on := 32, ground := Ground.data }, { on := 28, ground := Ground.guard }], guard := some (28, true) }) (by rfl) ?_ ?_
              · kernel_rfl
              try simp only [Act.put, List.setIfInBounds_toArray, List.set_cons_zero, List.set_cons_succ]
              refine Reg.G_off (o := { dst := some 145, op := Op.load 3 (Operand.tmp 144), type := 3, pos := "law.go:116", after := #[{ on := 33, ground := Ground.data }, { on := 28, ground := Ground.guard }], guard := some (28, true) }) (by rfl) ?_ ?_
              · kernel_rfl
              try simp only [Act.put, List.setIfInBounds_toArray, List.set_cons_zero, List.set_cons_succ]
              refine Reg.G_off (o := { dst := some 147, op := Op.move (Operand.tmp 4), type := 67, pos := "law.go:116", after := #[{ on := 28, ground := Ground.guard }], guard := some (28, true) }) (by rfl) ?_ ?_
              · kernel_rfl
              try simp only [Act.put, List.setIfInBounds_toArray, List.set_cons_zero, List.set_cons_succ]
              refine Reg.G_off (o := { dst := some 148, op := Op.move (Operand.tmp 8), type := 3, pos := "law.go:116", after := #[{ on := 28, ground := Ground.guard }], guard := some (28, true) }) (by rfl) ?_ ?_
              · kernel_rfl
              try simp only [Act.put, List.setIfInBounds_toArray, List.set_cons_zero, List.set_cons_succ]
              refine Reg.G_off (o := { dst := some 149, op := Op.indexAddr 67 (Operand.tmp 147) (Operand.tmp 148), type := 0, pos := "law.go:116", after := #[{ on := 36, ground := Ground.data }, { on := 37, ground := Ground.data }, { on := 28, ground := Ground.guard }], guard := some (28, true) }) (by rfl) ?_ ?_
              · kernel_rfl
              try simp only [Act.put, List.setIfInBounds_toArray, List.set_cons_zero, List.set_cons_succ]
              refine Reg.G_off (o := { dst := some 150, op := Op.fieldAddr 71 (Operand.tmp 149) 1, type := 0, pos := "law.go:116", after := #[{ on := 38, ground := Ground.data }, { on := 28, ground := Ground.guard }], guard := some (28, true) }) (by rfl) ?_ ?_
              · kernel_rfl
              try simp only [Act.put, List.setIfInBounds_toArray, List.set_cons_zero, List.set_cons_succ]
              refine Reg.G_off (o := { dst := some 151, op := Op.load 22 (Operand.tmp 150), type := 22, pos := "law.go:116", after := #[{ on := 39, ground := Ground.data }, { on := 28, ground := Ground.guard }], guard := some (28, true) }) (by rfl) ?_ ?_
              · kernel_rfl
              try simp only [Act.put, List.setIfInBounds_toArray, List.set_cons_zero, List.set_cons_succ]
              refine Reg.G_skip (o := { dst := some 146, op := Op.call { callee := Callee.value (Operand.func 59), args := #[Operand.tmp 140, Operand.tmp 145], argTypes := #[80, 3] }, type := 22, pos := "law.go:116", after := #[{ on := 29, ground := Ground.data }, { on := 34, ground := Ground.data }, { on := 28, ground := Ground.chain }, { on := 28, ground := Ground.guard }], guard := some (28, true) }) (by rfl) ?_ (by assumption) ?_
              · kernel_rfl
              try simp only [Act.put, List.setIfInBounds_toArray, List.set_cons_zero, List.set_cons_succ]
              refine Reg.G_off (o := { dst := some 152, op := Op.binOp BinOp.neq 22 (Operand.tmp 146) (Operand.tmp 151) 22, type := 4, pos := "law.go:116", after := #[{ on := 35, ground := Ground.data }, { on := 40, ground := Ground.data }, { on := 28, ground := Ground.guard }], guard := some (28, true) }) (by rfl) ?_ ?_
              · kernel_rfl
              try simp only [Act.put, List.setIfInBounds_toArray, List.set_cons_zero, List.set_cons_succ]
              refine Reg.G_on (o := { dst := some 153, op := Op.pick (Operand.tmp 139) (Operand.tmp 152) (Operand.const (Value.bool false)), type := 4, pos := "law.go:116", after := #[{ on := 28, ground := Ground.data }, { on := 41, ground := Ground.data }, { on := 21, ground := Ground.guard }], guard := some (21, false) }) (v := ?_) (by rfl) ?_ (fun wS hSw => ?_) ?_
              rotate_left
              · kernel_rfl
              · (try dsimp only at hSw); go_simp; (try with_reducible rfl)
              try simp only [Act.put, List.setIfInBounds_toArray, List.set_cons_zero, List.set_cons_succ]
              refine Reg.G_on (o := { dst := some 154, op := Op.pick (Operand.tmp 132) (Operand.const (Value.bool true)) (Operand.tmp 153), type := 4, pos := "law.go:116", after := #[{ on := 21, ground := Ground.data }, { on := 42, ground := Ground.data }], guard := Option.none }) (v := ?_) (by rfl) ?_ (fun wS hSw => ?_) ?_
              rotate_left
              · kernel_rfl
              · (try dsimp only at hSw); go_simp; (try with_reducible rfl)
              try simp only [Act.put, List.setIfInBounds_toArray, List.set_cons_zero, List.set_cons_succ]
              refine Reg.G_done ?_
              rename World => wn
              have HS2 := hgo wn hc ((Mod.refl (At r) wr2).drew.trans mp (fun k hk => .inl hk))
              clear hgo hc mp hHeld d0 d1 d2 d3 HS hT hcb
              go_wp2
              go_roundw
              case rel => exact ⟨j + 1, by omega, by go_num, HS2⟩
              case measure => simp [intOf]; omega
            · have hpb := num_back ps j hjl hp hpc hp0
              have hT := fun W (h : CB W r (enc (ps.take j)).length (tx (enc ps)) 0) => take_at r _ (tx (enc ps)) 0 ps[j].2.2.1 W h hle hsz hpb
              have hcb := HS.cb
              clear hpb hle hle2
              generalize ps[j] = y at *
              obtain ⟨y0, y1, y2, y3⟩ := y
              dsimp only at d0 d1 d2 d3 hp hT hpc hp0
              subst hp
              clear hpc hp0
              generalize (enc (ps.take j)).length = aj at *
              generalize (enc (ps.take (j + 1))).length = aj2 at *
              generalize tx (enc ps) = T at *
              go_wp2_with fail
              refine Reg.wp_plan (S := fun w' => w'.cell? (ad2.add (j * 4)) = some (.bool false) ∧ w'.cell? ⟨(ad2.add (j * 4)).block, (ad2.add (j * 4)).off + 1, none⟩ = some (.int .u64 y1) ∧ w'.cell? ⟨(ad2.add (j * 4)).block, (ad2.add (j * 4)).off + 2, none⟩ = some (.int .i64 y2)) 44 (.fl 0 (.fl 1 (.fl 2 (.fl 3 (.fl 4 (.fl 5 (.fl 6 (.fl 7 (.fl 8 (.fl 9 (.fl 10 (.fl 11 (.fl 12 (.fl 14 (.fl 15 (.fl 16 (.fl 17 (.fl 18 (.one 13 (.fl 19 (.fl 20 (.fl 21 (.fl 22 (.fl 23 (.fl 24 (.fl 25 (.fl 26 (.fl 27 (.fl 28 (.fl 29 (.fl 30 (.fl 31 (.fl 32 (.fl 33 (.fl 34 (.fl 36 (.fl 37 (.fl 38 (.fl 39 (.fl 40 (.one 35 (.fl 41 (.fl 42 (.fl 43 .done)))))))))))))))))))))))))))))))))))))))))))) (by kernel_rfl) (by kernel_rfl) (by kernel_rfl) (by kernel_rfl) (fun _ _ _ d _ h => by cases d <;> exact h) ?_ (fun hHeld => ?_)
              · exact ⟨by simpa using d0, by simpa using d1, by simpa using d2⟩
              refine Reg.G_on (o := { dst := some 111, op := Op.move (Operand.tmp 4), type := 67, pos := "law.go:116", after := #[], guard := Option.none }) (v := ?_) (by rfl) ?_ (fun wS hSw => ?_) ?_
              rotate_left
              · kernel_rfl
              · (try dsimp only at hSw); go_simp; (try with_reducible rfl)
              try simp only [Act.put, List.setIfInBounds_toArray, List.set_cons_zero, List.set_cons_succ]
              refine Reg.G_on (o := { dst := some 112, op := Op.move (Operand.tmp 8), type := 3, pos := "law.go:116", after := #[], guard := Option.none }) (v := ?_) (by rfl) ?_ (fun wS hSw => ?_) ?_
              rotate_left
              · kernel_rfl
              · (try dsimp only at hSw); go_simp; (try with_reducible rfl)
              try simp only [Act.put, List.setIfInBounds_toArray, List.set_cons_zero, List.set_cons_succ]
              refine Reg.G_on (o := { dst := some 113, op := Op.indexAddr 67 (Operand.tmp 111) (Operand.tmp 112), type := 0, pos := "law.go:116", after := #[{ on := 0, ground := Ground.data }, { on := 1, ground := Ground.data }], guard := Option.none }) (v := ?_) (by rfl) ?_ (fun wS hSw => ?_) ?_
              rotate_left
              · kernel_rfl
              · (try dsimp only at hSw); go_simp; (try with_reducible rfl)
              try simp only [Act.put, List.setIfInBounds_toArray, List.set_cons_zero, List.set_cons_succ]
              refine Reg.G_on (o := { dst := some 114, op := Op.fieldAddr 71 (Operand.tmp 113) 0, type := 0, pos := "law.go:116", after := #[{ on := 2, ground := Ground.data }], guard := Option.none }) (v := ?_) (by rfl) ?_ (fun wS hSw => ?_) ?_
              rotate_left
              · kernel_rfl
              · (try dsimp only at hSw); go_simp; (try with_reducible rfl)
              try simp only [Act.put, List.setIfInBounds_toArray, List.set_cons_zero, List.set_cons_succ]
              refine Reg.G_on (o := { dst := some 115, op := Op.load 4 (Operand.tmp 114), type := 4, pos := "law.go:116", after := #[{ on := 3, ground := Ground.data }], guard := Option.none }) (v := ?_) (by rfl) ?_ (fun wS hSw => ?_) ?_
              rotate_left
              · kernel_rfl
              · (try dsimp only at hSw); go_simp; (try with_reducible rfl)
              try simp only [Act.put, List.setIfInBounds_toArray, List.set_cons_zero, List.set_cons_succ]
              refine Reg.G_on (o := { dst := some 116, op := Op.move (Operand.tmp 115), type := 4, pos := "law.go:116", after := #[{ on := 4, ground := Ground.data }], guard := Option.none }) (v := ?_) (by rfl) ?_ (fun wS hSw => ?_) ?_
              rotate_left
              · kernel_rfl
              · (try dsimp only at hSw); go_simp; (try with_reducible rfl)
              try simp only [Act.put, List.setIfInBounds_toArray, List.set_cons_zero, List.set_cons_succ]
              refine Reg.G_off (o := { dst := some 117, op := Op.move (Operand.tmp 7), type := 80, pos := "law.go:116", after := #[{ on := 5, ground := Ground.guard }], guard := some (5, true) }) (by rfl) ?_ ?_
              · kernel_rfl
              try simp only [Act.put, List.setIfInBounds_toArray, List.set_cons_zero, List.set_cons_succ]
              refine Reg.G_off (o := { dst := some 118, op := Op.move (Operand.tmp 4), type := 67, pos := "law.go:116", after := #[{ on := 5, ground := Ground.guard }], guard := some (5, true) }) (by rfl) ?_ ?_
              · kernel_rfl
              try simp only [Act.put, List.setIfInBounds_toArray, List.set_cons_zero, List.set_cons_succ]
              refine Reg.G_off (o := { dst := some 119, op := Op.move (Operand.tmp 8), type := 3, pos := "law.go:116", after := #[{ on := 5, ground := Ground.guard }], guard := some (5, true) }) (by rfl) ?_ ?_
              · kernel_rfl
              try simp only [Act.put, List.setIfInBounds_toArray, List.set_cons_zero, List.set_cons_succ]
              refine Reg.G_off (o := { dst := some 120, op := Op.indexAddr 67 (Operand.tmp 118) (Operand.tmp 119), type := 0, pos := "law.go:116", after := #[{ on := 7, ground := Ground.data }, { on := 8, ground := Ground.data }, { on := 5, ground := Ground.guard }], guard := some (5, true) }) (by rfl) ?_ ?_
              · kernel_rfl
              try simp only [Act.put, List.setIfInBounds_toArray, List.set_cons_zero, List.set_cons_succ]
              refine Reg.G_off (o := { dst := some 121, op := Op.fieldAddr 71 (Operand.tmp 120) 3, type := 0, pos := "law.go:116", after := #[{ on := 9, ground := Ground.data }, { on := 5, ground := Ground.guard }], guard := some (5, true) }) (by rfl) ?_ ?_
              · kernel_rfl
              try simp only [Act.put, List.setIfInBounds_toArray, List.set_cons_zero, List.set_cons_succ]
              refine Reg.G_off (o := { dst := some 122, op := Op.load 9 (Operand.tmp 121), type := 9, pos := "law.go:116", after := #[{ on := 10, ground := Ground.data }, { on := 5, ground := Ground.guard }], guard := some (5, true) }) (by rfl) ?_ ?_
              · kernel_rfl
              try simp only [Act.put, List.setIfInBounds_toArray, List.set_cons_zero, List.set_cons_succ]
              refine Reg.G_off (o := { dst := some 123, op := Op.call { callee := Callee.builtin Builtin.len, args := #[Operand.tmp 122], argTypes := #[9] }, type := 3, pos := "law.go:116", after := #[{ on := 11, ground := Ground.data }, { on := 5, ground := Ground.guard }], guard := some (5, true) }) (by rfl) ?_ ?_
              · kernel_rfl
              try simp only [Act.put, List.setIfInBounds_toArray, List.set_cons_zero, List.set_cons_succ]
              refine Reg.G_off (o := { dst := some 125, op := Op.move (Operand.tmp 4), type := 67, pos := "law.go:116", after := #[{ on := 5, ground := Ground.guard }], guard := some (5, true) }) (by rfl) ?_ ?_
              · kernel_rfl
              try simp only [Act.put, List.setIfInBounds_toArray, List.set_cons_zero, List.set_cons_succ]
              refine Reg.G_off (o := { dst := some 126, op := Op.move (Operand.tmp 8), type := 3, pos := "law.go:116", after := #[{ on := 5, ground := Ground.guard }], guard := some (5, true) }) (by rfl) ?_ ?_
              · kernel_rfl
              try simp only [Act.put, List.setIfInBounds_toArray, List.set_cons_zero, List.set_cons_succ]
              refine Reg.G_off (o := { dst := some 127, op := Op.indexAddr 67 (Operand.tmp 125) (Operand.tmp 126), type := 0, pos := "law.go:116", after := #[{ on := 14, ground := Ground.data }, { on := 15, ground := Ground.data }, { on := 5, ground := Ground.guard }], guard := some (5, true) }) (by rfl) ?_ ?_
              · kernel_rfl
              try simp only [Act.put, List.setIfInBounds_toArray, List.set_cons_zero, List.set_cons_succ]
              refine Reg.G_off (o := { dst := some 128, op := Op.fieldAddr 71 (Operand.tmp 127) 3, type := 0, pos := "law.go:116", after := #[{ on := 16, ground := Ground.data }, { on := 5, ground := Ground.guard }], guard := some (5, true) }) (by rfl) ?_ ?_
              · kernel_rfl
              try simp only [Act.put, List.setIfInBounds_toArray, List.set_cons_zero, List.set_cons_succ]
              refine Reg.G_off (o := { dst := some 129, op := Op.load 9 (Operand.tmp 128), type := 9, pos := "law.go:116", after := #[{ on := 17, ground := Ground.data }, { on := 5, ground := Ground.guard }], guard := some (5, true) }) (by rfl) ?_ ?_
              · kernel_rfl
              try simp only [Act.put, List.setIfInBounds_toArray, List.set_cons_zero, List.set_cons_succ]
              refine Reg.G_skip (o := { dst := some 124, op := Op.call { callee := Callee.value (Operand.func 60), args := #[Operand.tmp 117, Operand.tmp 123], argTypes := #[80, 3] }, type := 9, pos := "law.go:116", after := #[{ on := 6, ground := Ground.data }, { on := 12, ground := Ground.data }, { on := 5, ground := Ground.chain }, { on := 5, ground := Ground.guard }], guard := some (5, true) }) (by rfl) ?_ (by assumption) ?_
              · kernel_rfl
              try simp only [Act.put, List.setIfInBounds_toArray, List.set_cons_zero, List.set_cons_succ]
              refine Reg.G_off (o := { dst := some 130, op := Op.binOp BinOp.neq 9 (Operand.tmp 124) (Operand.tmp 129) 9, type := 4, pos := "law.go:116", after := #[{ on := 13, ground := Ground.data }, { on := 18, ground := Ground.data }, { on := 5, ground := Ground.guard }], guard := some (5, true) }) (by rfl) ?_ ?_
              · kernel_rfl
              try simp only [Act.put, List.setIfInBounds_toArray, List.set_cons_zero, List.set_cons_succ]
              refine Reg.G_on (o := { dst := some 131, op := Op.pick (Operand.tmp 116) (Operand.tmp 130) (Operand.const (Value.bool false)), type := 4, pos := "law.go:116", after := #[{ on := 5, ground := Ground.data }, { on := 19, ground := Ground.data }], guard := Option.none }) (v := ?_) (by rfl) ?_ (fun wS hSw => ?_) ?_
              rotate_left
              · kernel_rfl
              · (try dsimp only at hSw); go_simp; (try with_reducible rfl)
              try simp only [Act.put, List.setIfInBounds_toArray, List.set_cons_zero, List.set_cons_succ]
              refine Reg.G_on (o := { dst := some 132, op := Op.move (Operand.tmp 131), type := 4, pos := "law.go:116", after := #[{ on := 20, ground := Ground.data }, { on := 13, ground := Ground.chain }], guard := Option.none }) (v := ?_) (by rfl) ?_ (fun wS hSw => ?_) ?_
              rotate_left
              · kernel_rfl
              · (try dsimp only at hSw); go_simp; (try with_reducible rfl)
              try simp only [Act.put, List.setIfInBounds_toArray, List.set_cons_zero, List.set_cons_succ]
              refine Reg.G_on (o := { dst := some 133, op := Op.move (Operand.tmp 4), type := 67, pos := "law.go:116", after := #[{ on := 21, ground := Ground.guard }], guard := some (21, false) }) (v := ?_) (by rfl) ?_ (fun wS hSw => ?_) ?_
              rotate_left
              · kernel_rfl
              · (try dsimp only at hSw); go_simp; (try with_reducible rfl)
              try simp only [Act.put, List.setIfInBounds_toArray, List.set_cons_zero, List.set_cons_succ]
              refine Reg.G_on (o := { dst := some 134, op := Op.move (Operand.tmp 8), type := 3, pos := "law.go:116", after := #[{ on := 21, ground := Ground.guard }], guard := some (21, false) }) (v := ?_) (by rfl) ?_ (fun wS hSw => ?_) ?_
              rotate_left
              · kernel_rfl
              · (try dsimp only at hSw); go_simp; (try with_reducible rfl)
              try simp only [Act.put, List.setIfInBounds_toArray, List.set_cons_zero, List.set_cons_succ]
              refine Reg.G_on (o := { dst := some 135, op := Op.indexAddr 67 (Operand.tmp 133) (Operand.tmp 134), type := 0, pos := "law.go:116", after := #[{ on := 22, ground := Ground.data }, { on := 23, ground := Ground.data }, { on := 21, ground := Ground.guard }], guard := some (21, false) }) (v := ?_) (by rfl) ?_ (fun wS hSw => ?_) ?_
              rotate_left
              · kernel_rfl
              · (try dsimp only at hSw); go_simp; (try with_reducible rfl)
              try simp only [Act.put, List.setIfInBounds_toArray, List.set_cons_zero, List.set_cons_succ]
              refine Reg.G_on (o := { dst := some 136, op := Op.fieldAddr 71 (Operand.tmp 135) 0, type := 0, pos := "law.go:116", after := #[{ on := 24, ground := Ground.data }, { on := 21, ground := Ground.guard }], guard := some (21, false) }) (v := ?_) (by rfl) ?_ (fun wS hSw => ?_) ?_
              rotate_left
              · kernel_rfl
              · (try dsimp only at hSw); go_simp; (try with_reducible rfl)
              try simp only [Act.put, List.setIfInBounds_toArray, List.set_cons_zero, List.set_cons_succ]
              refine Reg.G_on (o := { dst := some 137, op := Op.load 4 (Operand.tmp 136), type := 4, pos := "law.go:116", after := #[{ on := 25, ground := Ground.data }, { on := 21, ground := Ground.guard }], guard := some (21, false) }) (v := ?_) (by rfl) ?_ (fun wS hSw => ?_) ?_
              rotate_left
              · kernel_rfl
              · (try dsimp only at hSw); go_simp; (try with_reducible rfl)
              try simp only [Act.put, List.setIfInBounds_toArray, List.set_cons_zero, List.set_cons_succ]
              refine Reg.G_on (o := { dst := some 138, op := Op.unOp UnOp.not 4 (Operand.tmp 137), type := 4, pos := "law.go:116", after := #[{ on := 26, ground := Ground.data }, { on := 21, ground := Ground.guard }], guard := some (21, false) }) (v := ?_) (by rfl) ?_ (fun wS hSw => ?_) ?_
              rotate_left
              · kernel_rfl
              · (try dsimp only at hSw); go_simp; (try with_reducible rfl)
              try simp only [Act.put, List.setIfInBounds_toArray, List.set_cons_zero, List.set_cons_succ]
              refine Reg.G_on (o := { dst := some 139, op := Op.move (Operand.tmp 138), type := 4, pos := "law.go:116", after := #[{ on := 27, ground := Ground.data }, { on := 21, ground := Ground.chain }, { on := 21, ground := Ground.guard }], guard := some (21, false) }) (v := ?_) (by rfl) ?_ (fun wS hSw => ?_) ?_
              rotate_left
              · kernel_rfl
              · (try dsimp only at hSw); go_simp; (try with_reducible rfl)
              try simp only [Act.put, List.setIfInBounds_toArray, List.set_cons_zero, List.set_cons_succ]
              refine Reg.G_on (o := { dst := some 140, op := Op.move (Operand.tmp 7), type := 80, pos := "law.go:116", after := #[{ on := 28, ground := Ground.guard }], guard := some (28, true) }) (v := ?_) (by rfl) ?_ (fun wS hSw => ?_) ?_
              rotate_left
              · kernel_rfl
              · (try dsimp only at hSw); go_simp; (try with_reducible rfl)
              try simp only [Act.put, List.setIfInBounds_toArray, List.set_cons_zero, List.set_cons_succ]
              refine Reg.G_on (o := { dst := some 141, op := Op.move (Operand.tmp 4), type := 67, pos := "law.go:116", after := #[{ on := 28, ground := Ground.guard }], guard := some (28, true) }) (v := ?_) (by rfl) ?_ (fun wS hSw => ?_) ?_
              rotate_left
              · kernel_rfl
              · (try dsimp only at hSw); go_simp; (try with_reducible rfl)
              try simp only [Act.put, List.setIfInBounds_toArray, List.set_cons_zero, List.set_cons_succ]
              refine Reg.G_on (o := { dst := some 142, op := Op.move (Operand.tmp 8), type := 3, pos := "law.go:116", after := #[{ on := 28, ground := Ground.guard }], guard := some (28, true) }) (v := ?_) (by rfl) ?_ (fun wS hSw => ?_) ?_
              rotate_left
              · kernel_rfl
              · (try dsimp only at hSw); go_simp; (try with_reducible rfl)
              try simp only [Act.put, List.setIfInBounds_toArray, List.set_cons_zero, List.set_cons_succ]
              refine Reg.G_on (o := { dst := some 143, op := Op.indexAddr 67 (Operand.tmp 141) (Operand.tmp 142), type := 0, pos := "law.go:116", after := #[{ on := 30, ground := Ground.data }, { on := 31, ground := Ground.data }, { on := 28, ground := Ground.guard }], guard := some (28, true) }) (v := ?_) (by rfl) ?_ (fun wS hSw => ?_) ?_
              rotate_left
              · kernel_rfl
              · (try dsimp only at hSw); go_simp; (try with_reducible rfl)
              try simp only [Act.put, List.setIfInBounds_toArray, List.set_cons_zero, List.set_cons_succ]
              refine Reg.G_on (o := { dst := some 144, op := Op.fieldAddr 71 (Operand.tmp 143) 2, type := 0, pos := "law.go:116", after := #[{ on := 32, ground := Ground.data }, { on := 28, ground := Ground.guard }], guard := some (28, true) }) (v := ?_) (by rfl) ?_ (fun wS hSw => ?_) ?_
              rotate_left
              · kernel_rfl
              · (try dsimp only at hSw); go_simp; (try with_reducible rfl)
              try simp only [Act.put, List.setIfInBounds_toArray, List.set_cons_zero, List.set_cons_succ]
              refine Reg.G_on (o := { dst := some 145, op := Op.load 3 (Operand.tmp 144), type := 3, pos := "law.go:116", after := #[{ on := 33, ground := Ground.data }, { on := 28, ground := Ground.guard }], guard := some (28, true) }) (v := ?_) (by rfl) ?_ (fun wS hSw => ?_) ?_
              rotate_left
              · kernel_rfl
              · (try dsimp only at hSw); go_simp; (try with_reducible rfl)
              try simp only [Act.put, List.setIfInBounds_toArray, List.set_cons_zero, List.set_cons_succ]
              refine Reg.G_on (o := { dst := some 147, op := Op.move (Operand.tmp 4), type := 67, pos := "law.go:116", after := #[{ on := 28, ground := Ground.guard }], guard := some (28, true) }) (v := ?_) (by rfl) ?_ (fun wS hSw => ?_) ?_
              rotate_left
              · kernel_rfl
              · (try dsimp only at hSw); go_simp; (try with_reducible rfl)
              try simp only [Act.put, List.setIfInBounds_toArray, List.set_cons_zero, List.set_cons_succ]
              refine Reg.G_on (o := { dst := some 148, op := Op.move (Operand.tmp 8), type := 3, pos := "law.go:116", after := #[{ on := 28, ground := Ground.guard }], guard := some (28, true) }) (v := ?_) (by rfl) ?_ (fun wS hSw => ?_) ?_
              rotate_left
              · kernel_rfl
              · (try dsimp only at hSw); go_simp; (try with_reducible rfl)
              try simp only [Act.put, List.setIfInBounds_toArray, List.set_cons_zero, List.set_cons_succ]
              refine Reg.G_on (o := { dst := some 149, op := Op.indexAddr 67 (Operand.tmp 147) (Operand.tmp 148), type := 0, pos := "law.go:116", after := #[{ on := 36, ground := Ground.data }, { on := 37, ground := Ground.data }, { on := 28, ground := Ground.guard }], guard := some (28, true) }) (v := ?_) (by rfl) ?_ (fun wS hSw => ?_) ?_
              rotate_left
              · kernel_rfl
              · (try dsimp only at hSw); go_simp; (try with_reducible rfl)
              try simp only [Act.put, List.setIfInBounds_toArray, List.set_cons_zero, List.set_cons_succ]
              refine Reg.G_on (o := { dst := some 150, op := Op.fieldAddr 71 (Operand.tmp 149) 1, type := 0, pos := "law.go:116", after := #[{ on := 38, ground := Ground.data }, { on := 28, ground := Ground.guard }], guard := some (28, true) }) (v := ?_) (by rfl) ?_ (fun wS hSw => ?_) ?_
              rotate_left
              · kernel_rfl
              · (try dsimp only at hSw); go_simp; (try with_reducible rfl)
              try simp only [Act.put, List.setIfInBounds_toArray, List.set_cons_zero, List.set_cons_succ]
              refine Reg.G_on (o := { dst := some 151, op := Op.load 22 (Operand.tmp 150), type := 22, pos := "law.go:116", after := #[{ on := 39, ground := Ground.data }, { on := 28, ground := Ground.guard }], guard := some (28, true) }) (v := ?_) (by rfl) ?_ (fun wS hSw => ?_) ?_
              rotate_left
              · kernel_rfl
              · (try dsimp only at hSw); go_simp; (try with_reducible rfl)
              try simp only [Act.put, List.setIfInBounds_toArray, List.set_cons_zero, List.set_cons_succ]
              refine Reg.G_step (o := { dst := some 146, op := Op.call { callee := Callee.value (Operand.func 59), args := #[Operand.tmp 140, Operand.tmp 145], argTypes := #[80, 3] }, type := 22, pos := "law.go:116", after := #[{ on := 29, ground := Ground.data }, { on := 34, ground := Ground.data }, { on := 28, ground := Ground.chain }, { on := 28, ground := Ground.guard }], guard := some (28, true) }) (by rfl) ?_ (fun K hK => ?_)
              · kernel_rfl
              go_simp
              refine (hT wr2.drew hcb).mono ?_
              rintro e w' ⟨rfl, hc, mp⟩
              refine hK.out _ _ ?_ (fun hHeld => ?_)
              · exact ⟨mp.cell hHeld.1 hne, mp.cell hHeld.2.1 hne, mp.cell hHeld.2.2 hne⟩
              clear hK K
              try simp only [Act.put, List.setIfInBounds_toArray, List.set_cons_zero, List.set_cons_succ]
              refine Reg.G_on (o := { dst := some 152, op := Op.binOp BinOp.neq 22 (Operand.tmp 146) (Operand.tmp 151) 22, type := 4, pos := "law.go:116", after := #[{ on := 35, ground := Ground.data }, { on := 40, ground := Ground.data }, { on := 28, ground := Ground.guard }], guard := some (28, true) }) (v := ?_) (by rfl) ?_ (fun wS hSw => ?_) ?_
              rotate_left
              · kernel_rfl
              · (try dsimp only at hSw); go_simp; (try with_reducible rfl)
              try simp only [Act.put, List.setIfInBounds_toArray, List.set_cons_zero, List.set_cons_succ]
              refine Reg.G_on (o := { dst := some 153, op := Op.pick (Operand.tmp 139) (Operand.tmp 152) (Operand.const (Value.bool false)), type := 4, pos := "law.go:116", after := #[{ on := 28, ground := Ground.data }, { on := 41, ground := Ground.data }, { on := 21, ground := Ground.guard }], guard := some (21, false) }) (v := ?_) (by rfl) ?_ (fun wS hSw => ?_) ?_
              rotate_left
              · kernel_rfl
              · (try dsimp only at hSw); go_simp; (try with_reducible rfl)
              try simp only [Act.put, List.setIfInBounds_toArray, List.set_cons_zero, List.set_cons_succ]
              refine Reg.G_on (o := { dst := some 154, op := Op.pick (Operand.tmp 132) (Operand.const (Value.bool true)) (Operand.tmp 153), type := 4, pos := "law.go:116", after := #[{ on := 21, ground := Ground.data }, { on := 42, ground := Ground.data }], guard := Option.none }) (v := ?_) (by rfl) ?_ (fun wS hSw => ?_) ?_
              rotate_left
              · kernel_rfl
              · (try dsimp only at hSw); go_simp; (try with_reducible rfl)
              try simp only [Act.put, List.setIfInBounds_toArray, List.set_cons_zero, List.set_cons_succ]
              refine Reg.G_done ?_
              rename World => wn
              have HS2 := hgo wn hc ((Mod.refl (At r) wr2).drew.trans mp (fun k hk => .inl hk))
              clear hgo hc mp hHeld d0 d1 d2 d3 HS hT hcb
              go_wp2
              go_roundw
              case rel => exact ⟨j + 1, by omega, by go_num, HS2⟩
              case measure => simp [intOf]; omega
          · have hj2 : ¬ ((j : Int) < (ps.length : Int)) := by omega
            have hjt : ps.take j = ps := List.take_of_length_le (by omega)
            have hcb := HS.cb
            have hbb := HS.bb
            have hbe := HS.be
            rw [hjt] at hcb
            have hd := done r _ (tx (enc ps)) 0 wr2 hcb
            rw [show cdone (tx (enc ps)) (enc ps).length 0 = 0 from if_neg (fun h => by have := h.2; rw [tx_size] at this; omega)] at hd
            clear hjt HS hle hok
            generalize enc ps = L at *
            go_wp2_with fail
            refine hd.mono ?_
            rintro e w4 ⟨rfl, b4⟩
            have hcb := hcb.below b4
            have hbb := hbb.below b4
            have hbe := bstep hbe b4
            clear hd b4
            go_wp2_with fail
            refine (at_ r _ (tx L) 0 w4 hcb).mono ?_
            rintro e w5 ⟨rfl, rfl⟩
            go_wp2_with fail
            refine (Buf.len_ F w.heap.size L w4 hbb).mono ?_
            rintro e w5 ⟨rfl, rfl⟩
            go_wp2_with fail
            refine (Al.awake w4).mono ?_
            rintro e w5 ⟨rfl, b5⟩
            go_wp2
            go_ret
            exact ⟨rfl, bstep hbe b5⟩
end Go.Proofs.Ytibcdpnmhkhebaa.Cur
namespace Go.Proofs.Ytibcdpnmhkhebaa.Open
open Go.RowKit Base Go.Proofs.YtibcdpnmhkhebaaW.PrintWords
theorem apart_opens : Opens Try.prog 71 Al.kp (GPair (fun _ => True) (GPair (fun n => (Lit.int .u64 n).wf = true) (GPair (fun n => (Lit.int .i64 n).wf = true) (fun s : ByteArray => s.size ≤ reachBytes)))) := by
  unfold Al.kp
  refine opens_struct Try.underlying71 (by kernel_rfl) ?_
  refine fields_cons (opens_bool Try.underlying4) (by kernel_rfl) ?_
  refine fields_cons (opens_int Try.underlying22) (by kernel_rfl) ?_
  refine fields_cons (opens_int Try.underlying3) (by kernel_rfl) ?_
  exact fields_last (opens_string Try.underlying9) (by kernel_rfl)
end Go.Proofs.Ytibcdpnmhkhebaa.Open
