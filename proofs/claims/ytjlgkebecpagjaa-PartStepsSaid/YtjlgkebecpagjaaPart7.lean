import Derived.Test.YtjlgkebecpagjaaPart6
import Derived.Outline
set_option linter.unusedVariables false
set_option linter.unusedSimpArgs false
namespace Go.Proofs.Ytjlgkebecpagjaa.Part
open Go.RowKit Base Sp Flat Go.Proofs.YtjlgkebecpagjaaW.PrintWords Go.Proofs.YtjlgkebecpagjaaW.PrintLast Go.Lib
/-- The document's partition in block r. -/
def RB (w : World) (r : Nat) (T : ByteArray) (q f l : Int) : Prop := w.heap[r]? = some (.cells #[.string T, .int .i64 q, .int .i64 f, .int .i64 l] 60 (0, 0))
theorem four {w : World} {r : Nat} {T : ByteArray} {q f l : Int} (h : RB w r T q f l) :
    (w.cell? ⟨r, 0, none⟩ = some (.string T) ∧ w.cell? ⟨r, 1, none⟩ = some (.int .i64 q) ∧ w.cell? ⟨r, 2, none⟩ = some (.int .i64 f) ∧ w.cell? ⟨r, 3, none⟩ = some (.int .i64 l)) ∧
    w.frozen? ⟨r, 0, none⟩ = false ∧ w.frozen? ⟨r, 1, none⟩ = false ∧ w.frozen? ⟨r, 2, none⟩ = false ∧ w.frozen? ⟨r, 3, none⟩ = false :=
  ⟨⟨blk_cell h 0, blk_cell h 1, blk_cell h 2, blk_cell h 3⟩, blk_frozen h 0, blk_frozen h 1, blk_frozen h 2, blk_frozen h 3⟩
theorem RB.far {w w' : World} {r : Nat} {T : ByteArray} {q f l : Int} {F : Nat → Prop} (h : RB w r T q f l) (hm : Mod F w w') (hF : ¬ F r) : RB w' r T q f l := (hm.block r (blk_lt h) hF).trans h
theorem PB.same {w w' : World} {b : Nat} {f l : Int} {s : Bool} {p : Value} {m : Int} (h : PB w b f l s p m) (hs : w'.heap[b]? = w.heap[b]?) : PB w' b f l s p m := hs.trans h
theorem RB.below {w w' : World} {r : Nat} {T : ByteArray} {q f l : Int} (h : RB w r T q f l) (hb : Below w.heap.size w w') : RB w' r T q f l := (hb.block r (blk_lt h)).trans h
/-- Four cells written. -/
def set4 (w : World) (r : Nat) (T : ByteArray) (q f l : Int) : World := (((w.setCell ⟨r, 0, none⟩ (.string T)).setCell ⟨r, 1, none⟩ (.int .i64 q)).setCell ⟨r, 2, none⟩ (.int .i64 f)).setCell ⟨r, 3, none⟩ (.int .i64 l)
theorem RB.set {w : World} {r : Nat} {T T' : ByteArray} {q f l q' f' l' : Int} (h : RB w r T q f l) : RB (set4 w r T' q' f' l') r T' q' f' l' := by
  unfold set4
  have h := blk_set (blk_set (blk_set (blk_set h 0 (.string T')) 1 (.int .i64 q')) 2 (.int .i64 f')) 3 (.int .i64 l')
  simpa [RB] using h
theorem set4_far (w : World) (r : Nat) (T : ByteArray) (q f l : Int) (k : Nat) (hk : k ≠ r) : (set4 w r T q f l).heap[k]? = w.heap[k]? := by
  unfold set4
  rw [Below.heap_setCell _ _ _ k hk, Below.heap_setCell _ _ _ k hk, Below.heap_setCell _ _ _ k hk, Below.heap_setCell _ _ _ k hk]
theorem set4_size (w : World) (r : Nat) (T : ByteArray) (q f l : Int) : (set4 w r T q f l).heap.size = w.heap.size := by unfold set4; simp
theorem set4_below {B : Nat} {w0 w : World} {r : Nat} (h : Below B w0 w) (hb : B ≤ r) (T : ByteArray) (q f l : Int) : Below B w0 (set4 w r T q f l) :=
  (((h.setCell hb _).setCell hb _).setCell hb _).setCell hb _
theorem set4_mod (w : World) (r : Nat) (T : ByteArray) (q f l : Int) : Mod (At r) w (set4 w r T q f l) := at_set (at_set (at_set (at_set (Mod.refl _ _) _ _) _ _) _ _) _ _
/-- The numbers of both. -/
structure Nu (k : Nat) (f l : Int) : Prop where
  f0 : 0 ≤ f
  fk : f ≤ k
  l0 : 0 ≤ l
  lb : l < 9223372036854775808
theorem mx_bl (s : Bool) (n : Int) (hn : n < 9223372036854775808) : 0 ≤ bl s n ∧ bl s n < 9223372036854775808 := by
  have h1 := mx_ge n
  have h2 := mx_lt n hn
  unfold bl
  split <;> omega
theorem Nu.window {k : Nat} {f l : Int} (h : Nu k f l) (s : Bool) (n : Int) (hn : n < 9223372036854775808) : Nu (k + 1) f (bl s n) := by
  obtain ⟨a, b, c, d⟩ := h
  have := mx_bl s n hn
  exact ⟨a, by omega, this.1, this.2⟩
theorem Nu.may {k : Nat} {f l : Int} (h : Nu k f l) : Nu (k + 1) f (ol l) := by
  obtain ⟨a, b, c, d⟩ := h
  unfold ol
  split <;> exact ⟨a, by omega, by omega, by omega⟩
theorem Nu.fault {k : Nat} {f l : Int} (h : Nu k f l) (s : Bool) : Nu (k + 1) (ef s f) (el s l) := by
  obtain ⟨a, b, c, d⟩ := h
  unfold ef el
  split <;> exact ⟨by omega, by omega, by omega, by omega⟩
theorem es_eq (q f : Int) : es (decide (q < f)) q f = decide (q < ef (decide (q < f)) f) := by
  unfold es ef
  by_cases h : q < f
  · simp [h]
  · simp [h]
/-- What the two partitions are in the world. -/
structure Bo (w0 w : World) (b g r : Nat) (F : Nat → Prop) (T : ByteArray) (L : List UInt8) (q f l : Int) : Prop where
  pb : PB w b f l (decide (q < f)) (.pointer (some ⟨g, 0, none⟩)) q
  rb : RB w r T q f l
  mr : Memory.MR w F g L
  be : Below w0.heap.size w0 w
theorem ptext (F : Nat → Prop) (b : Nat) (l : List UInt8) (w : World) (h : Memory.MR w F b l) (hm : l.length ≤ 4096) :
    Calls Try.prog 37 #[.pointer (some ⟨b, 0, none⟩)] w fun e w' => e = .returned (.string (tx l)) ∧ Below w.heap.size w w' := Memory.text F b l w h (by omega)
theorem psize (F : Nat → Prop) (b : Nat) (l : List UInt8) (T : ByteArray) (hT : l.length = T.size) (w : World) (h : Memory.MR w F b l) :
    Calls Try.prog 40 #[.pointer (some ⟨b, 0, none⟩)] w fun e w' => e = .returned (.int .i64 (T.size : Int)) ∧ w = w' := by
  rw [← hT]
  exact Memory.size_ F b l w h
/-- Where the blocks lie. -/
structure Wh (n b r : Nat) (F : Nat → Prop) : Prop where
  b0 : n ≤ b
  r0 : n ≤ r
  br : b ≠ r
  fb : ¬ F b
  fr : ¬ F r
  ff : ∀ k, F k → n ≤ k
theorem pload (F : Nat → Prop) (b : Nat) (l : List UInt8) (s : ByteArray) (w : World) (h : Memory.MR w F b l) (hm : l.length ≤ 4096) (hs : tx (Memory.ldb l 0 1) = s) :
    Calls Try.prog 39 #[.pointer (some ⟨b, 0, none⟩), .int .i64 0, .int .i64 1] w fun e w' => e = .returned (.tuple #[.string s, .int .i64 (Memory.ldc l 0 1)]) ∧ Below w.heap.size w w' := by
  subst hs
  exact Memory.load F b l 0 1 w h (by omega)
theorem mem_one (L : List UInt8) : (L.length = 0 → Memory.stb L 0 ⟨#[97]⟩ = L ∧ tx (Memory.ldb L 0 1) = ⟨#[]⟩) ∧ (L.length ≠ 0 → ∃ L2 : List UInt8, L2.length = L.length ∧ Memory.stb L 0 ⟨#[97]⟩ = L2 ∧ tx (Memory.ldb L2 0 1) = ⟨#[97]⟩) := by
  cases L with
  | nil => exact ⟨fun _ => ⟨by kernel_rfl, by kernel_rfl⟩, fun h => absurd rfl h⟩
  | cons x r =>
    refine ⟨fun h => by simp at h, fun _ => ⟨97 :: r, by simp, ?_, ?_⟩⟩
    · unfold Memory.stb
      rw [show Memory.lb (x :: r).length 0 (⟨#[97]⟩ : ByteArray).size = true from Memory.lb_true.2 ⟨by omega, by omega, by omega, by show ((1 : Nat) : Int) ≤ ((r.length + 1 : Nat) : Int) - 0; omega⟩]
      rfl
    · unfold Memory.ldb
      rw [show Memory.lb (97 :: r).length 0 1 = true from Memory.lb_true.2 ⟨by omega, by omega, by omega, by show (1 : Int) ≤ ((r.length + 1 : Nat) : Int) - 0; omega⟩]
      rfl
set_option maxRecDepth 20000 in
set_option maxHeartbeats 4000000 in
theorem steps (nm : ByteArray) (lv ct mm ff : Int) (A : Option Addr) (c : Nat) (l : List (Int × Int)) (w : World) (hC : Kd.C ks w A l.length l) (hff : ff < 9223372036854775808) (hn : ∀ x ∈ l, x.2 < 9223372036854775808) :
    Calls Try.prog 8 #[.agg #[.string nm, .int .i64 lv, .int .u64 ct, .int .i64 mm, .int .i64 ff], .slice A l.length c] w fun e w' => e = .returned (.bool true) ∧ Below w.heap.size w w' := by
  have HN := Lib.hid hn
  clear hn hff
  obtain ⟨W0, hW0⟩ : ∃ W0, W0 = w.alloc (.cells #[.string nm, .int .i64 lv, .int .u64 ct, .int .i64 mm, .int .i64 ff] 33) := ⟨_, rfl⟩
  have b0 : Below w.heap.size w W0 := by rw [hW0]; exact (Below.refl _ _).alloc (Nat.le_refl _) _
  by_cases hbig : 300 < l.length
  · go_enter Try.func8, Try.ntmps8
    go_wp2_with fail
    rw [← hW0]
    refine (awake _).mono ?_
    rintro e w' ⟨rfl, hb⟩
    go_wp2
    go_ret
    exact ⟨rfl, bstep b0 hb⟩
  · have s0 : w.heap.size < W0.heap.size := by rw [hW0]; simp
    have e0 : W0.cell? ⟨w.heap.size, 0, none⟩ = some (.string nm) := by rw [hW0]; simp
    have e1 : W0.cell? ⟨w.heap.size, 1, none⟩ = some (.int .i64 lv) := by rw [hW0]; simp
    have e2 : W0.cell? ⟨w.heap.size, 2, none⟩ = some (.int .u64 ct) := by rw [hW0]; simp
    have e3 : W0.cell? ⟨w.heap.size, 3, none⟩ = some (.int .i64 mm) := by rw [hW0]; simp
    have e4 : W0.cell? ⟨w.heap.size, 4, none⟩ = some (.int .i64 ff) := by rw [hW0]; simp
    go_enter Try.func8, Try.ntmps8
    go_wp2_with fail
    rw [← hW0]
    clear hW0
    refine (new nm lv ct mm ff W0).mono ?_
    rintro e w1 ⟨b, g, F, rfl, p1, m1, hFb, hF0, hb, b1⟩
    have e0 := cbel b1 e0 s0
    have e1 := cbel b1 e1 s0
    have e2 := cbel b1 e2 s0
    have e3 := cbel b1 e3 s0
    have e4 := cbel b1 e4 s0
    have hlF := m1.lt
    have hbl := blk_lt p1
    go_wp2_with fail
    refine (rnew nm lv ct mm ff w1).mono ?_
    rintro e w2 ⟨rfl, b2⟩
    have HQ := Lib.hid (mx_ge ff)
    have hz := Memory.zeros_len (Memory.msz mm)
    have hz2 := Lib.hid (Memory.msz_le mm)
    generalize mx ff = q at *
    generalize Memory.msz mm = m at *
    generalize Memory.zeros m = L at *
    have hcp := p1.below b2
    have p3 := hcp.below ((Below.refl _ _).alloc (Nat.le_refl _) (.cells #[.string (tx L), .int .i64 q, .int .i64 0, .int .i64 0] 60))
    have m3 := (m1.below b2).below ((Below.refl _ _).alloc (Nat.le_refl _) (.cells #[.string (tx L), .int .i64 q, .int .i64 0, .int .i64 0] 60))
    have bb : Below w.heap.size w (w2.alloc (.cells #[.string (tx L), .int .i64 q, .int .i64 0, .int .i64 0] 60)) := (bstep (bstep b0 b1) b2).alloc (by have := b1.size; have := b2.size; omega) _
    have r3 : RB (w2.alloc (.cells #[.string (tx L), .int .i64 q, .int .i64 0, .int .i64 0] 60)) w2.heap.size (tx L) q 0 0 := heap_alloc_new _ _
    have wh : Wh w.heap.size b w2.heap.size F := ⟨by omega, by have := b1.size; have := b2.size; omega, by have := b2.size; omega, hFb, fun h => by have := hlF _ h; have := b2.size; omega, fun k hk => by have := hF0 k hk; omega⟩
    clear e0 e1 e2 e3 e4 p1 m1 hFb hF0 hb b1 b2 hlF hbl hcp b0 s0
    go_wp2_with fail
    refine (mem b _ _ _ _ _ _ p3).mono ?_
    rintro e w' ⟨rfl, rfl⟩
    go_wp2
    have HX : Bo w (w2.alloc (.cells #[.string (tx L), .int .i64 q, .int .i64 0, .int .i64 0] 60)) b g w2.heap.size F (tx L) L q 0 0 := ⟨by rw [show decide (q < 0) = false from decide_eq_false (by have := HQ.out; omega)]; exact p3, r3, m3, bb⟩
    generalize hr : w2.heap.size = r at *
    have hz3 : Hid (L.length ≤ 4096) := Lib.hid (by have := hz2.out; omega)
    clear p3 r3 m3 bb hr hz
    go_loopw [8] (fun i wr => ∃ (k : Nat) (f l' : Int), k ≤ l.length ∧ i = .int .i64 (k : Int) ∧ Bo w wr b g r F (tx L) L q f l' ∧ Nu k f l') (fun i _ => (l.length - (intOf i).toNat))
    case atStart => exact ⟨0, 0, 0, by omega, rfl, HX, by omega, by omega, by omega, by omega⟩
    case round =>
      clear HX
      obtain ⟨k, f, l', hk, rfl, HB, HN1⟩ := hrel
      have k0 : (0 : Int) ≤ (k : Int) := by omega
      by_cases hlt : k < l.length
      · have k2 : (k : Int) < (l.length : Int) := by omega
        obtain ⟨ad, rfl, c0, c1⟩ := step_cells (Kd.C_below hC HB.be) k hlt
        obtain ⟨_, ea, ca, cb⟩ := step_cells hC k hlt
        obtain rfl := Option.some.inj ea
        have hal := World.block_lt_of_cell? w _ ca
        have HX := Lib.hid (HN.out _ (List.getElem_mem hlt))
        have HU := Lib.hid HN1
        clear ca cb HN1
        generalize l[k] = x at *
        obtain ⟨yk, n⟩ := x
        dsimp only at c0 c1
        have hbr := wh.br
        have hane : (ad.add (k * 2)).block ≠ b := by have := wh.b0; omega
        have harn : (ad.add (k * 2)).block ≠ r := by have := wh.r0; omega
        by_cases h1 : yk = 1
        · subst h1
          go_wp2_with fail
          refine (window b _ _ _ _ _ n wr HB.pb).mono ?_
          rintro e wa ⟨rfl, pa, ma⟩
          have ra := HB.rb.far ma (fun h => hbr (show r = b from h).symm)
          have mra := HB.mr.far ma (fun k hk h => wh.fb ((show k = b from h) ▸ hk))
          have ba := ma.below HB.be HB.be.size (fun k hk => by rw [show k = b from hk]; exact wh.b0)
          have d1 := ma.cell c1 (fun h => hane h)
          obtain ⟨⟨t0, t1, t2, t3⟩, g0, g1, g2, g3⟩ := four ra
          go_wp2_with fail
          refine Reg.wp_plan (S := fun w' => w'.cell? ⟨r, 0, none⟩ = some (.string (tx L)) ∧ w'.cell? ⟨r, 1, none⟩ = some (.int .i64 q) ∧ w'.cell? ⟨r, 2, none⟩ = some (.int .i64 f) ∧ w'.cell? ⟨r, 3, none⟩ = some (.int .i64 l') ∧ w'.cell? ⟨(ad.add (k * 2)).block, (ad.add (k * 2)).off + 1, none⟩ = some (.int .i64 n)) 7 (.fl 0 (.fl 1 (.fl 2 (.fl 3 (.fl 4 (.fl 5 (.one 6 (.one 7 .done)))))))) (by kernel_rfl) (by kernel_rfl) (by kernel_rfl) (by kernel_rfl) (fun _ _ _ d _ h => by cases d <;> exact h) ?_ (fun hHeld => ?_)
          · exact ⟨by simpa using t0, by simpa using t1, by simpa using t2, by simpa using t3, by simpa using d1⟩
          refine Reg.G_on (o := { dst := some 47, op := Op.load 60 (Operand.tmp 6), type := 60, pos := "law.go:39", after := #[], guard := Option.none }) (v := ?_) (by rfl) ?_ (fun wS hSw => ?_) ?_
          rotate_left
          · kernel_rfl
          · (try dsimp only at hSw); go_simp; (try with_reducible rfl)
          try simp only [Act.put, List.setIfInBounds_toArray, List.set_cons_zero, List.set_cons_succ]
          refine Reg.G_on (o := { dst := some 48, op := Op.move (Operand.tmp 1), type := 34, pos := "law.go:39", after := #[], guard := Option.none }) (v := ?_) (by rfl) ?_ (fun wS hSw => ?_) ?_
          rotate_left
          · kernel_rfl
          · (try dsimp only at hSw); go_simp; (try with_reducible rfl)
          try simp only [Act.put, List.setIfInBounds_toArray, List.set_cons_zero, List.set_cons_succ]
          refine Reg.G_on (o := { dst := some 49, op := Op.move (Operand.tmp 8), type := 3, pos := "law.go:39", after := #[], guard := Option.none }) (v := ?_) (by rfl) ?_ (fun wS hSw => ?_) ?_
          rotate_left
          · kernel_rfl
          · (try dsimp only at hSw); go_simp; (try with_reducible rfl)
          try simp only [Act.put, List.setIfInBounds_toArray, List.set_cons_zero, List.set_cons_succ]
          refine Reg.G_on (o := { dst := some 50, op := Op.indexAddr 34 (Operand.tmp 48) (Operand.tmp 49), type := 0, pos := "law.go:39", after := #[{ on := 1, ground := Ground.data }, { on := 2, ground := Ground.data }], guard := Option.none }) (v := ?_) (by rfl) ?_ (fun wS hSw => ?_) ?_
          rotate_left
          · kernel_rfl
          · (try dsimp only at hSw); go_simp; (try with_reducible rfl)
          try simp only [Act.put, List.setIfInBounds_toArray, List.set_cons_zero, List.set_cons_succ]
          refine Reg.G_on (o := { dst := some 51, op := Op.fieldAddr 38 (Operand.tmp 50) 1, type := 0, pos := "law.go:39", after := #[{ on := 3, ground := Ground.data }], guard := Option.none }) (v := ?_) (by rfl) ?_ (fun wS hSw => ?_) ?_
          rotate_left
          · kernel_rfl
          · (try dsimp only at hSw); go_simp; (try with_reducible rfl)
          try simp only [Act.put, List.setIfInBounds_toArray, List.set_cons_zero, List.set_cons_succ]
          refine Reg.G_on (o := { dst := some 52, op := Op.load 3 (Operand.tmp 51), type := 3, pos := "law.go:39", after := #[{ on := 4, ground := Ground.data }], guard := Option.none }) (v := ?_) (by rfl) ?_ (fun wS hSw => ?_) ?_
          rotate_left
          · kernel_rfl
          · (try dsimp only at hSw); go_simp; (try with_reducible rfl)
          try simp only [Act.put, List.setIfInBounds_toArray, List.set_cons_zero, List.set_cons_succ]
          have hrl := blk_lt ra
          have hal2 : (ad.add (k * 2)).block < wa.heap.size := World.block_lt_of_cell? wa ⟨(ad.add (k * 2)).block, (ad.add (k * 2)).off + 1, none⟩ d1
          refine Reg.G_step (o := { dst := some 53, op := Op.call { callee := Callee.value (Operand.func 33), args := #[Operand.tmp 47, Operand.tmp 52], argTypes := #[60, 3] }, type := 60, pos := "law.go:39", after := #[{ on := 0, ground := Ground.data }, { on := 5, ground := Ground.data }], guard := Option.none }) (by rfl) ?_ (fun K hK => ?_)
          · kernel_rfl
          go_simp
          refine (rwindow (tx L) q f l' n wa.drew).mono ?_
          rintro e w' ⟨rfl, hb⟩
          refine hK.out _ _ ?_ (fun hHeld => ?_)
          · exact ⟨cbel hb hHeld.1 hrl, cbel hb hHeld.2.1 hrl, cbel hb hHeld.2.2.1 hrl, cbel hb hHeld.2.2.2.1 hrl, cbel hb hHeld.2.2.2.2 hal2⟩
          clear hK K
          try simp only [Act.put, List.setIfInBounds_toArray, List.set_cons_zero, List.set_cons_succ]
          have rb2 : RB w' r (tx L) q f l' := (hb.block r hrl).trans ra
          have pb2 := pa.same (hb.block b (blk_lt pa))
          have mr2 := mra.below (w' := w') ((Below.refl wa.heap.size wa).drew.trans hb)
          have bb2 := bstep ba (((Below.refl wa.heap.size wa).drew.trans hb))
          obtain ⟨-, u0, u1, u2, u3⟩ := four rb2
          refine Reg.G_last (o := { dst := Option.none, op := Op.store 60 (Operand.tmp 6) (Operand.tmp 53), type := 0, pos := "law.go:39", after := #[{ on := 6, ground := Ground.data }, { on := 6, ground := Ground.chain }, { on := 0, ground := Ground.phase }, { on := 1, ground := Ground.phase }, { on := 2, ground := Ground.phase }, { on := 3, ground := Ground.phase }, { on := 4, ground := Ground.phase }, { on := 5, ground := Ground.phase }, { on := 6, ground := Ground.phase }], guard := Option.none }) (by rfl) (by rfl) ?_ (fun K hK => ?_)
          · kernel_rfl
          go_simp
          refine hK.out _ _ ?_
          clear hK K
          try simp only [Act.put, List.setIfInBounds_toArray, List.set_cons_zero, List.set_cons_succ]
          obtain ⟨l2, hl2⟩ : ∃ l2, bl (decide (q < f)) n = l2 := ⟨_, rfl⟩
          have HU2 := HU.out.window (decide (q < f)) n HX.out
          rw [hl2] at pb2 HU2
          rw [hl2]
          clear hl2
          obtain ⟨W, hW⟩ : ∃ W, W = set4 w' r (tx L) q f l2 := ⟨_, rfl⟩
          have HB : Bo w W b g r F (tx L) L q f l2 := by
            rw [hW]
            exact ⟨pb2.far (set4_mod _ _ _ _ _ _) (fun h => hbr h), rb2.set, mr2.far (set4_mod _ _ _ _ _ _) (fun k hk h => wh.fr ((show k = r from h) ▸ hk)), set4_below bb2 wh.r0 _ _ _ _⟩
          unfold set4 at hW
          rw [← hW]
          clear hW u0 u1 u2 u3 pb2 rb2 mr2 bb2
          have hrl := blk_lt HB.rb
          obtain ⟨⟨t0, t1, t2, t3⟩, -⟩ := four HB.rb
          go_wp2_with fail
          refine Reg.wp_plan (S := fun w' => PB w' b f l2 (decide (q < f)) (.pointer (some ⟨g, 0, none⟩)) q ∧ Memory.MR w' F g L ∧ w'.cell? ⟨r, 0, none⟩ = some (.string (tx L)) ∧ w'.cell? ⟨r, 1, none⟩ = some (.int .i64 q) ∧ w'.cell? ⟨r, 2, none⟩ = some (.int .i64 f) ∧ w'.cell? ⟨r, 3, none⟩ = some (.int .i64 l2)) 18 (.fl 0 (.fl 2 (.fl 3 (.fl 4 (.fl 5 (.fl 6 (.one 1 (.one 7 (.fl 8 (.fl 9 (.fl 10 (.fl 11 (.fl 14 (.fl 15 (.one 12 (.one 13 (.fl 16 (.fl 17 .done)))))))))))))))))) (by kernel_rfl) (by kernel_rfl) (by kernel_rfl) (by kernel_rfl) (fun _ _ _ d _ h => by cases d <;> exact h) ?_ (fun hHeld => ?_)
          · exact ⟨HB.pb, HB.mr, by simpa using t0, by simpa using t1, by simpa using t2, by simpa using t3⟩
          refine Reg.G_on (o := { dst := some 66, op := Op.move (Operand.tmp 5), type := 35, pos := "law.go:50", after := #[], guard := Option.none }) (v := ?_) (by rfl) ?_ (fun wS hSw => ?_) ?_
          rotate_left
          · kernel_rfl
          · (try dsimp only at hSw); go_simp; (try with_reducible rfl)
          try simp only [Act.put, List.setIfInBounds_toArray, List.set_cons_zero, List.set_cons_succ]
          refine Reg.G_on (o := { dst := some 68, op := Op.fieldAddr 60 (Operand.tmp 6) 2, type := 0, pos := "law.go:50", after := #[], guard := Option.none }) (v := ?_) (by rfl) ?_ (fun wS hSw => ?_) ?_
          rotate_left
          · kernel_rfl
          · (try dsimp only at hSw); go_simp; (try with_reducible rfl)
          try simp only [Act.put, List.setIfInBounds_toArray, List.set_cons_zero, List.set_cons_succ]
          refine Reg.G_on (o := { dst := some 69, op := Op.load 3 (Operand.tmp 68), type := 3, pos := "law.go:50", after := #[{ on := 2, ground := Ground.data }], guard := Option.none }) (v := ?_) (by rfl) ?_ (fun wS hSw => ?_) ?_
          rotate_left
          · kernel_rfl
          · (try dsimp only at hSw); go_simp; (try with_reducible rfl)
          try simp only [Act.put, List.setIfInBounds_toArray, List.set_cons_zero, List.set_cons_succ]
          refine Reg.G_on (o := { dst := some 70, op := Op.fieldAddr 60 (Operand.tmp 6) 3, type := 0, pos := "law.go:50", after := #[], guard := Option.none }) (v := ?_) (by rfl) ?_ (fun wS hSw => ?_) ?_
          rotate_left
          · kernel_rfl
          · (try dsimp only at hSw); go_simp; (try with_reducible rfl)
          try simp only [Act.put, List.setIfInBounds_toArray, List.set_cons_zero, List.set_cons_succ]
          refine Reg.G_on (o := { dst := some 71, op := Op.load 3 (Operand.tmp 70), type := 3, pos := "law.go:50", after := #[{ on := 4, ground := Ground.data }], guard := Option.none }) (v := ?_) (by rfl) ?_ (fun wS hSw => ?_) ?_
          rotate_left
          · kernel_rfl
          · (try dsimp only at hSw); go_simp; (try with_reducible rfl)
          try simp only [Act.put, List.setIfInBounds_toArray, List.set_cons_zero, List.set_cons_succ]
          refine Reg.G_on (o := { dst := some 72, op := Op.load 60 (Operand.tmp 6), type := 60, pos := "law.go:50", after := #[], guard := Option.none }) (v := ?_) (by rfl) ?_ (fun wS hSw => ?_) ?_
          rotate_left
          · kernel_rfl
          · (try dsimp only at hSw); go_simp; (try with_reducible rfl)
          try simp only [Act.put, List.setIfInBounds_toArray, List.set_cons_zero, List.set_cons_succ]
          refine Reg.G_step (o := { dst := some 67, op := Op.call { callee := Callee.value (Operand.func 26), args := #[Operand.tmp 66], argTypes := #[35] }, type := 41, pos := "law.go:50", after := #[{ on := 0, ground := Ground.data }], guard := Option.none }) (by rfl) ?_ (fun K hK => ?_)
          · kernel_rfl
          go_simp
          refine (state b _ _ _ _ _ _ hHeld.1).mono ?_
          rintro e w' ⟨rfl, hb⟩
          refine hK.out _ _ ?_ (fun hHeld => ?_)
          · exact ⟨hHeld.1.below hb, hHeld.2.1.below hb, cbel hb hHeld.2.2.1 hrl, cbel hb hHeld.2.2.2.1 hrl, cbel hb hHeld.2.2.2.2.1 hrl, cbel hb hHeld.2.2.2.2.2 hrl⟩
          clear hK K
          try simp only [Act.put, List.setIfInBounds_toArray, List.set_cons_zero, List.set_cons_succ]
          skip
          have hb1 := hb
          clear hb
          refine Reg.G_step (o := { dst := some 73, op := Op.call { callee := Callee.value (Operand.func 36), args := #[Operand.tmp 72], argTypes := #[60] }, type := 4, pos := "law.go:50", after := #[{ on := 6, ground := Ground.data }, { on := 1, ground := Ground.chain }], guard := Option.none }) (by rfl) ?_ (fun K hK => ?_)
          · kernel_rfl
          go_simp
          refine (rstopped (tx L) q f l2 _).mono ?_
          rintro e w' ⟨rfl, hb⟩
          refine hK.out _ _ ?_ (fun hHeld => ?_)
          · exact ⟨hHeld.1.below hb, hHeld.2.1.below hb, cbel hb hHeld.2.2.1 (Nat.lt_of_lt_of_le hrl hb1.size), cbel hb hHeld.2.2.2.1 (Nat.lt_of_lt_of_le hrl hb1.size), cbel hb hHeld.2.2.2.2.1 (Nat.lt_of_lt_of_le hrl hb1.size), cbel hb hHeld.2.2.2.2.2 (Nat.lt_of_lt_of_le hrl hb1.size)⟩
          clear hK K
          try simp only [Act.put, List.setIfInBounds_toArray, List.set_cons_zero, List.set_cons_succ]
          refine Reg.G_on (o := { dst := some 74, op := Op.build 41 #[(0, Operand.tmp 69), (1, Operand.tmp 71), (2, Operand.tmp 73)], type := 41, pos := "law.go:50", after := #[{ on := 3, ground := Ground.data }, { on := 5, ground := Ground.data }, { on := 7, ground := Ground.data }], guard := Option.none }) (v := ?_) (by rfl) ?_ (fun wS hSw => ?_) ?_
          rotate_left
          · kernel_rfl
          · (try dsimp only at hSw); go_simp; (try with_reducible rfl)
          try simp only [Act.put, List.setIfInBounds_toArray, List.set_cons_zero, List.set_cons_succ]
          refine Reg.G_on (o := { dst := some 75, op := Op.binOp BinOp.neq 41 (Operand.tmp 67) (Operand.tmp 74) 41, type := 4, pos := "law.go:50", after := #[{ on := 1, ground := Ground.data }, { on := 8, ground := Ground.data }], guard := Option.none }) (v := ?_) (by rfl) ?_ (fun wS hSw => ?_) ?_
          rotate_left
          · kernel_rfl
          · (try dsimp only at hSw); go_simp; (try with_reducible rfl)
          try simp only [Act.put, List.setIfInBounds_toArray, List.set_cons_zero, List.set_cons_succ]
          refine Reg.G_on (o := { dst := some 76, op := Op.move (Operand.tmp 75), type := 4, pos := "law.go:50", after := #[{ on := 9, ground := Ground.data }, { on := 7, ground := Ground.chain }], guard := Option.none }) (v := ?_) (by rfl) ?_ (fun wS hSw => ?_) ?_
          rotate_left
          · kernel_rfl
          · (try dsimp only at hSw); go_simp; (try with_reducible rfl)
          try simp only [Act.put, List.setIfInBounds_toArray, List.set_cons_zero, List.set_cons_succ]
          refine Reg.G_on (o := { dst := some 77, op := Op.move (Operand.tmp 5), type := 35, pos := "law.go:50", after := #[{ on := 10, ground := Ground.guard }], guard := some (10, false) }) (v := ?_) (by rfl) ?_ (fun wS hSw => ?_) ?_
          rotate_left
          · kernel_rfl
          · (try dsimp only at hSw); go_simp; (try with_reducible rfl)
          try simp only [Act.put, List.setIfInBounds_toArray, List.set_cons_zero, List.set_cons_succ]
          refine Reg.G_on (o := { dst := some 80, op := Op.fieldAddr 60 (Operand.tmp 6) 0, type := 0, pos := "law.go:50", after := #[{ on := 10, ground := Ground.guard }], guard := some (10, false) }) (v := ?_) (by rfl) ?_ (fun wS hSw => ?_) ?_
          rotate_left
          · kernel_rfl
          · (try dsimp only at hSw); go_simp; (try with_reducible rfl)
          try simp only [Act.put, List.setIfInBounds_toArray, List.set_cons_zero, List.set_cons_succ]
          refine Reg.G_on (o := { dst := some 81, op := Op.load 9 (Operand.tmp 80), type := 9, pos := "law.go:50", after := #[{ on := 14, ground := Ground.data }, { on := 10, ground := Ground.guard }], guard := some (10, false) }) (v := ?_) (by rfl) ?_ (fun wS hSw => ?_) ?_
          rotate_left
          · kernel_rfl
          · (try dsimp only at hSw); go_simp; (try with_reducible rfl)
          try simp only [Act.put, List.setIfInBounds_toArray, List.set_cons_zero, List.set_cons_succ]
          have hb2 := hb
          clear hb
          refine Reg.G_step (o := { dst := some 78, op := Op.call { callee := Callee.value (Operand.func 31), args := #[Operand.tmp 77], argTypes := #[35] }, type := 54, pos := "law.go:50", after := #[{ on := 11, ground := Ground.data }, { on := 10, ground := Ground.chain }, { on := 10, ground := Ground.guard }], guard := some (10, false) }) (by rfl) ?_ (fun K hK => ?_)
          · kernel_rfl
          go_simp
          refine (mem b _ _ _ _ _ _ hHeld.1).mono ?_
          rintro e w' ⟨rfl, rfl⟩
          refine hK.out _ _ ?_ (fun hHeld => ?_)
          · exact hHeld
          clear hK K
          try simp only [Act.put, List.setIfInBounds_toArray, List.set_cons_zero, List.set_cons_succ]
          skip
          refine Reg.G_step (o := { dst := some 79, op := Op.call { callee := Callee.value (Operand.func 37), args := #[Operand.tmp 78], argTypes := #[54] }, type := 9, pos := "law.go:50", after := #[{ on := 12, ground := Ground.data }, { on := 12, ground := Ground.chain }, { on := 10, ground := Ground.guard }], guard := some (10, false) }) (by rfl) ?_ (fun K hK => ?_)
          · kernel_rfl
          go_simp
          refine (ptext F g L _ hHeld.2.1 hz3.out).mono ?_
          rintro e w' ⟨rfl, hb⟩
          refine hK.out _ _ ?_ (fun hHeld => ?_)
          · exact ⟨hHeld.1.below hb, hHeld.2.1.below hb, cbel hb hHeld.2.2.1 (Nat.lt_of_lt_of_le (Nat.lt_of_lt_of_le hrl hb1.size) hb2.size), cbel hb hHeld.2.2.2.1 (Nat.lt_of_lt_of_le (Nat.lt_of_lt_of_le hrl hb1.size) hb2.size), cbel hb hHeld.2.2.2.2.1 (Nat.lt_of_lt_of_le (Nat.lt_of_lt_of_le hrl hb1.size) hb2.size), cbel hb hHeld.2.2.2.2.2 (Nat.lt_of_lt_of_le (Nat.lt_of_lt_of_le hrl hb1.size) hb2.size)⟩
          clear hK K
          try simp only [Act.put, List.setIfInBounds_toArray, List.set_cons_zero, List.set_cons_succ]
          refine Reg.G_on (o := { dst := some 82, op := Op.binOp BinOp.neq 9 (Operand.tmp 79) (Operand.tmp 81) 9, type := 4, pos := "law.go:50", after := #[{ on := 13, ground := Ground.data }, { on := 15, ground := Ground.data }, { on := 10, ground := Ground.guard }], guard := some (10, false) }) (v := ?_) (by rfl) ?_ (fun wS hSw => ?_) ?_
          rotate_left
          · kernel_rfl
          · (try dsimp only at hSw); go_simp; (try with_reducible rfl)
          try simp only [Act.put, List.setIfInBounds_toArray, List.set_cons_zero, List.set_cons_succ]
          refine Reg.G_on (o := { dst := some 83, op := Op.pick (Operand.tmp 76) (Operand.const (Value.bool true)) (Operand.tmp 82), type := 4, pos := "law.go:50", after := #[{ on := 10, ground := Ground.data }, { on := 16, ground := Ground.data }], guard := Option.none }) (v := ?_) (by rfl) ?_ (fun wS hSw => ?_) ?_
          rotate_left
          · kernel_rfl
          · (try dsimp only at hSw); go_simp; (try with_reducible rfl)
          try simp only [Act.put, List.setIfInBounds_toArray, List.set_cons_zero, List.set_cons_succ]
          refine Reg.G_done ?_
          go_wp2
          have h20 := bstep (bstep hb1 hb2) hb
          have HB3 : Bo w w' b g r F (tx L) L q f l2 := ⟨HB.pb.below ((Below.refl W.heap.size W).drew.trans h20), HB.rb.below ((Below.refl W.heap.size W).drew.trans h20), HB.mr.below ((Below.refl W.heap.size W).drew.trans h20), bstep HB.be ((Below.refl W.heap.size W).drew.trans h20)⟩
          go_roundw
          case rel => exact ⟨k + 1, f, l2, by omega, by go_num, HB3, HU2⟩
          case measure => simp [intOf]; omega
        · have h1b : (yk == 1) = false := by simpa using h1
          obtain ⟨⟨t0, t1, t2, t3⟩, g0, g1, g2, g3⟩ := four HB.rb
          have hrl := blk_lt HB.rb
          by_cases h2 : yk = 2
          · subst h2
            have hl0 := HU.out.l0
            have hl1 := HU.out.lb
            have hR := fun W => rmay (tx L) q f l' W hl0 hl1
            have hM := fun W h => may b f l' (decide (q < f)) (.pointer (some ⟨g, 0, none⟩)) q W h hl0 hl1
            obtain ⟨l2, hl2⟩ : ∃ l2, ol l' = l2 := ⟨_, rfl⟩
            have HU2 := HU.out.may
            rw [hl2] at HU2 hR hM
            clear hl2 hl1
            go_wp2_with fail
            refine (hR wr).mono ?_
            rintro e w3 ⟨rfl, b3⟩
            have r4 := (HB.rb.below b3).below ((Below.refl _ _).alloc (Nat.le_refl _) (.cells #[.string (tx L), .int .i64 q, .int .i64 f, .int .i64 l2] 60))
            have b4 := bstep b3 ((Below.refl _ _).alloc (Nat.le_refl _) (.cells #[.string (tx L), .int .i64 q, .int .i64 f, .int .i64 l2] 60))
            obtain ⟨⟨s0, s1, s2, s3⟩, u0, u1, u2, u3⟩ := four r4
            go_wp2_with fail
            obtain ⟨W1, hW⟩ : ∃ W1, W1 = set4 (w3.alloc (.cells #[.string (tx L), .int .i64 q, .int .i64 f, .int .i64 l2] 60)) r (tx L) q f l2 := ⟨_, rfl⟩
            have pb1 : PB W1 b f l' (decide (q < f)) (.pointer (some ⟨g, 0, none⟩)) q := by rw [hW]; exact (HB.pb.below b4).far (set4_mod _ _ _ _ _ _) (fun h => hbr h)
            have rb1 : RB W1 r (tx L) q f l2 := by rw [hW]; exact r4.set
            have mr1 : Memory.MR W1 F g L := by rw [hW]; exact (HB.mr.below b4).far (set4_mod _ _ _ _ _ _) (fun k hk h => wh.fr ((show k = r from h) ▸ hk))
            have be1 : Below w.heap.size w W1 := by rw [hW]; exact set4_below (bstep HB.be b4) wh.r0 _ _ _ _
            unfold set4 at hW
            rw [← hW]
            clear hW t0 t1 t2 t3 g0 g1 g2 g3 s0 s1 s2 s3 u0 u1 u2 u3 r4 b4 b3 HB
            refine (hM W1 pb1).mono ?_
            rintro e W ⟨rfl, pa, ma⟩
            have HB : Bo w W b g r F (tx L) L q f l2 := ⟨pa, rb1.far ma (fun h => hbr (show r = b from h).symm), mr1.far ma (fun k hk h => wh.fb ((show k = b from h) ▸ hk)), ma.below be1 be1.size (fun k hk => by rw [show k = b from hk]; exact wh.b0)⟩
            clear pa ma pb1 rb1 mr1 be1 hM hR
            have hrl := blk_lt HB.rb
            obtain ⟨⟨t0, t1, t2, t3⟩, -⟩ := four HB.rb
            go_wp2_with fail
            refine Reg.wp_plan (S := fun w' => PB w' b f l2 (decide (q < f)) (.pointer (some ⟨g, 0, none⟩)) q ∧ Memory.MR w' F g L ∧ w'.cell? ⟨r, 0, none⟩ = some (.string (tx L)) ∧ w'.cell? ⟨r, 1, none⟩ = some (.int .i64 q) ∧ w'.cell? ⟨r, 2, none⟩ = some (.int .i64 f) ∧ w'.cell? ⟨r, 3, none⟩ = some (.int .i64 l2)) 18 (.fl 0 (.fl 2 (.fl 3 (.fl 4 (.fl 5 (.fl 6 (.one 1 (.one 7 (.fl 8 (.fl 9 (.fl 10 (.fl 11 (.fl 14 (.fl 15 (.one 12 (.one 13 (.fl 16 (.fl 17 .done)))))))))))))))))) (by kernel_rfl) (by kernel_rfl) (by kernel_rfl) (by kernel_rfl) (fun _ _ _ d _ h => by cases d <;> exact h) ?_ (fun hHeld => ?_)
            · exact ⟨HB.pb, HB.mr, by simpa using t0, by simpa using t1, by simpa using t2, by simpa using t3⟩
            refine Reg.G_on (o := { dst := some 66, op := Op.move (Operand.tmp 5), type := 35, pos := "law.go:50", after := #[], guard := Option.none }) (v := ?_) (by rfl) ?_ (fun wS hSw => ?_) ?_
            rotate_left
            · kernel_rfl
            · (try dsimp only at hSw); go_simp; (try with_reducible rfl)
            try simp only [Act.put, List.setIfInBounds_toArray, List.set_cons_zero, List.set_cons_succ]
            refine Reg.G_on (o := { dst := some 68, op := Op.fieldAddr 60 (Operand.tmp 6) 2, type := 0, pos := "law.go:50", after := #[], guard := Option.none }) (v := ?_) (by rfl) ?_ (fun wS hSw => ?_) ?_
            rotate_left
            · kernel_rfl
            · (try dsimp only at hSw); go_simp; (try with_reducible rfl)
            try simp only [Act.put, List.setIfInBounds_toArray, List.set_cons_zero, List.set_cons_succ]
            refine Reg.G_on (o := { dst := some 69, op := Op.load 3 (Operand.tmp 68), type := 3, pos := "law.go:50", after := #[{ on := 2, ground := Ground.data }], guard := Option.none }) (v := ?_) (by rfl) ?_ (fun wS hSw => ?_) ?_
            rotate_left
            · kernel_rfl
            · (try dsimp only at hSw); go_simp; (try with_reducible rfl)
            try simp only [Act.put, List.setIfInBounds_toArray, List.set_cons_zero, List.set_cons_succ]
            refine Reg.G_on (o := { dst := some 70, op := Op.fieldAddr 60 (Operand.tmp 6) 3, type := 0, pos := "law.go:50", after := #[], guard := Option.none }) (v := ?_) (by rfl) ?_ (fun wS hSw => ?_) ?_
            rotate_left
            · kernel_rfl
            · (try dsimp only at hSw); go_simp; (try with_reducible rfl)
            try simp only [Act.put, List.setIfInBounds_toArray, List.set_cons_zero, List.set_cons_succ]
            refine Reg.G_on (o := { dst := some 71, op := Op.load 3 (Operand.tmp 70), type := 3, pos := "law.go:50", after := #[{ on := 4, ground := Ground.data }], guard := Option.none }) (v := ?_) (by rfl) ?_ (fun wS hSw => ?_) ?_
            rotate_left
            · kernel_rfl
            · (try dsimp only at hSw); go_simp; (try with_reducible rfl)
            try simp only [Act.put, List.setIfInBounds_toArray, List.set_cons_zero, List.set_cons_succ]
            refine Reg.G_on (o := { dst := some 72, op := Op.load 60 (Operand.tmp 6), type := 60, pos := "law.go:50", after := #[], guard := Option.none }) (v := ?_) (by rfl) ?_ (fun wS hSw => ?_) ?_
            rotate_left
            · kernel_rfl
            · (try dsimp only at hSw); go_simp; (try with_reducible rfl)
            try simp only [Act.put, List.setIfInBounds_toArray, List.set_cons_zero, List.set_cons_succ]
            refine Reg.G_step (o := { dst := some 67, op := Op.call { callee := Callee.value (Operand.func 26), args := #[Operand.tmp 66], argTypes := #[35] }, type := 41, pos := "law.go:50", after := #[{ on := 0, ground := Ground.data }], guard := Option.none }) (by rfl) ?_ (fun K hK => ?_)
            · kernel_rfl
            go_simp
            refine (state b _ _ _ _ _ _ hHeld.1).mono ?_
            rintro e w' ⟨rfl, hb⟩
            refine hK.out _ _ ?_ (fun hHeld => ?_)
            · exact ⟨hHeld.1.below hb, hHeld.2.1.below hb, cbel hb hHeld.2.2.1 hrl, cbel hb hHeld.2.2.2.1 hrl, cbel hb hHeld.2.2.2.2.1 hrl, cbel hb hHeld.2.2.2.2.2 hrl⟩
            clear hK K
            try simp only [Act.put, List.setIfInBounds_toArray, List.set_cons_zero, List.set_cons_succ]
            skip
            have hb1 := hb
            clear hb
            refine Reg.G_step (o := { dst := some 73, op := Op.call { callee := Callee.value (Operand.func 36), args := #[Operand.tmp 72], argTypes := #[60] }, type := 4, pos := "law.go:50", after := #[{ on := 6, ground := Ground.data }, { on := 1, ground := Ground.chain }], guard := Option.none }) (by rfl) ?_ (fun K hK => ?_)
            · kernel_rfl
            go_simp
            refine (rstopped (tx L) q f l2 _).mono ?_
            rintro e w' ⟨rfl, hb⟩
            refine hK.out _ _ ?_ (fun hHeld => ?_)
            · exact ⟨hHeld.1.below hb, hHeld.2.1.below hb, cbel hb hHeld.2.2.1 (Nat.lt_of_lt_of_le hrl hb1.size), cbel hb hHeld.2.2.2.1 (Nat.lt_of_lt_of_le hrl hb1.size), cbel hb hHeld.2.2.2.2.1 (Nat.lt_of_lt_of_le hrl hb1.size), cbel hb hHeld.2.2.2.2.2 (Nat.lt_of_lt_of_le hrl hb1.size)⟩
            clear hK K
            try simp only [Act.put, List.setIfInBounds_toArray, List.set_cons_zero, List.set_cons_succ]
            refine Reg.G_on (o := { dst := some 74, op := Op.build 41 #[(0, Operand.tmp 69), (1, Operand.tmp 71), (2, Operand.tmp 73)], type := 41, pos := "law.go:50", after := #[{ on := 3, ground := Ground.data }, { on := 5, ground := Ground.data }, { on := 7, ground := Ground.data }], guard := Option.none }) (v := ?_) (by rfl) ?_ (fun wS hSw => ?_) ?_
            rotate_left
            · kernel_rfl
            · (try dsimp only at hSw); go_simp; (try with_reducible rfl)
            try simp only [Act.put, List.setIfInBounds_toArray, List.set_cons_zero, List.set_cons_succ]
            refine Reg.G_on (o := { dst := some 75, op := Op.binOp BinOp.neq 41 (Operand.tmp 67) (Operand.tmp 74) 41, type := 4, pos := "law.go:50", after := #[{ on := 1, ground := Ground.data }, { on := 8, ground := Ground.data }], guard := Option.none }) (v := ?_) (by rfl) ?_ (fun wS hSw => ?_) ?_
            rotate_left
            · kernel_rfl
            · (try dsimp only at hSw); go_simp; (try with_reducible rfl)
            try simp only [Act.put, List.setIfInBounds_toArray, List.set_cons_zero, List.set_cons_succ]
            refine Reg.G_on (o := { dst := some 76, op := Op.move (Operand.tmp 75), type := 4, pos := "law.go:50", after := #[{ on := 9, ground := Ground.data }, { on := 7, ground := Ground.chain }], guard := Option.none }) (v := ?_) (by rfl) ?_ (fun wS hSw => ?_) ?_
            rotate_left
            · kernel_rfl
            · (try dsimp only at hSw); go_simp; (try with_reducible rfl)
            try simp only [Act.put, List.setIfInBounds_toArray, List.set_cons_zero, List.set_cons_succ]
            refine Reg.G_on (o := { dst := some 77, op := Op.move (Operand.tmp 5), type := 35, pos := "law.go:50", after := #[{ on := 10, ground := Ground.guard }], guard := some (10, false) }) (v := ?_) (by rfl) ?_ (fun wS hSw => ?_) ?_
            rotate_left
            · kernel_rfl
            · (try dsimp only at hSw); go_simp; (try with_reducible rfl)
            try simp only [Act.put, List.setIfInBounds_toArray, List.set_cons_zero, List.set_cons_succ]
            refine Reg.G_on (o := { dst := some 80, op := Op.fieldAddr 60 (Operand.tmp 6) 0, type := 0, pos := "law.go:50", after := #[{ on := 10, ground := Ground.guard }], guard := some (10, false) }) (v := ?_) (by rfl) ?_ (fun wS hSw => ?_) ?_
            rotate_left
            · kernel_rfl
            · (try dsimp only at hSw); go_simp; (try with_reducible rfl)
            try simp only [Act.put, List.setIfInBounds_toArray, List.set_cons_zero, List.set_cons_succ]
            refine Reg.G_on (o := { dst := some 81, op := Op.load 9 (Operand.tmp 80), type := 9, pos := "law.go:50", after := #[{ on := 14, ground := Ground.data }, { on := 10, ground := Ground.guard }], guard := some (10, false) }) (v := ?_) (by rfl) ?_ (fun wS hSw => ?_) ?_
            rotate_left
            · kernel_rfl
            · (try dsimp only at hSw); go_simp; (try with_reducible rfl)
            try simp only [Act.put, List.setIfInBounds_toArray, List.set_cons_zero, List.set_cons_succ]
            have hb2 := hb
            clear hb
            refine Reg.G_step (o := { dst := some 78, op := Op.call { callee := Callee.value (Operand.func 31), args := #[Operand.tmp 77], argTypes := #[35] }, type := 54, pos := "law.go:50", after := #[{ on := 11, ground := Ground.data }, { on := 10, ground := Ground.chain }, { on := 10, ground := Ground.guard }], guard := some (10, false) }) (by rfl) ?_ (fun K hK => ?_)
            · kernel_rfl
            go_simp
            refine (mem b _ _ _ _ _ _ hHeld.1).mono ?_
            rintro e w' ⟨rfl, rfl⟩
            refine hK.out _ _ ?_ (fun hHeld => ?_)
            · exact hHeld
            clear hK K
            try simp only [Act.put, List.setIfInBounds_toArray, List.set_cons_zero, List.set_cons_succ]
            skip
            refine Reg.G_step (o := { dst := some 79, op := Op.call { callee := Callee.value (Operand.func 37), args := #[Operand.tmp 78], argTypes := #[54] }, type := 9, pos := "law.go:50", after := #[{ on := 12, ground := Ground.data }, { on := 12, ground := Ground.chain }, { on := 10, ground := Ground.guard }], guard := some (10, false) }) (by rfl) ?_ (fun K hK => ?_)
            · kernel_rfl
            go_simp
            refine (ptext F g L _ hHeld.2.1 hz3.out).mono ?_
            rintro e w' ⟨rfl, hb⟩
            refine hK.out _ _ ?_ (fun hHeld => ?_)
            · exact ⟨hHeld.1.below hb, hHeld.2.1.below hb, cbel hb hHeld.2.2.1 (Nat.lt_of_lt_of_le (Nat.lt_of_lt_of_le hrl hb1.size) hb2.size), cbel hb hHeld.2.2.2.1 (Nat.lt_of_lt_of_le (Nat.lt_of_lt_of_le hrl hb1.size) hb2.size), cbel hb hHeld.2.2.2.2.1 (Nat.lt_of_lt_of_le (Nat.lt_of_lt_of_le hrl hb1.size) hb2.size), cbel hb hHeld.2.2.2.2.2 (Nat.lt_of_lt_of_le (Nat.lt_of_lt_of_le hrl hb1.size) hb2.size)⟩
            clear hK K
            try simp only [Act.put, List.setIfInBounds_toArray, List.set_cons_zero, List.set_cons_succ]
            refine Reg.G_on (o := { dst := some 82, op := Op.binOp BinOp.neq 9 (Operand.tmp 79) (Operand.tmp 81) 9, type := 4, pos := "law.go:50", after := #[{ on := 13, ground := Ground.data }, { on := 15, ground := Ground.data }, { on := 10, ground := Ground.guard }], guard := some (10, false) }) (v := ?_) (by rfl) ?_ (fun wS hSw => ?_) ?_
            rotate_left
            · kernel_rfl
            · (try dsimp only at hSw); go_simp; (try with_reducible rfl)
            try simp only [Act.put, List.setIfInBounds_toArray, List.set_cons_zero, List.set_cons_succ]
            refine Reg.G_on (o := { dst := some 83, op := Op.pick (Operand.tmp 76) (Operand.const (Value.bool true)) (Operand.tmp 82), type := 4, pos := "law.go:50", after := #[{ on := 10, ground := Ground.data }, { on := 16, ground := Ground.data }], guard := Option.none }) (v := ?_) (by rfl) ?_ (fun wS hSw => ?_) ?_
            rotate_left
            · kernel_rfl
            · (try dsimp only at hSw); go_simp; (try with_reducible rfl)
            try simp only [Act.put, List.setIfInBounds_toArray, List.set_cons_zero, List.set_cons_succ]
            refine Reg.G_done ?_
            go_wp2
            have h20 := bstep (bstep hb1 hb2) hb
            have HB3 : Bo w w' b g r F (tx L) L q f l2 := ⟨HB.pb.below ((Below.refl W.heap.size W).drew.trans h20), HB.rb.below ((Below.refl W.heap.size W).drew.trans h20), HB.mr.below ((Below.refl W.heap.size W).drew.trans h20), bstep HB.be ((Below.refl W.heap.size W).drew.trans h20)⟩
            go_roundw
            case rel => exact ⟨k + 1, f, l2, by omega, by go_num, HB3, HU2⟩
            case measure => simp [intOf]; omega
          · have h2b : (yk == 2) = false := by simpa using h2
            have hf0 := HU.out.f0
            have hf1 : f < 9223372036854775807 := by have := HU.out.fk; omega
            have hR := fun W => rfault (tx L) q f l' W hf0 hf1
            have hM := fun W h => fault b f l' (decide (q < f)) (.pointer (some ⟨g, 0, none⟩)) q W h hf0 hf1
            have HU2 := HU.out.fault (decide (q < f))
            rw [es_eq] at hM
            obtain ⟨f2, hf2⟩ : ∃ f2, ef (decide (q < f)) f = f2 := ⟨_, rfl⟩
            obtain ⟨l2, hl2⟩ : ∃ l2, el (decide (q < f)) l' = l2 := ⟨_, rfl⟩
            rw [hl2, hf2] at HU2 hR hM
            clear hl2 hf2 hf1
            go_wp2_with fail
            refine (hM wr HB.pb).mono ?_
            rintro e wa ⟨rfl, pa, ma⟩
            have ra := HB.rb.far ma (fun h => hbr (show r = b from h).symm)
            have mra := HB.mr.far ma (fun k hk h => wh.fb ((show k = b from h) ▸ hk))
            have ba := ma.below HB.be HB.be.size (fun k hk => by rw [show k = b from hk]; exact wh.b0)
            clear t0 t1 t2 t3 g0 g1 g2 g3 hM ma
            obtain ⟨⟨t0, t1, t2, t3⟩, -⟩ := four ra
            go_wp2_with fail
            refine (hR wa).mono ?_
            rintro e w' ⟨rfl, hb⟩
            have pb2 := pa.below hb
            have rb2 := ra.below hb
            have mr2 := mra.below hb
            have bb2 := bstep ba hb
            clear t0 t1 t2 t3 hR ra pa mra ba hb
            obtain ⟨⟨t0, t1, t2, t3⟩, u0, u1, u2, u3⟩ := four rb2
            go_wp2_with fail
            clear t0 t1 t2 t3
            obtain ⟨W, hW⟩ : ∃ W, W = set4 w' r (tx L) q f2 l2 := ⟨_, rfl⟩
            have HB : Bo w W b g r F (tx L) L q f2 l2 := by
              rw [hW]
              exact ⟨pb2.far (set4_mod _ _ _ _ _ _) (fun h => hbr h), rb2.set, mr2.far (set4_mod _ _ _ _ _ _) (fun k hk h => wh.fr ((show k = r from h) ▸ hk)), set4_below bb2 wh.r0 _ _ _ _⟩
            unfold set4 at hW
            rw [← hW]
            clear hW u0 u1 u2 u3 pb2 rb2 mr2 bb2
            have hrl := blk_lt HB.rb
            obtain ⟨⟨t0, t1, t2, t3⟩, -⟩ := four HB.rb
            go_wp2_with fail
            refine Reg.wp_plan (S := fun w' => PB w' b f2 l2 (decide (q < f2)) (.pointer (some ⟨g, 0, none⟩)) q ∧ Memory.MR w' F g L ∧ w'.cell? ⟨r, 0, none⟩ = some (.string (tx L)) ∧ w'.cell? ⟨r, 1, none⟩ = some (.int .i64 q) ∧ w'.cell? ⟨r, 2, none⟩ = some (.int .i64 f2) ∧ w'.cell? ⟨r, 3, none⟩ = some (.int .i64 l2)) 18 (.fl 0 (.fl 2 (.fl 3 (.fl 4 (.fl 5 (.fl 6 (.one 1 (.one 7 (.fl 8 (.fl 9 (.fl 10 (.fl 11 (.fl 14 (.fl 15 (.one 12 (.one 13 (.fl 16 (.fl 17 .done)))))))))))))))))) (by kernel_rfl) (by kernel_rfl) (by kernel_rfl) (by kernel_rfl) (fun _ _ _ d _ h => by cases d <;> exact h) ?_ (fun hHeld => ?_)
            · exact ⟨HB.pb, HB.mr, by simpa using t0, by simpa using t1, by simpa using t2, by simpa using t3⟩
            refine Reg.G_on (o := { dst := some 66, op := Op.move (Operand.tmp 5), type := 35, pos := "law.go:50", after := #[], guard := Option.none }) (v := ?_) (by rfl) ?_ (fun wS hSw => ?_) ?_
            rotate_left
            · kernel_rfl
            · (try dsimp only at hSw); go_simp; (try with_reducible rfl)
            try simp only [Act.put, List.setIfInBounds_toArray, List.set_cons_zero, List.set_cons_succ]
            refine Reg.G_on (o := { dst := some 68, op := Op.fieldAddr 60 (Operand.tmp 6) 2, type := 0, pos := "law.go:50", after := #[], guard := Option.none }) (v := ?_) (by rfl) ?_ (fun wS hSw => ?_) ?_
            rotate_left
            · kernel_rfl
            · (try dsimp only at hSw); go_simp; (try with_reducible rfl)
            try simp only [Act.put, List.setIfInBounds_toArray, List.set_cons_zero, List.set_cons_succ]
            refine Reg.G_on (o := { dst := some 69, op := Op.load 3 (Operand.tmp 68), type := 3, pos := "law.go:50", after := #[{ on := 2, ground := Ground.data }], guard := Option.none }) (v := ?_) (by rfl) ?_ (fun wS hSw => ?_) ?_
            rotate_left
            · kernel_rfl
            · (try dsimp only at hSw); go_simp; (try with_reducible rfl)
            try simp only [Act.put, List.setIfInBounds_toArray, List.set_cons_zero, List.set_cons_succ]
            refine Reg.G_on (o := { dst := some 70, op := Op.fieldAddr 60 (Operand.tmp 6) 3, type := 0, pos := "law.go:50", after := #[], guard := Option.none }) (v := ?_) (by rfl) ?_ (fun wS hSw => ?_) ?_
            rotate_left
            · kernel_rfl
            · (try dsimp only at hSw); go_simp; (try with_reducible rfl)
            try simp only [Act.put, List.setIfInBounds_toArray, List.set_cons_zero, List.set_cons_succ]
            refine Reg.G_on (o := { dst := some 71, op := Op.load 3 (Operand.tmp 70), type := 3, pos := "law.go:50", after := #[{ on := 4, ground := Ground.data }], guard := Option.none }) (v := ?_) (by rfl) ?_ (fun wS hSw => ?_) ?_
            rotate_left
            · kernel_rfl
            · (try dsimp only at hSw); go_simp; (try with_reducible rfl)
            try simp only [Act.put, List.setIfInBounds_toArray, List.set_cons_zero, List.set_cons_succ]
            refine Reg.G_on (o := { dst := some 72, op := Op.load 60 (Operand.tmp 6), type := 60, pos := "law.go:50", after := #[], guard := Option.none }) (v := ?_) (by rfl) ?_ (fun wS hSw => ?_) ?_
            rotate_left
            · kernel_rfl
            · (try dsimp only at hSw); go_simp; (try with_reducible rfl)
            try simp only [Act.put, List.setIfInBounds_toArray, List.set_cons_zero, List.set_cons_succ]
            refine Reg.G_step (o := { dst := some 67, op := Op.call { callee := Callee.value (Operand.func 26), args := #[Operand.tmp 66], argTypes := #[35] }, type := 41, pos := "law.go:50", after := #[{ on := 0, ground := Ground.data }], guard := Option.none }) (by rfl) ?_ (fun K hK => ?_)
            · kernel_rfl
            go_simp
            refine (state b _ _ _ _ _ _ hHeld.1).mono ?_
            rintro e w' ⟨rfl, hb⟩
            refine hK.out _ _ ?_ (fun hHeld => ?_)
            · exact ⟨hHeld.1.below hb, hHeld.2.1.below hb, cbel hb hHeld.2.2.1 hrl, cbel hb hHeld.2.2.2.1 hrl, cbel hb hHeld.2.2.2.2.1 hrl, cbel hb hHeld.2.2.2.2.2 hrl⟩
            clear hK K
            try simp only [Act.put, List.setIfInBounds_toArray, List.set_cons_zero, List.set_cons_succ]
            skip
            have hb1 := hb
            clear hb
            refine Reg.G_step (o := { dst := some 73, op := Op.call { callee := Callee.value (Operand.func 36), args := #[Operand.tmp 72], argTypes := #[60] }, type := 4, pos := "law.go:50", after := #[{ on := 6, ground := Ground.data }, { on := 1, ground := Ground.chain }], guard := Option.none }) (by rfl) ?_ (fun K hK => ?_)
            · kernel_rfl
            go_simp
            refine (rstopped (tx L) q f2 l2 _).mono ?_
            rintro e w' ⟨rfl, hb⟩
            refine hK.out _ _ ?_ (fun hHeld => ?_)
            · exact ⟨hHeld.1.below hb, hHeld.2.1.below hb, cbel hb hHeld.2.2.1 (Nat.lt_of_lt_of_le hrl hb1.size), cbel hb hHeld.2.2.2.1 (Nat.lt_of_lt_of_le hrl hb1.size), cbel hb hHeld.2.2.2.2.1 (Nat.lt_of_lt_of_le hrl hb1.size), cbel hb hHeld.2.2.2.2.2 (Nat.lt_of_lt_of_le hrl hb1.size)⟩
            clear hK K
            try simp only [Act.put, List.setIfInBounds_toArray, List.set_cons_zero, List.set_cons_succ]
            refine Reg.G_on (o := { dst := some 74, op := Op.build 41 #[(0, Operand.tmp 69), (1, Operand.tmp 71), (2, Operand.tmp 73)], type := 41, pos := "law.go:50", after := #[{ on := 3, ground := Ground.data }, { on := 5, ground := Ground.data }, { on := 7, ground := Ground.data }], guard := Option.none }) (v := ?_) (by rfl) ?_ (fun wS hSw => ?_) ?_
            rotate_left
            · kernel_rfl
            · (try dsimp only at hSw); go_simp; (try with_reducible rfl)
            try simp only [Act.put, List.setIfInBounds_toArray, List.set_cons_zero, List.set_cons_succ]
            refine Reg.G_on (o := { dst := some 75, op := Op.binOp BinOp.neq 41 (Operand.tmp 67) (Operand.tmp 74) 41, type := 4, pos := "law.go:50", after := #[{ on := 1, ground := Ground.data }, { on := 8, ground := Ground.data }], guard := Option.none }) (v := ?_) (by rfl) ?_ (fun wS hSw => ?_) ?_
            rotate_left
            · kernel_rfl
            · (try dsimp only at hSw); go_simp; (try with_reducible rfl)
            try simp only [Act.put, List.setIfInBounds_toArray, List.set_cons_zero, List.set_cons_succ]
            refine Reg.G_on (o := { dst := some 76, op := Op.move (Operand.tmp 75), type := 4, pos := "law.go:50", after := #[{ on := 9, ground := Ground.data }, { on := 7, ground := Ground.chain }], guard := Option.none }) (v := ?_) (by rfl) ?_ (fun wS hSw => ?_) ?_
            rotate_left
            · kernel_rfl
            · (try dsimp only at hSw); go_simp; (try with_reducible rfl)
            try simp only [Act.put, List.setIfInBounds_toArray, List.set_cons_zero, List.set_cons_succ]
            refine Reg.G_on (o := { dst := some 77, op := Op.move (Operand.tmp 5), type := 35, pos := "law.go:50", after := #[{ on := 10, ground := Ground.guard }], guard := some (10, false) }) (v := ?_) (by rfl) ?_ (fun wS hSw => ?_) ?_
            rotate_left
            · kernel_rfl
            · (try dsimp only at hSw); go_simp; (try with_reducible rfl)
            try simp only [Act.put, List.setIfInBounds_toArray, List.set_cons_zero, List.set_cons_succ]
            refine Reg.G_on (o := { dst := some 80, op := Op.fieldAddr 60 (Operand.tmp 6) 0, type := 0, pos := "law.go:50", after := #[{ on := 10, ground := Ground.guard }], guard := some (10, false) }) (v := ?_) (by rfl) ?_ (fun wS hSw => ?_) ?_
            rotate_left
            · kernel_rfl
            · (try dsimp only at hSw); go_simp; (try with_reducible rfl)
            try simp only [Act.put, List.setIfInBounds_toArray, List.set_cons_zero, List.set_cons_succ]
            refine Reg.G_on (o := { dst := some 81, op := Op.load 9 (Operand.tmp 80), type := 9, pos := "law.go:50", after := #[{ on := 14, ground := Ground.data }, { on := 10, ground := Ground.guard }], guard := some (10, false) }) (v := ?_) (by rfl) ?_ (fun wS hSw => ?_) ?_
            rotate_left
            · kernel_rfl
            · (try dsimp only at hSw); go_simp; (try with_reducible rfl)
            try simp only [Act.put, List.setIfInBounds_toArray, List.set_cons_zero, List.set_cons_succ]
            have hb2 := hb
            clear hb
            refine Reg.G_step (o := { dst := some 78, op := Op.call { callee := Callee.value (Operand.func 31), args := #[Operand.tmp 77], argTypes := #[35] }, type := 54, pos := "law.go:50", after := #[{ on := 11, ground := Ground.data }, { on := 10, ground := Ground.chain }, { on := 10, ground := Ground.guard }], guard := some (10, false) }) (by rfl) ?_ (fun K hK => ?_)
            · kernel_rfl
            go_simp
            refine (mem b _ _ _ _ _ _ hHeld.1).mono ?_
            rintro e w' ⟨rfl, rfl⟩
            refine hK.out _ _ ?_ (fun hHeld => ?_)
            · exact hHeld
            clear hK K
            try simp only [Act.put, List.setIfInBounds_toArray, List.set_cons_zero, List.set_cons_succ]
            skip
            refine Reg.G_step (o := { dst := some 79, op := Op.call { callee := Callee.value (Operand.func 37), args := #[Operand.tmp 78], argTypes := #[54] }, type := 9, pos := "law.go:50", after := #[{ on := 12, ground := Ground.data }, { on := 12, ground := Ground.chain }, { on := 10, ground := Ground.guard }], guard := some (10, false) }) (by rfl) ?_ (fun K hK => ?_)
            · kernel_rfl
            go_simp
            refine (ptext F g L _ hHeld.2.1 hz3.out).mono ?_
            rintro e w' ⟨rfl, hb⟩
            refine hK.out _ _ ?_ (fun hHeld => ?_)
            · exact ⟨hHeld.1.below hb, hHeld.2.1.below hb, cbel hb hHeld.2.2.1 (Nat.lt_of_lt_of_le (Nat.lt_of_lt_of_le hrl hb1.size) hb2.size), cbel hb hHeld.2.2.2.1 (Nat.lt_of_lt_of_le (Nat.lt_of_lt_of_le hrl hb1.size) hb2.size), cbel hb hHeld.2.2.2.2.1 (Nat.lt_of_lt_of_le (Nat.lt_of_lt_of_le hrl hb1.size) hb2.size), cbel hb hHeld.2.2.2.2.2 (Nat.lt_of_lt_of_le (Nat.lt_of_lt_of_le hrl hb1.size) hb2.size)⟩
            clear hK K
            try simp only [Act.put, List.setIfInBounds_toArray, List.set_cons_zero, List.set_cons_succ]
            refine Reg.G_on (o := { dst := some 82, op := Op.binOp BinOp.neq 9 (Operand.tmp 79) (Operand.tmp 81) 9, type := 4, pos := "law.go:50", after := #[{ on := 13, ground := Ground.data }, { on := 15, ground := Ground.data }, { on := 10, ground := Ground.guard }], guard := some (10, false) }) (v := ?_) (by rfl) ?_ (fun wS hSw => ?_) ?_
            rotate_left
            · kernel_rfl
            · (try dsimp only at hSw); go_simp; (try with_reducible rfl)
            try simp only [Act.put, List.setIfInBounds_toArray, List.set_cons_zero, List.set_cons_succ]
            refine Reg.G_on (o := { dst := some 83, op := Op.pick (Operand.tmp 76) (Operand.const (Value.bool true)) (Operand.tmp 82), type := 4, pos := "law.go:50", after := #[{ on := 10, ground := Ground.data }, { on := 16, ground := Ground.data }], guard := Option.none }) (v := ?_) (by rfl) ?_ (fun wS hSw => ?_) ?_
            rotate_left
            · kernel_rfl
            · (try dsimp only at hSw); go_simp; (try with_reducible rfl)
            try simp only [Act.put, List.setIfInBounds_toArray, List.set_cons_zero, List.set_cons_succ]
            refine Reg.G_done ?_
            go_wp2
            have h20 := bstep (bstep hb1 hb2) hb
            have HB3 : Bo w w' b g r F (tx L) L q f2 l2 := ⟨HB.pb.below ((Below.refl W.heap.size W).drew.trans h20), HB.rb.below ((Below.refl W.heap.size W).drew.trans h20), HB.mr.below ((Below.refl W.heap.size W).drew.trans h20), bstep HB.be ((Below.refl W.heap.size W).drew.trans h20)⟩
            go_roundw
            case rel => exact ⟨k + 1, f2, l2, by omega, by go_num, HB3, HU2⟩
            case measure => simp [intOf]; omega
      · have hk2 : ¬ ((k : Int) < (l.length : Int)) := by omega
        have hmo := mem_one L
        by_cases hL : L.length = 0
        · obtain ⟨hm1, hm2⟩ := hmo.1 hL
          have hz0 : (((tx L).size : Int) == 0) = true := by rw [tx_size, hL]; rfl
          have hS := Memory.store F g L 0 ⟨#[97]⟩ wr HB.mr (by have := hz3.out; omega)
          rw [hm1] at hS
          generalize Memory.stc L 0 ⟨#[97]⟩ = c1 at hS
          have hz4 : Hid ((L).length ≤ 4096) := Lib.hid (by have := hz3.out; have h3 : (L).length = L.length := rfl; omega)
          have HZ5 := fun W h => psize F g L (tx L) rfl W h
          have HM2 := Lib.hid hm2
          clear hm1 hm2 hmo
          go_wp2_with fail
          refine hS.mono ?_
          rintro e wa ⟨rfl, ma, mm⟩
          have pa := HB.pb.far mm (fun h => wh.fb h)
          have ra := HB.rb.far mm (fun h => wh.fr h)
          have ba := mm.below HB.be HB.be.size wh.ff
          clear mm hS HB
          go_wp2_with fail
          refine (mem b _ _ _ _ _ _ pa).mono ?_
          rintro e w' ⟨rfl, rfl⟩
          go_wp2_with fail
          refine (pload F g L ⟨#[]⟩ wa ma hz4.out HM2.out).mono ?_
          rintro e w5 ⟨rfl, b5⟩
          generalize Memory.ldc L 0 1 = c2
          have p5 := pa.below b5
          have m5 := ma.below b5
          have r5 := ra.below b5
          have bb5 := bstep ba b5
          clear pa ma ra ba b5
          have hrl := blk_lt r5
          obtain ⟨⟨t0, -⟩, -⟩ := four r5
          go_wp2_with fail
          refine Reg.wp_plan (S := fun w' => PB w' b f l' (decide (q < f)) (.pointer (some ⟨g, 0, none⟩)) q ∧ Memory.MR w' F g L ∧ w'.cell? ⟨r, 0, none⟩ = some (.string (tx L))) 20 (.fl 0 (.fl 3 (.fl 4 (.fl 5 (.one 1 (.one 2 (.fl 6 (.fl 7 (.fl 8 (.fl 9 (.fl 10 (.fl 11 (.fl 12 (.fl 13 (.fl 14 (.fl 15 (.fl 16 (.one 17 (.fl 18 (.fl 19 .done)))))))))))))))))))) (by kernel_rfl) (by kernel_rfl) (by kernel_rfl) (by kernel_rfl) (fun _ _ _ d _ h => by cases d <;> exact h) ?_ (fun hHeld => ?_)
          · exact ⟨p5, m5, by simpa using t0⟩
          refine Reg.G_on (o := { dst := some 92, op := Op.move (Operand.tmp 5), type := 35, pos := "law.go:56", after := #[], guard := Option.none }) (v := ?_) (by rfl) ?_ (fun wS hSw => ?_) ?_
          rotate_left
          · kernel_rfl
          · (try dsimp only at hSw); go_simp; (try with_reducible rfl)
          try simp only [Act.put, List.setIfInBounds_toArray, List.set_cons_zero, List.set_cons_succ]
          refine Reg.G_on (o := { dst := some 95, op := Op.fieldAddr 60 (Operand.tmp 6) 0, type := 0, pos := "law.go:56", after := #[], guard := Option.none }) (v := ?_) (by rfl) ?_ (fun wS hSw => ?_) ?_
          rotate_left
          · kernel_rfl
          · (try dsimp only at hSw); go_simp; (try with_reducible rfl)
          try simp only [Act.put, List.setIfInBounds_toArray, List.set_cons_zero, List.set_cons_succ]
          refine Reg.G_on (o := { dst := some 96, op := Op.load 9 (Operand.tmp 95), type := 9, pos := "law.go:56", after := #[{ on := 3, ground := Ground.data }], guard := Option.none }) (v := ?_) (by rfl) ?_ (fun wS hSw => ?_) ?_
          rotate_left
          · kernel_rfl
          · (try dsimp only at hSw); go_simp; (try with_reducible rfl)
          try simp only [Act.put, List.setIfInBounds_toArray, List.set_cons_zero, List.set_cons_succ]
          refine Reg.G_on (o := { dst := some 97, op := Op.call { callee := Callee.builtin Builtin.len, args := #[Operand.tmp 96], argTypes := #[9] }, type := 3, pos := "law.go:56", after := #[{ on := 4, ground := Ground.data }], guard := Option.none }) (v := ?_) (by rfl) ?_ (fun wS hSw => ?_) ?_
          rotate_left
          · kernel_rfl
          · (try dsimp only at hSw); go_simp; (try with_reducible rfl)
          try simp only [Act.put, List.setIfInBounds_toArray, List.set_cons_zero, List.set_cons_succ]
          refine Reg.G_step (o := { dst := some 93, op := Op.call { callee := Callee.value (Operand.func 31), args := #[Operand.tmp 92], argTypes := #[35] }, type := 54, pos := "law.go:56", after := #[{ on := 0, ground := Ground.data }], guard := Option.none }) (by rfl) ?_ (fun K hK => ?_)
          · kernel_rfl
          go_simp
          refine (mem b _ _ _ _ _ _ hHeld.1).mono ?_
          rintro e w' ⟨rfl, rfl⟩
          refine hK.out _ _ ?_ (fun hHeld => ?_)
          · exact hHeld
          clear hK K
          try simp only [Act.put, List.setIfInBounds_toArray, List.set_cons_zero, List.set_cons_succ]
          skip
          refine Reg.G_step (o := { dst := some 94, op := Op.call { callee := Callee.value (Operand.func 40), args := #[Operand.tmp 93], argTypes := #[54] }, type := 3, pos := "law.go:56", after := #[{ on := 1, ground := Ground.data }, { on := 1, ground := Ground.chain }], guard := Option.none }) (by rfl) ?_ (fun K hK => ?_)
          · kernel_rfl
          go_simp
          refine (HZ5 _ hHeld.2.1).mono ?_
          rintro e w' ⟨rfl, rfl⟩
          refine hK.out _ _ ?_ (fun hHeld => ?_)
          · exact hHeld
          clear hK K
          try simp only [Act.put, List.setIfInBounds_toArray, List.set_cons_zero, List.set_cons_succ]
          refine Reg.G_on (o := { dst := some 98, op := Op.binOp BinOp.eql 3 (Operand.tmp 94) (Operand.tmp 97) 3, type := 4, pos := "law.go:56", after := #[{ on := 2, ground := Ground.data }, { on := 5, ground := Ground.data }], guard := Option.none }) (v := ?_) (by rfl) ?_ (fun wS hSw => ?_) ?_
          rotate_left
          · kernel_rfl
          · (try dsimp only at hSw); go_simp; (try with_reducible rfl)
          try simp only [Act.put, List.setIfInBounds_toArray, List.set_cons_zero, List.set_cons_succ]
          refine Reg.G_on (o := { dst := some 99, op := Op.move (Operand.tmp 98), type := 4, pos := "law.go:56", after := #[{ on := 6, ground := Ground.data }, { on := 2, ground := Ground.chain }], guard := Option.none }) (v := ?_) (by rfl) ?_ (fun wS hSw => ?_) ?_
          rotate_left
          · kernel_rfl
          · (try dsimp only at hSw); go_simp; (try with_reducible rfl)
          try simp only [Act.put, List.setIfInBounds_toArray, List.set_cons_zero, List.set_cons_succ]
          refine Reg.G_on (o := { dst := some 100, op := Op.fieldAddr 60 (Operand.tmp 6) 0, type := 0, pos := "law.go:56", after := #[{ on := 7, ground := Ground.guard }], guard := some (7, true) }) (v := ?_) (by rfl) ?_ (fun wS hSw => ?_) ?_
          rotate_left
          · kernel_rfl
          · (try dsimp only at hSw); go_simp; (try with_reducible rfl)
          try simp only [Act.put, List.setIfInBounds_toArray, List.set_cons_zero, List.set_cons_succ]
          refine Reg.G_on (o := { dst := some 101, op := Op.load 9 (Operand.tmp 100), type := 9, pos := "law.go:56", after := #[{ on := 8, ground := Ground.data }, { on := 7, ground := Ground.guard }], guard := some (7, true) }) (v := ?_) (by rfl) ?_ (fun wS hSw => ?_) ?_
          rotate_left
          · kernel_rfl
          · (try dsimp only at hSw); go_simp; (try with_reducible rfl)
          try simp only [Act.put, List.setIfInBounds_toArray, List.set_cons_zero, List.set_cons_succ]
          refine Reg.G_on (o := { dst := some 102, op := Op.call { callee := Callee.builtin Builtin.len, args := #[Operand.tmp 101], argTypes := #[9] }, type := 3, pos := "law.go:56", after := #[{ on := 9, ground := Ground.data }, { on := 7, ground := Ground.guard }], guard := some (7, true) }) (v := ?_) (by rfl) ?_ (fun wS hSw => ?_) ?_
          rotate_left
          · kernel_rfl
          · (try dsimp only at hSw); go_simp; (try with_reducible rfl)
          try simp only [Act.put, List.setIfInBounds_toArray, List.set_cons_zero, List.set_cons_succ]
          refine Reg.G_on (o := { dst := some 103, op := Op.binOp BinOp.eql 3 (Operand.tmp 102) (Operand.const (Value.int IntKind.i64 0)) 3, type := 4, pos := "law.go:56", after := #[{ on := 10, ground := Ground.data }, { on := 7, ground := Ground.guard }], guard := some (7, true) }) (v := ?_) (by rfl) ?_ (fun wS hSw => ?_) ?_
          rotate_left
          · kernel_rfl
          · (try dsimp only at hSw); go_simp; (try with_reducible rfl)
          try simp only [Act.put, List.setIfInBounds_toArray, List.set_cons_zero, List.set_cons_succ]
          refine Reg.G_on (o := { dst := some 104, op := Op.move (Operand.tmp 11), type := 9, pos := "law.go:56", after := #[{ on := 7, ground := Ground.guard }], guard := some (7, true) }) (v := ?_) (by rfl) ?_ (fun wS hSw => ?_) ?_
          rotate_left
          · kernel_rfl
          · (try dsimp only at hSw); go_simp; (try with_reducible rfl)
          try simp only [Act.put, List.setIfInBounds_toArray, List.set_cons_zero, List.set_cons_succ]
          refine Reg.G_on (o := { dst := some 105, op := Op.binOp BinOp.eql 9 (Operand.tmp 104) (Operand.const (Value.string { data := #[] })) 9, type := 4, pos := "law.go:56", after := #[{ on := 12, ground := Ground.data }, { on := 7, ground := Ground.guard }], guard := some (7, true) }) (v := ?_) (by rfl) ?_ (fun wS hSw => ?_) ?_
          rotate_left
          · kernel_rfl
          · (try dsimp only at hSw); go_simp; (try with_reducible rfl)
          try simp only [Act.put, List.setIfInBounds_toArray, List.set_cons_zero, List.set_cons_succ]
          refine Reg.G_on (o := { dst := some 106, op := Op.binOp BinOp.eql 4 (Operand.tmp 103) (Operand.tmp 105) 4, type := 4, pos := "law.go:56", after := #[{ on := 11, ground := Ground.data }, { on := 13, ground := Ground.data }, { on := 7, ground := Ground.guard }], guard := some (7, true) }) (v := ?_) (by rfl) ?_ (fun wS hSw => ?_) ?_
          rotate_left
          · kernel_rfl
          · (try dsimp only at hSw); go_simp; (try with_reducible rfl)
          try simp only [Act.put, List.setIfInBounds_toArray, List.set_cons_zero, List.set_cons_succ]
          refine Reg.G_on (o := { dst := some 107, op := Op.pick (Operand.tmp 99) (Operand.tmp 106) (Operand.const (Value.bool false)), type := 4, pos := "law.go:56", after := #[{ on := 7, ground := Ground.data }, { on := 14, ground := Ground.data }], guard := Option.none }) (v := ?_) (by rfl) ?_ (fun wS hSw => ?_) ?_
          rotate_left
          · kernel_rfl
          · (try dsimp only at hSw); go_simp; (try with_reducible rfl)
          try simp only [Act.put, List.setIfInBounds_toArray, List.set_cons_zero, List.set_cons_succ]
          refine Reg.G_on (o := { dst := some 108, op := Op.move (Operand.tmp 107), type := 4, pos := "law.go:56", after := #[{ on := 15, ground := Ground.data }, { on := 7, ground := Ground.chain }], guard := Option.none }) (v := ?_) (by rfl) ?_ (fun wS hSw => ?_) ?_
          rotate_left
          · kernel_rfl
          · (try dsimp only at hSw); go_simp; (try with_reducible rfl)
          try simp only [Act.put, List.setIfInBounds_toArray, List.set_cons_zero, List.set_cons_succ]
          refine Reg.G_step (o := { dst := some 109, op := Op.call { callee := Callee.value (Operand.func 21), args := #[], argTypes := #[] }, type := 4, pos := "law.go:56", after := #[{ on := 16, ground := Ground.chain }, { on := 16, ground := Ground.guard }], guard := some (16, true) }) (by rfl) ?_ (fun K hK => ?_)
          · kernel_rfl
          go_simp
          refine (awake _).mono ?_
          rintro e w' ⟨rfl, hb⟩
          refine hK.out _ _ ?_ (fun hHeld => ?_)
          · exact ⟨hHeld.1.below hb, hHeld.2.1.below hb, cbel hb hHeld.2.2 hrl⟩
          clear hK K
          try simp only [Act.put, List.setIfInBounds_toArray, List.set_cons_zero, List.set_cons_succ]
          refine Reg.G_on (o := { dst := some 110, op := Op.pick (Operand.tmp 108) (Operand.tmp 109) (Operand.const (Value.bool false)), type := 4, pos := "law.go:56", after := #[{ on := 16, ground := Ground.data }, { on := 17, ground := Ground.data }], guard := Option.none }) (v := ?_) (by rfl) ?_ (fun wS hSw => ?_) ?_
          rotate_left
          · kernel_rfl
          · (try dsimp only at hSw); go_simp; (try with_reducible rfl)
          try simp only [Act.put, List.setIfInBounds_toArray, List.set_cons_zero, List.set_cons_succ]
          refine Reg.G_on (o := { dst := some 4, op := Op.assign (Operand.tmp 110), type := 4, pos := "law.go:56", after := #[{ on := 18, ground := Ground.data }, { on := 17, ground := Ground.chain }, { on := 0, ground := Ground.phase }, { on := 1, ground := Ground.phase }, { on := 2, ground := Ground.phase }, { on := 3, ground := Ground.phase }, { on := 4, ground := Ground.phase }, { on := 5, ground := Ground.phase }, { on := 6, ground := Ground.phase }, { on := 7, ground := Ground.phase }, { on := 8, ground := Ground.phase }, { on := 9, ground := Ground.phase }, { on := 10, ground := Ground.phase }, { on := 11, ground := Ground.phase }, { on := 12, ground := Ground.phase }, { on := 13, ground := Ground.phase }, { on := 14, ground := Ground.phase }, { on := 15, ground := Ground.phase }, { on := 16, ground := Ground.phase }, { on := 17, ground := Ground.phase }, { on := 18, ground := Ground.phase }], guard := Option.none }) (v := ?_) (by rfl) ?_ (fun wS hSw => ?_) ?_
          rotate_left
          · kernel_rfl
          · (try dsimp only at hSw); go_simp; (try with_reducible rfl)
          try simp only [Act.put, List.setIfInBounds_toArray, List.set_cons_zero, List.set_cons_succ]
          refine Reg.G_done ?_
          go_wp2
          go_ret
          exact ⟨rfl, bstep bb5 ((Below.refl w5.heap.size w5).drew.trans hb)⟩
        · obtain ⟨L2, hl2, hm1, hm2⟩ := hmo.2 hL
          have hz0 : (((tx L).size : Int) == 0) = false := by rw [tx_size]; exact beq_eq_false_iff_ne.2 (by omega)
          have hS := Memory.store F g L 0 ⟨#[97]⟩ wr HB.mr (by have := hz3.out; omega)
          rw [hm1] at hS
          generalize Memory.stc L 0 ⟨#[97]⟩ = c1 at hS
          have hz4 : Hid ((L2).length ≤ 4096) := Lib.hid (by have := hz3.out; have h3 : (L2).length = L.length := hl2; omega)
          have HZ5 := fun W h => psize F g L2 (tx L) hl2 W h
          have HM2 := Lib.hid hm2
          clear hm1 hm2 hmo
          go_wp2_with fail
          refine hS.mono ?_
          rintro e wa ⟨rfl, ma, mm⟩
          have pa := HB.pb.far mm (fun h => wh.fb h)
          have ra := HB.rb.far mm (fun h => wh.fr h)
          have ba := mm.below HB.be HB.be.size wh.ff
          clear mm hS HB
          go_wp2_with fail
          refine (mem b _ _ _ _ _ _ pa).mono ?_
          rintro e w' ⟨rfl, rfl⟩
          go_wp2_with fail
          refine (pload F g L2 ⟨#[97]⟩ wa ma hz4.out HM2.out).mono ?_
          rintro e w5 ⟨rfl, b5⟩
          generalize Memory.ldc L2 0 1 = c2
          have p5 := pa.below b5
          have m5 := ma.below b5
          have r5 := ra.below b5
          have bb5 := bstep ba b5
          clear pa ma ra ba b5
          have hrl := blk_lt r5
          obtain ⟨⟨t0, -⟩, -⟩ := four r5
          go_wp2_with fail
          refine Reg.wp_plan (S := fun w' => PB w' b f l' (decide (q < f)) (.pointer (some ⟨g, 0, none⟩)) q ∧ Memory.MR w' F g L2 ∧ w'.cell? ⟨r, 0, none⟩ = some (.string (tx L))) 20 (.fl 0 (.fl 3 (.fl 4 (.fl 5 (.one 1 (.one 2 (.fl 6 (.fl 7 (.fl 8 (.fl 9 (.fl 10 (.fl 11 (.fl 12 (.fl 13 (.fl 14 (.fl 15 (.fl 16 (.one 17 (.fl 18 (.fl 19 .done)))))))))))))))))))) (by kernel_rfl) (by kernel_rfl) (by kernel_rfl) (by kernel_rfl) (fun _ _ _ d _ h => by cases d <;> exact h) ?_ (fun hHeld => ?_)
          · exact ⟨p5, m5, by simpa using t0⟩
          refine Reg.G_on (o := { dst := some 92, op := Op.move (Operand.tmp 5), type := 35, pos := "law.go:56", after := #[], guard := Option.none }) (v := ?_) (by rfl) ?_ (fun wS hSw => ?_) ?_
          rotate_left
          · kernel_rfl
          · (try dsimp only at hSw); go_simp; (try with_reducible rfl)
          try simp only [Act.put, List.setIfInBounds_toArray, List.set_cons_zero, List.set_cons_succ]
          refine Reg.G_on (o := { dst := some 95, op := Op.fieldAddr 60 (Operand.tmp 6) 0, type := 0, pos := "law.go:56", after := #[], guard := Option.none }) (v := ?_) (by rfl) ?_ (fun wS hSw => ?_) ?_
          rotate_left
          · kernel_rfl
          · (try dsimp only at hSw); go_simp; (try with_reducible rfl)
          try simp only [Act.put, List.setIfInBounds_toArray, List.set_cons_zero, List.set_cons_succ]
          refine Reg.G_on (o := { dst := some 96, op := Op.load 9 (Operand.tmp 95), type := 9, pos := "law.go:56", after := #[{ on := 3, ground := Ground.data }], guard := Option.none }) (v := ?_) (by rfl) ?_ (fun wS hSw => ?_) ?_
          rotate_left
          · kernel_rfl
          · (try dsimp only at hSw); go_simp; (try with_reducible rfl)
          try simp only [Act.put, List.setIfInBounds_toArray, List.set_cons_zero, List.set_cons_succ]
          refine Reg.G_on (o := { dst := some 97, op := Op.call { callee := Callee.builtin Builtin.len, args := #[Operand.tmp 96], argTypes := #[9] }, type := 3, pos := "law.go:56", after := #[{ on := 4, ground := Ground.data }], guard := Option.none }) (v := ?_) (by rfl) ?_ (fun wS hSw => ?_) ?_
          rotate_left
          · kernel_rfl
          · (try dsimp only at hSw); go_simp; (try with_reducible rfl)
          try simp only [Act.put, List.setIfInBounds_toArray, List.set_cons_zero, List.set_cons_succ]
          refine Reg.G_step (o := { dst := some 93, op := Op.call { callee := Callee.value (Operand.func 31), args := #[Operand.tmp 92], argTypes := #[35] }, type := 54, pos := "law.go:56", after := #[{ on := 0, ground := Ground.data }], guard := Option.none }) (by rfl) ?_ (fun K hK => ?_)
          · kernel_rfl
          go_simp
          refine (mem b _ _ _ _ _ _ hHeld.1).mono ?_
          rintro e w' ⟨rfl, rfl⟩
          refine hK.out _ _ ?_ (fun hHeld => ?_)
          · exact hHeld
          clear hK K
          try simp only [Act.put, List.setIfInBounds_toArray, List.set_cons_zero, List.set_cons_succ]
          skip
          refine Reg.G_step (o := { dst := some 94, op := Op.call { callee := Callee.value (Operand.func 40), args := #[Operand.tmp 93], argTypes := #[54] }, type := 3, pos := "law.go:56", after := #[{ on := 1, ground := Ground.data }, { on := 1, ground := Ground.chain }], guard := Option.none }) (by rfl) ?_ (fun K hK => ?_)
          · kernel_rfl
          go_simp
          refine (HZ5 _ hHeld.2.1).mono ?_
          rintro e w' ⟨rfl, rfl⟩
          refine hK.out _ _ ?_ (fun hHeld => ?_)
          · exact hHeld
          clear hK K
          try simp only [Act.put, List.setIfInBounds_toArray, List.set_cons_zero, List.set_cons_succ]
          refine Reg.G_on (o := { dst := some 98, op := Op.binOp BinOp.eql 3 (Operand.tmp 94) (Operand.tmp 97) 3, type := 4, pos := "law.go:56", after := #[{ on := 2, ground := Ground.data }, { on := 5, ground := Ground.data }], guard := Option.none }) (v := ?_) (by rfl) ?_ (fun wS hSw => ?_) ?_
          rotate_left
          · kernel_rfl
          · (try dsimp only at hSw); go_simp; (try with_reducible rfl)
          try simp only [Act.put, List.setIfInBounds_toArray, List.set_cons_zero, List.set_cons_succ]
          refine Reg.G_on (o := { dst := some 99, op := Op.move (Operand.tmp 98), type := 4, pos := "law.go:56", after := #[{ on := 6, ground := Ground.data }, { on := 2, ground := Ground.chain }], guard := Option.none }) (v := ?_) (by rfl) ?_ (fun wS hSw => ?_) ?_
          rotate_left
          · kernel_rfl
          · (try dsimp only at hSw); go_simp; (try with_reducible rfl)
          try simp only [Act.put, List.setIfInBounds_toArray, List.set_cons_zero, List.set_cons_succ]
          refine Reg.G_on (o := { dst := some 100, op := Op.fieldAddr 60 (Operand.tmp 6) 0, type := 0, pos := "law.go:56", after := #[{ on := 7, ground := Ground.guard }], guard := some (7, true) }) (v := ?_) (by rfl) ?_ (fun wS hSw => ?_) ?_
          rotate_left
          · kernel_rfl
          · (try dsimp only at hSw); go_simp; (try with_reducible rfl)
          try simp only [Act.put, List.setIfInBounds_toArray, List.set_cons_zero, List.set_cons_succ]
          refine Reg.G_on (o := { dst := some 101, op := Op.load 9 (Operand.tmp 100), type := 9, pos := "law.go:56", after := #[{ on := 8, ground := Ground.data }, { on := 7, ground := Ground.guard }], guard := some (7, true) }) (v := ?_) (by rfl) ?_ (fun wS hSw => ?_) ?_
          rotate_left
          · kernel_rfl
          · (try dsimp only at hSw); go_simp; (try with_reducible rfl)
          try simp only [Act.put, List.setIfInBounds_toArray, List.set_cons_zero, List.set_cons_succ]
          refine Reg.G_on (o := { dst := some 102, op := Op.call { callee := Callee.builtin Builtin.len, args := #[Operand.tmp 101], argTypes := #[9] }, type := 3, pos := "law.go:56", after := #[{ on := 9, ground := Ground.data }, { on := 7, ground := Ground.guard }], guard := some (7, true) }) (v := ?_) (by rfl) ?_ (fun wS hSw => ?_) ?_
          rotate_left
          · kernel_rfl
          · (try dsimp only at hSw); go_simp; (try with_reducible rfl)
          try simp only [Act.put, List.setIfInBounds_toArray, List.set_cons_zero, List.set_cons_succ]
          refine Reg.G_on (o := { dst := some 103, op := Op.binOp BinOp.eql 3 (Operand.tmp 102) (Operand.const (Value.int IntKind.i64 0)) 3, type := 4, pos := "law.go:56", after := #[{ on := 10, ground := Ground.data }, { on := 7, ground := Ground.guard }], guard := some (7, true) }) (v := ?_) (by rfl) ?_ (fun wS hSw => ?_) ?_
          rotate_left
          · kernel_rfl
          · (try dsimp only at hSw); go_simp; (try with_reducible rfl)
          try simp only [Act.put, List.setIfInBounds_toArray, List.set_cons_zero, List.set_cons_succ]
          refine Reg.G_on (o := { dst := some 104, op := Op.move (Operand.tmp 11), type := 9, pos := "law.go:56", after := #[{ on := 7, ground := Ground.guard }], guard := some (7, true) }) (v := ?_) (by rfl) ?_ (fun wS hSw => ?_) ?_
          rotate_left
          · kernel_rfl
          · (try dsimp only at hSw); go_simp; (try with_reducible rfl)
          try simp only [Act.put, List.setIfInBounds_toArray, List.set_cons_zero, List.set_cons_succ]
          refine Reg.G_on (o := { dst := some 105, op := Op.binOp BinOp.eql 9 (Operand.tmp 104) (Operand.const (Value.string { data := #[] })) 9, type := 4, pos := "law.go:56", after := #[{ on := 12, ground := Ground.data }, { on := 7, ground := Ground.guard }], guard := some (7, true) }) (v := ?_) (by rfl) ?_ (fun wS hSw => ?_) ?_
          rotate_left
          · kernel_rfl
          · (try dsimp only at hSw); go_simp; (try with_reducible rfl)
          try simp only [Act.put, List.setIfInBounds_toArray, List.set_cons_zero, List.set_cons_succ]
          refine Reg.G_on (o := { dst := some 106, op := Op.binOp BinOp.eql 4 (Operand.tmp 103) (Operand.tmp 105) 4, type := 4, pos := "law.go:56", after := #[{ on := 11, ground := Ground.data }, { on := 13, ground := Ground.data }, { on := 7, ground := Ground.guard }], guard := some (7, true) }) (v := ?_) (by rfl) ?_ (fun wS hSw => ?_) ?_
          rotate_left
          · kernel_rfl
          · (try dsimp only at hSw); go_simp; (try with_reducible rfl)
          try simp only [Act.put, List.setIfInBounds_toArray, List.set_cons_zero, List.set_cons_succ]
          refine Reg.G_on (o := { dst := some 107, op := Op.pick (Operand.tmp 99) (Operand.tmp 106) (Operand.const (Value.bool false)), type := 4, pos := "law.go:56", after := #[{ on := 7, ground := Ground.data }, { on := 14, ground := Ground.data }], guard := Option.none }) (v := ?_) (by rfl) ?_ (fun wS hSw => ?_) ?_
          rotate_left
          · kernel_rfl
          · (try dsimp only at hSw); go_simp; (try with_reducible rfl)
          try simp only [Act.put, List.setIfInBounds_toArray, List.set_cons_zero, List.set_cons_succ]
          refine Reg.G_on (o := { dst := some 108, op := Op.move (Operand.tmp 107), type := 4, pos := "law.go:56", after := #[{ on := 15, ground := Ground.data }, { on := 7, ground := Ground.chain }], guard := Option.none }) (v := ?_) (by rfl) ?_ (fun wS hSw => ?_) ?_
          rotate_left
          · kernel_rfl
          · (try dsimp only at hSw); go_simp; (try with_reducible rfl)
          try simp only [Act.put, List.setIfInBounds_toArray, List.set_cons_zero, List.set_cons_succ]
          refine Reg.G_step (o := { dst := some 109, op := Op.call { callee := Callee.value (Operand.func 21), args := #[], argTypes := #[] }, type := 4, pos := "law.go:56", after := #[{ on := 16, ground := Ground.chain }, { on := 16, ground := Ground.guard }], guard := some (16, true) }) (by rfl) ?_ (fun K hK => ?_)
          · kernel_rfl
          go_simp
          refine (awake _).mono ?_
          rintro e w' ⟨rfl, hb⟩
          refine hK.out _ _ ?_ (fun hHeld => ?_)
          · exact ⟨hHeld.1.below hb, hHeld.2.1.below hb, cbel hb hHeld.2.2 hrl⟩
          clear hK K
          try simp only [Act.put, List.setIfInBounds_toArray, List.set_cons_zero, List.set_cons_succ]
          refine Reg.G_on (o := { dst := some 110, op := Op.pick (Operand.tmp 108) (Operand.tmp 109) (Operand.const (Value.bool false)), type := 4, pos := "law.go:56", after := #[{ on := 16, ground := Ground.data }, { on := 17, ground := Ground.data }], guard := Option.none }) (v := ?_) (by rfl) ?_ (fun wS hSw => ?_) ?_
          rotate_left
          · kernel_rfl
          · (try dsimp only at hSw); go_simp; (try with_reducible rfl)
          try simp only [Act.put, List.setIfInBounds_toArray, List.set_cons_zero, List.set_cons_succ]
          refine Reg.G_on (o := { dst := some 4, op := Op.assign (Operand.tmp 110), type := 4, pos := "law.go:56", after := #[{ on := 18, ground := Ground.data }, { on := 17, ground := Ground.chain }, { on := 0, ground := Ground.phase }, { on := 1, ground := Ground.phase }, { on := 2, ground := Ground.phase }, { on := 3, ground := Ground.phase }, { on := 4, ground := Ground.phase }, { on := 5, ground := Ground.phase }, { on := 6, ground := Ground.phase }, { on := 7, ground := Ground.phase }, { on := 8, ground := Ground.phase }, { on := 9, ground := Ground.phase }, { on := 10, ground := Ground.phase }, { on := 11, ground := Ground.phase }, { on := 12, ground := Ground.phase }, { on := 13, ground := Ground.phase }, { on := 14, ground := Ground.phase }, { on := 15, ground := Ground.phase }, { on := 16, ground := Ground.phase }, { on := 17, ground := Ground.phase }, { on := 18, ground := Ground.phase }], guard := Option.none }) (v := ?_) (by rfl) ?_ (fun wS hSw => ?_) ?_
          rotate_left
          · kernel_rfl
          · (try dsimp only at hSw); go_simp; (try with_reducible rfl)
          try simp only [Act.put, List.setIfInBounds_toArray, List.set_cons_zero, List.set_cons_succ]
          refine Reg.G_done ?_
          go_wp2
          go_ret
          exact ⟨rfl, bstep bb5 ((Below.refl w5.heap.size w5).drew.trans hb)⟩
end Go.Proofs.Ytjlgkebecpagjaa.Part
