import Derived.Test.YtjlgkebecpagjaaPart4
set_option linter.unusedVariables false
set_option linter.unusedSimpArgs false
namespace Go.Proofs.Ytjlgkebecpagjaa.Part
open Go.RowKit Base Sp Flat Go.Proofs.YtjlgkebecpagjaaW.PrintWords Go.Lib
/-- A step: its kind, and how many actions. -/
def ks : Kd (Int × Int) := Kd.pair (Kd.int .i64) (Kd.int .i64)
theorem step_cells {w : World} {A : Option Addr} {l : List (Int × Int)} (h : Kd.C ks w A l.length l) (i : Nat) (hi : i < l.length) :
    ∃ ad : Addr, A = some ad ∧ w.cell? (ad.add (i * 2)) = some (.int .i64 l[i].1) ∧ w.cell? ⟨(ad.add (i * 2)).block, (ad.add (i * 2)).off + 1, none⟩ = some (.int .i64 l[i].2) := by
  obtain ⟨ad, c, e, _, hK, hc0⟩ := Kd.C_get h (0, 0) (i : Int) (by omega) (by omega)
  rw [Int.toNat_natCast] at hc0 hK
  have hc : ∀ j u, c[j]? = some u → w.cell? (ad.add (i * 2 + j)) = some u := hc0
  have hx : l.getD i (0, 0) = l[i] := by rw [List.getD_eq_getElem?_getD, List.getElem?_eq_getElem hi]; rfl
  rw [hx] at hK
  obtain ⟨_, _, rfl, rfl, rfl⟩ := hK
  exact ⟨ad, e, hc 0 _ rfl, by rw [← add_field _ _ 1 (by omega)]; exact hc 1 _ rfl⟩
/-- What PartEnds knows: v actions may be left, u faults were; the partition has f, l, s, of q faults. -/
structure Kn (k : Nat) (q v u f l : Int) (s : Bool) : Prop where
  v0 : 0 ≤ v
  vb : v < 9223372036854775808
  lv : l ≤ v
  l0 : 0 ≤ l
  u0 : 0 ≤ u
  uk : u ≤ k
  f0 : 0 ≤ f
  fu : f ≤ u
  st : s = decide (q < u)
  s1 : s = true → l = 0 ∧ f = q + 1
  s0 : s = false → f = u
theorem Kn.start (q : Int) (hq : 0 ≤ q) : Kn 0 q 0 0 0 0 false := ⟨by omega, by omega, by omega, by omega, by omega, by omega, by omega, by omega, (decide_eq_false (by omega)).symm, fun h => by simp at h, fun _ => rfl⟩
theorem Kn.window {k : Nat} {q v u f l : Int} {s : Bool} (h : Kn k q v u f l s) (n : Int) (hn : n < 9223372036854775808) : Kn (k + 1) q (mx n) u f (bl s n) s := by
  have h1 := mx_ge n
  have h2 := mx_lt n hn
  obtain ⟨a1, a2, a3, a4, a5, a6, a7, a8, a9, a10, a11⟩ := h
  refine ⟨h1, h2, ?_, ?_, a5, by omega, a7, a8, a9, fun e => ⟨?_, (a10 e).2⟩, a11⟩
  · cases s <;> simp [bl, h1]
  · cases s <;> simp [bl, h1]
  · rw [e]; rfl
theorem Kn.may {k : Nat} {q v u f l : Int} {s : Bool} (h : Kn k q v u f l s) (hl : l ≠ 0) : Kn (k + 1) q (v - 1) u f (ol l) s := by
  obtain ⟨a1, a2, a3, a4, a5, a6, a7, a8, a9, a10, a11⟩ := h
  rw [show ol l = l - 1 from if_neg hl]
  exact ⟨by omega, by omega, by omega, by omega, a5, by omega, a7, a8, a9, fun e => absurd (a10 e).1 hl, a11⟩
theorem Kn.not {k : Nat} {q v u f l : Int} {s : Bool} (h : Kn k q v u f l s) (hl : l = 0) : Kn (k + 1) q v u f (ol l) s := by
  obtain ⟨a1, a2, a3, a4, a5, a6, a7, a8, a9, a10, a11⟩ := h
  rw [show ol l = 0 from if_pos hl]
  exact ⟨a1, a2, a1, by omega, a5, by omega, a7, a8, a9, fun e => ⟨rfl, (a10 e).2⟩, a11⟩
theorem Kn.fault {k : Nat} {q v u f l : Int} {s : Bool} (h : Kn k q v u f l s) : Kn (k + 1) q 0 (u + 1) (ef s f) (el s l) (es s q f) := by
  obtain ⟨a1, a2, a3, a4, a5, a6, a7, a8, a9, a10, a11⟩ := h
  cases s with
  | true =>
    have h1 : q < u := by simpa using a9
    obtain ⟨h2, h3⟩ := a10 rfl
    exact ⟨by omega, by omega, by show l ≤ 0; omega, a4, by omega, by omega, a7, by show f ≤ u + 1; omega, by show true = _; rw [decide_eq_true (by omega : q < u + 1)], fun _ => ⟨h2, h3⟩, fun e => by cases e⟩
  | false =>
    have h1 : ¬ q < u := by simpa using a9
    have h2 := a11 rfl
    subst h2
    refine ⟨by omega, by omega, by show (0 : Int) ≤ 0; omega, by show (0 : Int) ≤ 0; omega, by omega, by omega, by show 0 ≤ f + 1; omega, by show f + 1 ≤ f + 1; omega, by show (false || _) = _; rfl, fun e => ⟨rfl, ?_⟩, fun _ => rfl⟩
    have e : decide (q < f + 1) = true := e
    have e := of_decide_eq_true e
    show f + 1 = q + 1
    omega
set_option maxRecDepth 20000 in
set_option maxHeartbeats 4000000 in
theorem ends (nm : ByteArray) (lv ct mm ff : Int) (A : Option Addr) (c : Nat) (l : List (Int × Int)) (w : World) (hC : Kd.C ks w A l.length l) (hff : ff < 9223372036854775808) (hn : ∀ x ∈ l, x.2 < 9223372036854775808) :
    Calls Try.prog 4 #[.agg #[.string nm, .int .i64 lv, .int .u64 ct, .int .i64 mm, .int .i64 ff], .slice A l.length c] w fun e w' => e = .returned (.bool true) ∧ Below w.heap.size w w' := by
  have HN := Lib.hid hn
  have HF := Lib.hid (mx_lt ff hff)
  clear hn hff
  obtain ⟨W0, hW0⟩ : ∃ W0, W0 = w.alloc (.cells #[.string nm, .int .i64 lv, .int .u64 ct, .int .i64 mm, .int .i64 ff] 33) := ⟨_, rfl⟩
  have b0 : Below w.heap.size w W0 := by rw [hW0]; exact (Below.refl _ _).alloc (Nat.le_refl _) _
  by_cases hbig : 300 < l.length
  · go_enter Try.func4, Try.ntmps4
    go_wp2_with fail
    rw [← hW0]
    refine (awake _).mono ?_
    rintro e w' ⟨rfl, hb⟩
    go_wp2
    go_ret
    exact ⟨rfl, bstep b0 hb⟩
  · have s0 : w.heap.size < W0.heap.size := by rw [hW0]; simp
    have e0 : W0.cell? ⟨w.heap.size, 0, none⟩ = some (.string nm) := by rw [hW0]; simp
    have e1 : W0.cell? ⟨w.heap.size, 1, none⟩ = some (.int .i64 lv) := by rw [hW0]; simp
    have e2 : W0.cell? ⟨w.heap.size, 2, none⟩ = some (.int .u64 ct) := by rw [hW0]; simp
    have e3 : W0.cell? ⟨w.heap.size, 3, none⟩ = some (.int .i64 mm) := by rw [hW0]; simp
    have e4 : W0.cell? ⟨w.heap.size, 4, none⟩ = some (.int .i64 ff) := by rw [hW0]; simp
    go_enter Try.func4, Try.ntmps4
    go_wp2_with fail
    rw [← hW0]
    clear hW0
    refine (new nm lv ct mm ff W0).mono ?_
    rintro e w1 ⟨b, g, F, rfl, p1, -, -, -, hb, b1⟩
    have bb := bstep b0 b1
    have hb2 : w.heap.size < b := by omega
    have hA : ∀ k, At b k → w.heap.size ≤ k := fun k hk => by
      have hk : k = b := hk
      omega
    have hNA : ¬ At b w.heap.size := fun h => by
      have h : w.heap.size = b := h
      omega
    have e4 := cbel b1 e4 s0
    have hsz := Nat.lt_of_lt_of_le s0 b1.size
    have HQ := Lib.hid (mx_ge ff)
    obtain ⟨q, hq⟩ : ∃ q, mx ff = q := ⟨_, rfl⟩
    rw [hq] at p1 HF HQ
    have hq2 : (if ff < 0 then 0 else ff) = q := hq
    clear hq e0 e1 e2 e3 b1 b0 s0 hb
    go_wp2
    go_loopw [6, 7, 8] (fun vv uu i wr => ∃ (k : Nat) (v u f m : Int) (s : Bool), k ≤ l.length ∧ vv = .int .i64 v ∧ uu = .int .i64 u ∧ i = .int .i64 (k : Int) ∧ PB wr b f m s (.pointer (some ⟨g, 0, none⟩)) q ∧ Kn k q v u f m s ∧ wr.cell? ⟨w.heap.size, 4, none⟩ = some (.int .i64 ff) ∧ Below w.heap.size w wr ∧ w.heap.size < wr.heap.size) (fun _ _ i _ => (l.length - (intOf i).toNat))
    case atStart => exact ⟨0, 0, 0, 0, 0, false, by omega, rfl, rfl, rfl, p1, Kn.start q HQ.out, e4, bb, hsz⟩
    case round =>
      clear p1 e4 bb hsz
      obtain ⟨k, v, u, f, m, s, hk, rfl, rfl, rfl, p1, K1, e4, bb, hsz⟩ := hrel
      have k0 : (0 : Int) ≤ (k : Int) := by omega
      by_cases hlt : k < l.length
      · have k2 : (k : Int) < (l.length : Int) := by omega
        obtain ⟨ad, rfl, c0, c1⟩ := step_cells (Kd.C_below hC bb) k hlt
        obtain ⟨_, ea, ca, cb⟩ := step_cells hC k hlt
        obtain rfl := Option.some.inj ea
        have hal := World.block_lt_of_cell? w _ ca
        have HX := Lib.hid (HN.out _ (List.getElem_mem hlt))
        clear ca cb
        generalize l[k] = x at *
        obtain ⟨yk, n⟩ := x
        dsimp only at c0 c1
        have gv1 := K1.v0
        have gv2 := K1.vb
        have gu1 := K1.u0
        have gu2 := K1.uk
        by_cases h1 : yk = 1
        · subst h1
          go_wp2_with fail
          refine (window b _ _ _ _ _ n wr p1).mono ?_
          rintro e wa ⟨rfl, pa, ma⟩
          have ba := ma.below bb (Nat.le_of_lt hsz) hA
          have e4 := ma.cell e4 hNA
          have c0 := ma.cell c0 (fun h => by have h : (ad.add (k * 2)).block = b := h; omega)
          have c1 := ma.cell c1 (fun h => by have h : (ad.add (k * 2)).block = b := h; omega)
          have ha := ma.size
          have K2 := K1.window n HX.out
          obtain ⟨n2, hn2⟩ : ∃ n2, mx n = n2 := ⟨_, rfl⟩
          rw [hn2] at K2
          have hn3 : (if n < 0 then 0 else n) = n2 := hn2
          clear hn2 gv1 gv2
          clear K1 p1 ma HX bb
          have hsz2 : w.heap.size < wa.heap.size := Nat.lt_of_lt_of_le hsz ha
          have hKn := Lib.hid K2
          obtain ⟨a1, a2, a3, a4, a5, a6, a7, a8, a9, a10, a11⟩ := K2
          have hS := state b _ _ _ _ _ wa pa
          have pk := fun (w' : World) (h : Below wa.heap.size wa w') => pa.below h
          clear pa
          have d1 : decide (n2 < 0) = false := decide_eq_false (by omega)
          generalize hl2 : (bl s n) = l2 at *
          generalize hs2 : s = s2 at *
          generalize hf2 : f = f2 at *
          generalize hu2 : u = u2 at *
          clear hl2 hs2 hf2 hu2
          have d2 : decide (n2 < l2) = false := decide_eq_false (by omega)
          cases s2 with
          | true =>
            obtain ⟨rfl, rfl⟩ := a10 rfl
            have d3 : decide (q < u2) = true := a9.symm
            have hw : IntKind.i64.wrap (q + 1) = q + 1 := wrapi64 (by have := HQ.out; omega) (by have := HQ.out; have := of_decide_eq_true d3; omega)
            clear a9 a10 a11
            go_wp2_with fail
            refine hS.mono ?_
            rintro e wb ⟨rfl, bs⟩
            have e4 : (wb.alloc (.cells #[.int .i64 (q + 1), .int .i64 0, .bool true] 41)).cell? ⟨w.heap.size, 4, none⟩ = some (.int .i64 ff) := cbel ((Below.refl _ _).alloc (Nat.le_refl _) _) (cbel bs e4 hsz2) (Nat.lt_of_lt_of_le hsz2 bs.size)
            have p3 := (pk _ bs).below ((Below.refl _ _).alloc (Nat.le_refl _) (.cells #[.int .i64 (q + 1), .int .i64 0, .bool true] 41))
            have b3 := bstep (bstep ba bs) ((Below.refl _ _).alloc (Nat.le_refl _) (.cells #[.int .i64 (q + 1), .int .i64 0, .bool true] 41))
            have h3 := Nat.lt_of_lt_of_le hsz2 ((Below.refl wa.heap.size wa).trans (bs.alloc bs.size (.cells #[.int .i64 (q + 1), .int .i64 0, .bool true] 41))).size
            clear bs ba
            go_wp2
            go_roundw
            case rel => exact ⟨k + 1, _, u2, _, _, _, by omega, rfl, rfl, by go_num, p3, hKn.out, e4, b3, h3⟩
            case measure => simp [intOf]; omega
          | false =>
            obtain rfl := a11 rfl
            have d3 : decide (q < f2) = false := a9.symm
            clear a9 a10 a11
            go_wp2_with fail
            refine hS.mono ?_
            rintro e wb ⟨rfl, bs⟩
            have e4 : (wb.alloc (.cells #[.int .i64 f2, .int .i64 l2, .bool false] 41)).cell? ⟨w.heap.size, 4, none⟩ = some (.int .i64 ff) := cbel ((Below.refl _ _).alloc (Nat.le_refl _) _) (cbel bs e4 hsz2) (Nat.lt_of_lt_of_le hsz2 bs.size)
            have p3 := (pk _ bs).below ((Below.refl _ _).alloc (Nat.le_refl _) (.cells #[.int .i64 f2, .int .i64 l2, .bool false] 41))
            have b3 := bstep (bstep ba bs) ((Below.refl _ _).alloc (Nat.le_refl _) (.cells #[.int .i64 f2, .int .i64 l2, .bool false] 41))
            have h3 := Nat.lt_of_lt_of_le hsz2 ((Below.refl wa.heap.size wa).trans (bs.alloc bs.size (.cells #[.int .i64 f2, .int .i64 l2, .bool false] 41))).size
            clear bs ba
            go_wp2
            go_roundw
            case rel => exact ⟨k + 1, _, f2, _, _, _, by omega, rfl, rfl, by go_num, p3, hKn.out, e4, b3, h3⟩
            case measure => simp [intOf]; omega
        · have h1b : (yk == 1) = false := by simpa using h1
          by_cases h2 : yk = 2
          · subst h2
            have hm := may b _ _ _ _ _ wr p1 K1.l0 (by have := K1.lv; omega)
            by_cases hm0 : m = 0
            · rw [show (m != 0) = false from by simpa using hm0] at hm
              go_wp2_with fail
              refine hm.mono ?_
              rintro e wa ⟨rfl, pa, ma⟩
              have ba := ma.below bb (Nat.le_of_lt hsz) hA
              have e4 := ma.cell e4 hNA
              have ha := ma.size
              have K2 := K1.not hm0
              clear K1 p1 ma HX bb gv1 gv2 hm hm0
              have hsz2 : w.heap.size < wa.heap.size := Nat.lt_of_lt_of_le hsz ha
              have hKn := Lib.hid K2
              obtain ⟨a1, a2, a3, a4, a5, a6, a7, a8, a9, a10, a11⟩ := K2
              have hS := state b _ _ _ _ _ wa pa
              have pk := fun (w' : World) (h : Below wa.heap.size wa w') => pa.below h
              clear pa
              have d1 : decide (v < 0) = false := decide_eq_false (by omega)
              generalize hl2 : (ol m) = l2 at *
              generalize hs2 : s = s2 at *
              generalize hf2 : f = f2 at *
              generalize hu2 : u = u2 at *
              clear hl2 hs2 hf2 hu2
              have d2 : decide (v < l2) = false := decide_eq_false (by omega)
              cases s2 with
              | true =>
                obtain ⟨rfl, rfl⟩ := a10 rfl
                have d3 : decide (q < u2) = true := a9.symm
                have hw : IntKind.i64.wrap (q + 1) = q + 1 := wrapi64 (by have := HQ.out; omega) (by have := HQ.out; have := of_decide_eq_true d3; omega)
                clear a9 a10 a11
                go_wp2_with fail
                refine hS.mono ?_
                rintro e wb ⟨rfl, bs⟩
                have e4 : (wb.alloc (.cells #[.int .i64 (q + 1), .int .i64 0, .bool true] 41)).cell? ⟨w.heap.size, 4, none⟩ = some (.int .i64 ff) := cbel ((Below.refl _ _).alloc (Nat.le_refl _) _) (cbel bs e4 hsz2) (Nat.lt_of_lt_of_le hsz2 bs.size)
                have p3 := (pk _ bs).below ((Below.refl _ _).alloc (Nat.le_refl _) (.cells #[.int .i64 (q + 1), .int .i64 0, .bool true] 41))
                have b3 := bstep (bstep ba bs) ((Below.refl _ _).alloc (Nat.le_refl _) (.cells #[.int .i64 (q + 1), .int .i64 0, .bool true] 41))
                have h3 := Nat.lt_of_lt_of_le hsz2 ((Below.refl wa.heap.size wa).trans (bs.alloc bs.size (.cells #[.int .i64 (q + 1), .int .i64 0, .bool true] 41))).size
                clear bs ba
                go_wp2
                go_roundw
                case rel => exact ⟨k + 1, _, u2, _, _, _, by omega, rfl, rfl, by go_num, p3, hKn.out, e4, b3, h3⟩
                case measure => simp [intOf]; omega
              | false =>
                obtain rfl := a11 rfl
                have d3 : decide (q < f2) = false := a9.symm
                clear a9 a10 a11
                go_wp2_with fail
                refine hS.mono ?_
                rintro e wb ⟨rfl, bs⟩
                have e4 : (wb.alloc (.cells #[.int .i64 f2, .int .i64 l2, .bool false] 41)).cell? ⟨w.heap.size, 4, none⟩ = some (.int .i64 ff) := cbel ((Below.refl _ _).alloc (Nat.le_refl _) _) (cbel bs e4 hsz2) (Nat.lt_of_lt_of_le hsz2 bs.size)
                have p3 := (pk _ bs).below ((Below.refl _ _).alloc (Nat.le_refl _) (.cells #[.int .i64 f2, .int .i64 l2, .bool false] 41))
                have b3 := bstep (bstep ba bs) ((Below.refl _ _).alloc (Nat.le_refl _) (.cells #[.int .i64 f2, .int .i64 l2, .bool false] 41))
                have h3 := Nat.lt_of_lt_of_le hsz2 ((Below.refl wa.heap.size wa).trans (bs.alloc bs.size (.cells #[.int .i64 f2, .int .i64 l2, .bool false] 41))).size
                clear bs ba
                go_wp2
                go_roundw
                case rel => exact ⟨k + 1, _, f2, _, _, _, by omega, rfl, rfl, by go_num, p3, hKn.out, e4, b3, h3⟩
                case measure => simp [intOf]; omega
            · rw [show (m != 0) = true from by simpa using hm0] at hm
              obtain ⟨vv, hvv⟩ : ∃ vv, v - 1 = vv := ⟨_, rfl⟩
              have hw2 : IntKind.i64.wrap (v - 1) = vv := by rw [← hvv]; exact wrapi64 (by omega) (by omega)
              have hw3 : wrap64 (v - 1) = vv := by unfold wrap64; omega
              have K2 := K1.may hm0
              rw [hvv] at K2
              clear hvv
              go_wp2_with fail
              refine hm.mono ?_
              rintro e wa ⟨rfl, pa, ma⟩
              have ba := ma.below bb (Nat.le_of_lt hsz) hA
              have e4 := ma.cell e4 hNA
              have ha := ma.size
              clear K1 p1 ma HX bb gv1 gv2 hm hm0
              have hsz2 : w.heap.size < wa.heap.size := Nat.lt_of_lt_of_le hsz ha
              have hKn := Lib.hid K2
              obtain ⟨a1, a2, a3, a4, a5, a6, a7, a8, a9, a10, a11⟩ := K2
              have hS := state b _ _ _ _ _ wa pa
              have pk := fun (w' : World) (h : Below wa.heap.size wa w') => pa.below h
              clear pa
              have d1 : decide (vv < 0) = false := decide_eq_false (by omega)
              generalize hl2 : (ol m) = l2 at *
              generalize hs2 : s = s2 at *
              generalize hf2 : f = f2 at *
              generalize hu2 : u = u2 at *
              clear hl2 hs2 hf2 hu2
              have d2 : decide (vv < l2) = false := decide_eq_false (by omega)
              cases s2 with
              | true =>
                obtain ⟨rfl, rfl⟩ := a10 rfl
                have d3 : decide (q < u2) = true := a9.symm
                have hw : IntKind.i64.wrap (q + 1) = q + 1 := wrapi64 (by have := HQ.out; omega) (by have := HQ.out; have := of_decide_eq_true d3; omega)
                clear a9 a10 a11
                go_wp2_with fail
                refine hS.mono ?_
                rintro e wb ⟨rfl, bs⟩
                have e4 : (wb.alloc (.cells #[.int .i64 (q + 1), .int .i64 0, .bool true] 41)).cell? ⟨w.heap.size, 4, none⟩ = some (.int .i64 ff) := cbel ((Below.refl _ _).alloc (Nat.le_refl _) _) (cbel bs e4 hsz2) (Nat.lt_of_lt_of_le hsz2 bs.size)
                have p3 := (pk _ bs).below ((Below.refl _ _).alloc (Nat.le_refl _) (.cells #[.int .i64 (q + 1), .int .i64 0, .bool true] 41))
                have b3 := bstep (bstep ba bs) ((Below.refl _ _).alloc (Nat.le_refl _) (.cells #[.int .i64 (q + 1), .int .i64 0, .bool true] 41))
                have h3 := Nat.lt_of_lt_of_le hsz2 ((Below.refl wa.heap.size wa).trans (bs.alloc bs.size (.cells #[.int .i64 (q + 1), .int .i64 0, .bool true] 41))).size
                clear bs ba
                go_wp2
                go_roundw
                case rel => exact ⟨k + 1, _, u2, _, _, _, by omega, rfl, rfl, by go_num, p3, hKn.out, e4, b3, h3⟩
                case measure => simp [intOf]; omega
              | false =>
                obtain rfl := a11 rfl
                have d3 : decide (q < f2) = false := a9.symm
                clear a9 a10 a11
                go_wp2_with fail
                refine hS.mono ?_
                rintro e wb ⟨rfl, bs⟩
                have e4 : (wb.alloc (.cells #[.int .i64 f2, .int .i64 l2, .bool false] 41)).cell? ⟨w.heap.size, 4, none⟩ = some (.int .i64 ff) := cbel ((Below.refl _ _).alloc (Nat.le_refl _) _) (cbel bs e4 hsz2) (Nat.lt_of_lt_of_le hsz2 bs.size)
                have p3 := (pk _ bs).below ((Below.refl _ _).alloc (Nat.le_refl _) (.cells #[.int .i64 f2, .int .i64 l2, .bool false] 41))
                have b3 := bstep (bstep ba bs) ((Below.refl _ _).alloc (Nat.le_refl _) (.cells #[.int .i64 f2, .int .i64 l2, .bool false] 41))
                have h3 := Nat.lt_of_lt_of_le hsz2 ((Below.refl wa.heap.size wa).trans (bs.alloc bs.size (.cells #[.int .i64 f2, .int .i64 l2, .bool false] 41))).size
                clear bs ba
                go_wp2
                go_roundw
                case rel => exact ⟨k + 1, _, f2, _, _, _, by omega, rfl, rfl, by go_num, p3, hKn.out, e4, b3, h3⟩
                case measure => simp [intOf]; omega
          · have h2b : (yk == 2) = false := by simpa using h2
            obtain ⟨uu, huu⟩ : ∃ uu, u + 1 = uu := ⟨_, rfl⟩
            have hw2 : IntKind.i64.wrap (u + 1) = uu := by rw [← huu]; exact wrapi64 (by omega) (by omega)
            have hw3 : wrap64 (u + 1) = uu := by unfold wrap64; omega
            have K2 := K1.fault
            rw [huu] at K2
            clear huu
            have hm := fault b _ _ _ _ _ wr p1 K1.f0 (by have := K1.fu; omega)
            go_wp2_with fail
            refine hm.mono ?_
            rintro e wa ⟨rfl, pa, ma⟩
            have ba := ma.below bb (Nat.le_of_lt hsz) hA
            have e4 := ma.cell e4 hNA
            have ha := ma.size
            clear K1 p1 ma HX bb gv1 gv2 hm
            have hsz2 : w.heap.size < wa.heap.size := Nat.lt_of_lt_of_le hsz ha
            have hKn := Lib.hid K2
            obtain ⟨a1, a2, a3, a4, a5, a6, a7, a8, a9, a10, a11⟩ := K2
            have hS := state b _ _ _ _ _ wa pa
            have pk := fun (w' : World) (h : Below wa.heap.size wa w') => pa.below h
            clear pa
            have d1 : decide ((0 : Int) < 0) = false := decide_eq_false (by omega)
            generalize hl2 : (el s m) = l2 at *
            generalize hs2 : (es s q f) = s2 at *
            generalize hf2 : (ef s f) = f2 at *
            generalize hu2 : uu = u2 at *
            clear hl2 hs2 hf2 hu2
            have d2 : decide ((0 : Int) < l2) = false := decide_eq_false (by omega)
            cases s2 with
            | true =>
              obtain ⟨rfl, rfl⟩ := a10 rfl
              have d3 : decide (q < u2) = true := a9.symm
              have hw : IntKind.i64.wrap (q + 1) = q + 1 := wrapi64 (by have := HQ.out; omega) (by have := HQ.out; have := of_decide_eq_true d3; omega)
              clear a9 a10 a11
              go_wp2_with fail
              refine hS.mono ?_
              rintro e wb ⟨rfl, bs⟩
              have e4 : (wb.alloc (.cells #[.int .i64 (q + 1), .int .i64 0, .bool true] 41)).cell? ⟨w.heap.size, 4, none⟩ = some (.int .i64 ff) := cbel ((Below.refl _ _).alloc (Nat.le_refl _) _) (cbel bs e4 hsz2) (Nat.lt_of_lt_of_le hsz2 bs.size)
              have p3 := (pk _ bs).below ((Below.refl _ _).alloc (Nat.le_refl _) (.cells #[.int .i64 (q + 1), .int .i64 0, .bool true] 41))
              have b3 := bstep (bstep ba bs) ((Below.refl _ _).alloc (Nat.le_refl _) (.cells #[.int .i64 (q + 1), .int .i64 0, .bool true] 41))
              have h3 := Nat.lt_of_lt_of_le hsz2 ((Below.refl wa.heap.size wa).trans (bs.alloc bs.size (.cells #[.int .i64 (q + 1), .int .i64 0, .bool true] 41))).size
              clear bs ba
              go_wp2
              go_roundw
              case rel => exact ⟨k + 1, _, u2, _, _, _, by omega, rfl, rfl, by go_num, p3, hKn.out, e4, b3, h3⟩
              case measure => simp [intOf]; omega
            | false =>
              obtain rfl := a11 rfl
              have d3 : decide (q < f2) = false := a9.symm
              clear a9 a10 a11
              go_wp2_with fail
              refine hS.mono ?_
              rintro e wb ⟨rfl, bs⟩
              have e4 : (wb.alloc (.cells #[.int .i64 f2, .int .i64 l2, .bool false] 41)).cell? ⟨w.heap.size, 4, none⟩ = some (.int .i64 ff) := cbel ((Below.refl _ _).alloc (Nat.le_refl _) _) (cbel bs e4 hsz2) (Nat.lt_of_lt_of_le hsz2 bs.size)
              have p3 := (pk _ bs).below ((Below.refl _ _).alloc (Nat.le_refl _) (.cells #[.int .i64 f2, .int .i64 l2, .bool false] 41))
              have b3 := bstep (bstep ba bs) ((Below.refl _ _).alloc (Nat.le_refl _) (.cells #[.int .i64 f2, .int .i64 l2, .bool false] 41))
              have h3 := Nat.lt_of_lt_of_le hsz2 ((Below.refl wa.heap.size wa).trans (bs.alloc bs.size (.cells #[.int .i64 f2, .int .i64 l2, .bool false] 41))).size
              clear bs ba
              go_wp2
              go_roundw
              case rel => exact ⟨k + 1, _, f2, _, _, _, by omega, rfl, rfl, by go_num, p3, hKn.out, e4, b3, h3⟩
              case measure => simp [intOf]; omega
      · have hk2 : ¬ ((k : Int) < (l.length : Int)) := by omega
        go_wp2_with fail
        refine (awake _).mono ?_
        rintro e w' ⟨rfl, hb⟩
        go_wp2
        go_ret
        exact ⟨rfl, bstep bb hb⟩
end Go.Proofs.Ytjlgkebecpagjaa.Part
