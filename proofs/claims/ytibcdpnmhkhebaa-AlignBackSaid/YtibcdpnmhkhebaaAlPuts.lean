import Derived.Test.YtibcdpnmhkhebaaAlRef
set_option linter.unusedVariables false
set_option linter.unusedSimpArgs false
namespace Go.Proofs.Ytibcdpnmhkhebaa.Al
open Go.RowKit Base Sp Flat Go.Proofs.YtibcdpnmhkhebaaW.PrintWords Go.Proofs.YtibcdpnmhkhebaaW.PrintLast Wd Buf
theorem pto_len (l : List UInt8) (n s : Int) : (pto l n s).length ≤ l.length + 15 := by
  unfold pto
  split
  · rename_i hc
    have hs8 : s ≤ 8 := by
      unfold pcode at hc
      split at hc
      · rename_i h
        have := sz_cases h
        omega
      · cases hc
    have hG := gapv_le l.length s
    have hnl := nbytes_len n s
    unfold pbytes
    rw [List.length_append, List.length_append, List.length_replicate]
    omega
  · omega
/-- A part: is it plain, its number, size, text. -/
def kp : Kd (Bool × Int × Int × ByteArray) := Kd.pair Kd.bool (Kd.pair (Kd.int .u64) (Kd.pair (Kd.int .i64) Kd.string))
theorem part_cells {w : World} {A : Option Addr} {l : List (Bool × Int × Int × ByteArray)} (h : Kd.C kp w A l.length l) (i : Nat) (hi : i < l.length) :
    ∃ ad : Addr, A = some ad ∧ w.cell? (ad.add (i * 4)) = some (.bool l[i].1) ∧ w.cell? ⟨(ad.add (i * 4)).block, (ad.add (i * 4)).off + 1, none⟩ = some (.int .u64 l[i].2.1) ∧
      w.cell? ⟨(ad.add (i * 4)).block, (ad.add (i * 4)).off + 2, none⟩ = some (.int .i64 l[i].2.2.1) ∧ w.cell? ⟨(ad.add (i * 4)).block, (ad.add (i * 4)).off + 3, none⟩ = some (.string l[i].2.2.2) := by
  obtain ⟨ad, c, e, _, hK, hc0⟩ := Kd.C_get h (false, 0, 0, ByteArray.empty) (i : Int) (by omega) (by omega)
  rw [Int.toNat_natCast] at hc0 hK
  have hc : ∀ j u, c[j]? = some u → w.cell? (ad.add (i * 4 + j)) = some u := hc0
  have hx : l.getD i (false, 0, 0, ByteArray.empty) = l[i] := by rw [List.getD_eq_getElem?_getD, List.getElem?_eq_getElem hi]; rfl
  rw [hx] at hK
  obtain ⟨_, _, rfl, rfl, _, _, rfl, rfl, _, _, rfl, rfl, rfl⟩ := hK
  exact ⟨ad, e, hc 0 _ rfl, by rw [← add_field _ _ 1 (by omega)]; exact hc 1 _ rfl, by rw [← add_field _ _ 2 (by omega)]; exact hc 2 _ rfl, by rw [← add_field _ _ 3 (by omega)]; exact hc 3 _ rfl⟩
set_option maxRecDepth 20000 in
theorem awake (w : World) : Calls Try.prog 50 #[] w fun e w' => e = .returned (.bool true) ∧ Below w.heap.size w w' := by
  go_enter Try.func50, Try.ntmps50
  go_wp2_with fail
  refine (Buf.new w).mono ?_
  rintro e w1 ⟨rfl, h1, b1⟩
  have hp := put_good (fun k => k = w.heap.size) w.heap.size [] 1 1 w1 h1 (by decide) (by decide) (by decide) (by kernel_rfl)
  rw [show pbytes [] 1 1 = [1] from by kernel_rfl] at hp
  go_wp2_with fail
  refine hp.mono ?_
  rintro e w2 ⟨rfl, F2, h2, m2, g2⟩
  have hp2 := put_good F2 w.heap.size [1] 2 4 w2 h2 (by decide) (by decide) (by decide) (by kernel_rfl)
  rw [show pbytes [1] 2 4 = [1, 0, 0, 0, 2, 0, 0, 0] from by kernel_rfl] at hp2
  have b2 := m2.below b1 b1.size (fun k hk => by rw [show k = w.heap.size from hk]; exact Nat.le_refl _)
  have hF2 : ∀ k, F2 k → w.heap.size ≤ k := fun k hk => (g2 k hk).elim (fun h => by rw [show k = w.heap.size from h]; exact Nat.le_refl _) (fun h => Nat.le_trans b1.size h)
  clear hp h1 b1 h2 m2 g2
  go_wp2_with fail
  refine hp2.mono ?_
  rintro e w3 ⟨rfl, F3, h3, m3, g3⟩
  have b3 := m3.below b2 b2.size hF2
  have hF3 : ∀ k, F3 k → w.heap.size ≤ k := fun k hk => (g3 k hk).elim (hF2 k) (fun h => Nat.le_trans b2.size h)
  clear hp2 b2 m3 g3 hF2
  go_wp2_with fail
  refine (Buf.bytes F3 w.heap.size _ w3 h3).mono ?_
  rintro e w4 ⟨rfl, h4, m4⟩
  have b4 := m4.below b3 b3.size hF3
  clear h3 b3 m4 hF3
  go_wp2_with fail
  refine (Buf.len_ F3 w.heap.size _ w4 h4).mono ?_
  rintro e w5 ⟨rfl, rfl⟩
  go_wp2
  go_ret
  exact ⟨rfl, b4⟩
theorem abytes (F : Nat → Prop) (b : Nat) (l : List UInt8) (w : World) (h : BB w F b l) : Calls Try.prog 56 #[.pointer (some ⟨b, 0, none⟩)] w fun e w' => e = .returned (.string (tx l)) ∧ BB w' F b l ∧ Mod F w w' := Buf.bytes F b l w h
theorem alen (F : Nat → Prop) (b : Nat) (l : List UInt8) (w : World) (h : BB w F b l) : Calls Try.prog 55 #[.pointer (some ⟨b, 0, none⟩)] w fun e w' => e = .returned (.int .i64 ((tx l).size : Int)) ∧ w = w' := Buf.len_ F b l w h
set_option maxRecDepth 20000 in
set_option maxHeartbeats 4000000 in
theorem puts (A : Option Addr) (c : Nat) (l : List (Bool × Int × Int × ByteArray)) (at_ s : Int) (w : World) (hC : Kd.C kp w A l.length l) (hn : ∀ x ∈ l, 0 ≤ x.2.1 ∧ x.2.1 < 18446744073709551616) (h0 : -9223372036854775808 ≤ at_) (h1 : at_ < 9223372036854775808) :
    Calls Try.prog 11 #[.slice A l.length c, .int .i64 at_, .int .i64 s] w fun e w' => e = .returned (.bool true) ∧ Below w.heap.size w w' := by
  have HN := Lib.hid hn
  have HG := fun w => Al.gap at_ s h0 h1 w
  clear hn h0 h1
  by_cases hbig : 200 < l.length
  · go_enter Try.func11, Try.ntmps11
    go_wp2_with fail
    refine (awake _).mono ?_
    rintro e w' ⟨rfl, hb⟩
    go_wp2
    go_ret
    exact ⟨rfl, hb⟩
  · go_enter Try.func11, Try.ntmps11
    go_wp2_with fail
    refine (Buf.new w).mono ?_
    rintro e w1 ⟨rfl, n1, b1⟩
    go_wp2
    go_loopw [8, 9] (fun v i wr => ∃ (k : Nat) (L : List UInt8) (F : Nat → Prop), k ≤ l.length ∧ v = .string (tx L) ∧ i = .int .i64 (k : Int) ∧ BB wr F w.heap.size L ∧ (∀ k, F k → w.heap.size ≤ k) ∧ L.length ≤ k * 400 ∧ Below w.heap.size w wr) (fun _ i _ => (l.length - (intOf i).toNat))
    case atStart => exact ⟨0, [], _, by omega, rfl, rfl, n1, fun k hk => by rw [show k = w.heap.size from hk]; exact Nat.le_refl _, by simp, b1⟩
    case round =>
      clear n1 b1
      obtain ⟨k, L, F, hk, rfl, rfl, HB, HF, hL, bb⟩ := hrel
      have k0 : (0 : Int) ≤ (k : Int) := by omega
      by_cases hlt : k < l.length
      · have k2 : (k : Int) < (l.length : Int) := by omega
        obtain ⟨ad, rfl, c0, c1, c2, c3⟩ := part_cells (Kd.C_below hC bb) k hlt
        obtain ⟨_, ea, ca, _⟩ := part_cells hC k hlt
        obtain rfl := Option.some.inj ea
        have hal := World.block_lt_of_cell? w _ ca
        have HX := Lib.hid (HN.out _ (List.getElem_mem hlt))
        clear ca
        generalize l[k] = x at *
        obtain ⟨x0, x1, x2, x3⟩ := x
        dsimp only at c0 c1 c2 c3 HX
        have hHL := Lib.hid hL
        clear hL
        by_cases hbg : 300 < x3.size
        · go_wp2_with fail
          refine (awake _).mono ?_
          rintro e w' ⟨rfl, hb⟩
          go_wp2
          go_ret
          exact ⟨rfl, bstep bb hb⟩
        · have hb2 : ¬ ((300 : Int) < (x3.size : Int)) := by omega
          cases x0 with
          | true =>
            have hT := Buf.text F w.heap.size L x3 wr HB (by have := hHL.out; omega)
            go_wp2_with fail
            refine hT.mono ?_
            rintro e W ⟨rfl, F2, HB2, m2, g2⟩
            have c3 := argc m2 HF hal c3
            have HF2 := grow_up g2 HF bb.size
            have bb := m2.below bb bb.size HF
            have hL2 : (L ++ x3.data.toList).length ≤ (k + 1) * 400 := by
              have := hHL.out
              rw [List.length_append]
              show L.length + x3.size ≤ _
              omega
            have hcat : ¬ ((9223372036854775807 : Int) < ((tx L).size : Int) + (x3.size : Int)) := by
              have := hHL.out
              rw [tx_size]
              omega
            have hA : tx L ++ x3 = tx (L ++ x3.data.toList) := (tx_app L x3.data.toList).symm
            have hHL2 := Lib.hid hL2
            clear hL2 hT m2 g2 hHL
            generalize L ++ x3.data.toList = L2 at *
            have HB := HB2
            have HF := HF2
            have hlen := alen F2 w.heap.size L2 W HB
            have hbytes := abytes F2 w.heap.size L2 W HB
            go_wp2_with fail
            refine hlen.mono ?_
            rintro e wx ⟨rfl, rfl⟩
            clear hlen
            go_wp2_with fail
            refine hbytes.mono ?_
            rintro e wx ⟨rfl, hx, mx⟩
            have bx := mx.below bb bb.size HF
            clear hbytes mx bb HB
            go_wp2
            go_roundw
            case rel => exact ⟨k + 1, L2, F2, by omega, rfl, by go_num, hx, HF, hHL2.out, bx⟩
            case measure => simp [intOf]; omega
          | false =>
            have hR := fun W => rput2 L x1 x2 (by have := hHL.out; omega) HX.out.1 HX.out.2 W
            have hP := fun W h => aput F w.heap.size L x1 x2 W h (by have := hHL.out; omega) HX.out.1 HX.out.2
            have hpl := pto_len L x1 x2
            have hL2 : (pto L x1 x2).length ≤ (k + 1) * 400 := by
              have := hHL.out
              omega
            have hHL2 := Lib.hid hL2
            clear hL2 hHL hpl
            generalize pto L x1 x2 = L2 at *
            generalize pcode x1 x2 = q at *
            go_wp2_with fail
            refine Reg.wp_plan (S := fun w' => w'.cell? ⟨(ad.add (k * 4)).block, (ad.add (k * 4)).off + 1, none⟩ = some (.int .u64 x1) ∧ w'.cell? ⟨(ad.add (k * 4)).block, (ad.add (k * 4)).off + 2, none⟩ = some (.int .i64 x2)) 17 (.fl 0 (.fl 1 (.fl 2 (.fl 3 (.fl 4 (.fl 5 (.fl 6 (.fl 7 (.fl 8 (.fl 9 (.fl 10 (.one 11 (.fl 12 (.fl 13 (.fl 14 (.fl 15 (.fl 16 .done))))))))))))))))) (by kernel_rfl) (by kernel_rfl) (by kernel_rfl) (by kernel_rfl) (fun _ _ _ d _ h => by cases d <;> exact h) ?_ (fun hHeld => ?_)
            · exact ⟨by simpa using c1, by simpa using c2⟩
            refine Reg.G_on (o := { dst := some 51, op := Op.move (Operand.tmp 8), type := 9, pos := "law.go:41", after := #[], guard := Option.none }) (v := ?_) (by rfl) ?_ (fun wS hSw => ?_) ?_
            rotate_left
            · kernel_rfl
            · (try dsimp only at hSw); go_simp; (try with_reducible rfl)
            try simp only [Act.put, List.setIfInBounds_toArray, List.set_cons_zero, List.set_cons_succ]
            refine Reg.G_on (o := { dst := some 52, op := Op.move (Operand.tmp 0), type := 67, pos := "law.go:41", after := #[], guard := Option.none }) (v := ?_) (by rfl) ?_ (fun wS hSw => ?_) ?_
            rotate_left
            · kernel_rfl
            · (try dsimp only at hSw); go_simp; (try with_reducible rfl)
            try simp only [Act.put, List.setIfInBounds_toArray, List.set_cons_zero, List.set_cons_succ]
            refine Reg.G_on (o := { dst := some 53, op := Op.move (Operand.tmp 9), type := 3, pos := "law.go:41", after := #[], guard := Option.none }) (v := ?_) (by rfl) ?_ (fun wS hSw => ?_) ?_
            rotate_left
            · kernel_rfl
            · (try dsimp only at hSw); go_simp; (try with_reducible rfl)
            try simp only [Act.put, List.setIfInBounds_toArray, List.set_cons_zero, List.set_cons_succ]
            refine Reg.G_on (o := { dst := some 54, op := Op.indexAddr 67 (Operand.tmp 52) (Operand.tmp 53), type := 0, pos := "law.go:41", after := #[{ on := 1, ground := Ground.data }, { on := 2, ground := Ground.data }], guard := Option.none }) (v := ?_) (by rfl) ?_ (fun wS hSw => ?_) ?_
            rotate_left
            · kernel_rfl
            · (try dsimp only at hSw); go_simp; (try with_reducible rfl)
            try simp only [Act.put, List.setIfInBounds_toArray, List.set_cons_zero, List.set_cons_succ]
            refine Reg.G_on (o := { dst := some 55, op := Op.fieldAddr 71 (Operand.tmp 54) 1, type := 0, pos := "law.go:41", after := #[{ on := 3, ground := Ground.data }], guard := Option.none }) (v := ?_) (by rfl) ?_ (fun wS hSw => ?_) ?_
            rotate_left
            · kernel_rfl
            · (try dsimp only at hSw); go_simp; (try with_reducible rfl)
            try simp only [Act.put, List.setIfInBounds_toArray, List.set_cons_zero, List.set_cons_succ]
            refine Reg.G_on (o := { dst := some 56, op := Op.load 22 (Operand.tmp 55), type := 22, pos := "law.go:41", after := #[{ on := 4, ground := Ground.data }], guard := Option.none }) (v := ?_) (by rfl) ?_ (fun wS hSw => ?_) ?_
            rotate_left
            · kernel_rfl
            · (try dsimp only at hSw); go_simp; (try with_reducible rfl)
            try simp only [Act.put, List.setIfInBounds_toArray, List.set_cons_zero, List.set_cons_succ]
            refine Reg.G_on (o := { dst := some 57, op := Op.move (Operand.tmp 0), type := 67, pos := "law.go:41", after := #[], guard := Option.none }) (v := ?_) (by rfl) ?_ (fun wS hSw => ?_) ?_
            rotate_left
            · kernel_rfl
            · (try dsimp only at hSw); go_simp; (try with_reducible rfl)
            try simp only [Act.put, List.setIfInBounds_toArray, List.set_cons_zero, List.set_cons_succ]
            refine Reg.G_on (o := { dst := some 58, op := Op.move (Operand.tmp 9), type := 3, pos := "law.go:41", after := #[], guard := Option.none }) (v := ?_) (by rfl) ?_ (fun wS hSw => ?_) ?_
            rotate_left
            · kernel_rfl
            · (try dsimp only at hSw); go_simp; (try with_reducible rfl)
            try simp only [Act.put, List.setIfInBounds_toArray, List.set_cons_zero, List.set_cons_succ]
            refine Reg.G_on (o := { dst := some 59, op := Op.indexAddr 67 (Operand.tmp 57) (Operand.tmp 58), type := 0, pos := "law.go:41", after := #[{ on := 6, ground := Ground.data }, { on := 7, ground := Ground.data }], guard := Option.none }) (v := ?_) (by rfl) ?_ (fun wS hSw => ?_) ?_
            rotate_left
            · kernel_rfl
            · (try dsimp only at hSw); go_simp; (try with_reducible rfl)
            try simp only [Act.put, List.setIfInBounds_toArray, List.set_cons_zero, List.set_cons_succ]
            refine Reg.G_on (o := { dst := some 60, op := Op.fieldAddr 71 (Operand.tmp 59) 2, type := 0, pos := "law.go:41", after := #[{ on := 8, ground := Ground.data }], guard := Option.none }) (v := ?_) (by rfl) ?_ (fun wS hSw => ?_) ?_
            rotate_left
            · kernel_rfl
            · (try dsimp only at hSw); go_simp; (try with_reducible rfl)
            try simp only [Act.put, List.setIfInBounds_toArray, List.set_cons_zero, List.set_cons_succ]
            refine Reg.G_on (o := { dst := some 61, op := Op.load 3 (Operand.tmp 60), type := 3, pos := "law.go:41", after := #[{ on := 9, ground := Ground.data }], guard := Option.none }) (v := ?_) (by rfl) ?_ (fun wS hSw => ?_) ?_
            rotate_left
            · kernel_rfl
            · (try dsimp only at hSw); go_simp; (try with_reducible rfl)
            try simp only [Act.put, List.setIfInBounds_toArray, List.set_cons_zero, List.set_cons_succ]
            refine Reg.G_step (o := { dst := some 62, op := Op.call { callee := Callee.value (Operand.func 53), args := #[Operand.tmp 51, Operand.tmp 56, Operand.tmp 61], argTypes := #[9, 22, 3] }, type := 74, pos := "law.go:41", after := #[{ on := 0, ground := Ground.data }, { on := 5, ground := Ground.data }, { on := 10, ground := Ground.data }], guard := Option.none }) (by rfl) ?_ (fun K hK => ?_)
            · kernel_rfl
            go_simp
            refine (hR _).mono ?_
            rintro e w' ⟨rfl, hb⟩
            refine hK.out _ _ ?_ (fun hHeld => ?_)
            · exact ⟨argb hb hHeld.1, argb hb hHeld.2⟩
            clear hK K
            try simp only [Act.put, List.setIfInBounds_toArray, List.set_cons_zero, List.set_cons_succ]
            refine Reg.G_on (o := { dst := some 50, op := Op.move (Operand.tmp 62), type := 74, pos := "law.go:41", after := #[{ on := 11, ground := Ground.data }], guard := Option.none }) (v := ?_) (by rfl) ?_ (fun wS hSw => ?_) ?_
            rotate_left
            · kernel_rfl
            · (try dsimp only at hSw); go_simp; (try with_reducible rfl)
            try simp only [Act.put, List.setIfInBounds_toArray, List.set_cons_zero, List.set_cons_succ]
            refine Reg.G_on (o := { dst := some 63, op := Op.extract (Operand.tmp 50) 0, type := 9, pos := "law.go:41", after := #[{ on := 12, ground := Ground.data }], guard := Option.none }) (v := ?_) (by rfl) ?_ (fun wS hSw => ?_) ?_
            rotate_left
            · kernel_rfl
            · (try dsimp only at hSw); go_simp; (try with_reducible rfl)
            try simp only [Act.put, List.setIfInBounds_toArray, List.set_cons_zero, List.set_cons_succ]
            refine Reg.G_on (o := { dst := some 64, op := Op.extract (Operand.tmp 50) 1, type := 73, pos := "law.go:41", after := #[{ on := 12, ground := Ground.data }, { on := 15, ground := Ground.gcOnly Departure.lateStores }], guard := Option.none }) (v := ?_) (by rfl) ?_ (fun wS hSw => ?_) ?_
            rotate_left
            · kernel_rfl
            · (try dsimp only at hSw); go_simp; (try with_reducible rfl)
            try simp only [Act.put, List.setIfInBounds_toArray, List.set_cons_zero, List.set_cons_succ]
            refine Reg.G_on (o := { dst := some 10, op := Op.assign (Operand.tmp 63), type := 9, pos := "law.go:41", after := #[{ on := 13, ground := Ground.data }, { on := 11, ground := Ground.chain }, { on := 0, ground := Ground.phase }, { on := 1, ground := Ground.phase }, { on := 2, ground := Ground.phase }, { on := 3, ground := Ground.phase }, { on := 4, ground := Ground.phase }, { on := 5, ground := Ground.phase }, { on := 6, ground := Ground.phase }, { on := 7, ground := Ground.phase }, { on := 8, ground := Ground.phase }, { on := 9, ground := Ground.phase }, { on := 10, ground := Ground.phase }, { on := 11, ground := Ground.phase }, { on := 12, ground := Ground.phase }, { on := 13, ground := Ground.phase }, { on := 14, ground := Ground.textOnly Departure.lateStores }], guard := Option.none }) (v := ?_) (by rfl) ?_ (fun wS hSw => ?_) ?_
            rotate_left
            · kernel_rfl
            · (try dsimp only at hSw); go_simp; (try with_reducible rfl)
            try simp only [Act.put, List.setIfInBounds_toArray, List.set_cons_zero, List.set_cons_succ]
            refine Reg.G_on (o := { dst := some 11, op := Op.assign (Operand.tmp 64), type := 73, pos := "law.go:41", after := #[{ on := 14, ground := Ground.data }, { on := 15, ground := Ground.chain }, { on := 0, ground := Ground.phase }, { on := 1, ground := Ground.phase }, { on := 2, ground := Ground.phase }, { on := 3, ground := Ground.phase }, { on := 4, ground := Ground.phase }, { on := 5, ground := Ground.phase }, { on := 6, ground := Ground.phase }, { on := 7, ground := Ground.phase }, { on := 8, ground := Ground.phase }, { on := 9, ground := Ground.phase }, { on := 10, ground := Ground.phase }, { on := 11, ground := Ground.phase }, { on := 12, ground := Ground.phase }, { on := 13, ground := Ground.phase }, { on := 14, ground := Ground.phase }, { on := 15, ground := Ground.phase }], guard := Option.none }) (v := ?_) (by rfl) ?_ (fun wS hSw => ?_) ?_
            rotate_left
            · kernel_rfl
            · (try dsimp only at hSw); go_simp; (try with_reducible rfl)
            try simp only [Act.put, List.setIfInBounds_toArray, List.set_cons_zero, List.set_cons_succ]
            refine Reg.G_done ?_
            have hb := (Below.refl wr.heap.size wr).drew.trans hb
            have c1 := argb hb c1
            have c2 := argb hb c2
            have HB := HB.below hb
            have bb := bstep bb hb
            clear hHeld hb hR c0 c3
            rename World => W1
            go_wp2_with fail
            refine Reg.wp_plan (S := fun w' => w'.cell? ⟨(ad.add (k * 4)).block, (ad.add (k * 4)).off + 1, none⟩ = some (.int .u64 x1) ∧ w'.cell? ⟨(ad.add (k * 4)).block, (ad.add (k * 4)).off + 2, none⟩ = some (.int .i64 x2)) 14 (.fl 0 (.fl 1 (.fl 2 (.fl 3 (.fl 4 (.fl 5 (.fl 6 (.fl 7 (.fl 8 (.fl 9 (.fl 10 (.fl 12 (.one 11 (.fl 13 .done)))))))))))))) (by kernel_rfl) (by kernel_rfl) (by kernel_rfl) (by kernel_rfl) (fun _ _ _ d _ h => by cases d <;> exact h) ?_ (fun hHeld => ?_)
            · exact ⟨by simpa using c1, by simpa using c2⟩
            refine Reg.G_on (o := { dst := some 66, op := Op.move (Operand.tmp 7), type := 68, pos := "law.go:43", after := #[], guard := Option.none }) (v := ?_) (by rfl) ?_ (fun wS hSw => ?_) ?_
            rotate_left
            · kernel_rfl
            · (try dsimp only at hSw); go_simp; (try with_reducible rfl)
            try simp only [Act.put, List.setIfInBounds_toArray, List.set_cons_zero, List.set_cons_succ]
            refine Reg.G_on (o := { dst := some 67, op := Op.move (Operand.tmp 0), type := 67, pos := "law.go:43", after := #[], guard := Option.none }) (v := ?_) (by rfl) ?_ (fun wS hSw => ?_) ?_
            rotate_left
            · kernel_rfl
            · (try dsimp only at hSw); go_simp; (try with_reducible rfl)
            try simp only [Act.put, List.setIfInBounds_toArray, List.set_cons_zero, List.set_cons_succ]
            refine Reg.G_on (o := { dst := some 68, op := Op.move (Operand.tmp 9), type := 3, pos := "law.go:43", after := #[], guard := Option.none }) (v := ?_) (by rfl) ?_ (fun wS hSw => ?_) ?_
            rotate_left
            · kernel_rfl
            · (try dsimp only at hSw); go_simp; (try with_reducible rfl)
            try simp only [Act.put, List.setIfInBounds_toArray, List.set_cons_zero, List.set_cons_succ]
            refine Reg.G_on (o := { dst := some 69, op := Op.indexAddr 67 (Operand.tmp 67) (Operand.tmp 68), type := 0, pos := "law.go:43", after := #[{ on := 1, ground := Ground.data }, { on := 2, ground := Ground.data }], guard := Option.none }) (v := ?_) (by rfl) ?_ (fun wS hSw => ?_) ?_
            rotate_left
            · kernel_rfl
            · (try dsimp only at hSw); go_simp; (try with_reducible rfl)
            try simp only [Act.put, List.setIfInBounds_toArray, List.set_cons_zero, List.set_cons_succ]
            refine Reg.G_on (o := { dst := some 70, op := Op.fieldAddr 71 (Operand.tmp 69) 1, type := 0, pos := "law.go:43", after := #[{ on := 3, ground := Ground.data }], guard := Option.none }) (v := ?_) (by rfl) ?_ (fun wS hSw => ?_) ?_
            rotate_left
            · kernel_rfl
            · (try dsimp only at hSw); go_simp; (try with_reducible rfl)
            try simp only [Act.put, List.setIfInBounds_toArray, List.set_cons_zero, List.set_cons_succ]
            refine Reg.G_on (o := { dst := some 71, op := Op.load 22 (Operand.tmp 70), type := 22, pos := "law.go:43", after := #[{ on := 4, ground := Ground.data }], guard := Option.none }) (v := ?_) (by rfl) ?_ (fun wS hSw => ?_) ?_
            rotate_left
            · kernel_rfl
            · (try dsimp only at hSw); go_simp; (try with_reducible rfl)
            try simp only [Act.put, List.setIfInBounds_toArray, List.set_cons_zero, List.set_cons_succ]
            refine Reg.G_on (o := { dst := some 72, op := Op.move (Operand.tmp 0), type := 67, pos := "law.go:43", after := #[], guard := Option.none }) (v := ?_) (by rfl) ?_ (fun wS hSw => ?_) ?_
            rotate_left
            · kernel_rfl
            · (try dsimp only at hSw); go_simp; (try with_reducible rfl)
            try simp only [Act.put, List.setIfInBounds_toArray, List.set_cons_zero, List.set_cons_succ]
            refine Reg.G_on (o := { dst := some 73, op := Op.move (Operand.tmp 9), type := 3, pos := "law.go:43", after := #[], guard := Option.none }) (v := ?_) (by rfl) ?_ (fun wS hSw => ?_) ?_
            rotate_left
            · kernel_rfl
            · (try dsimp only at hSw); go_simp; (try with_reducible rfl)
            try simp only [Act.put, List.setIfInBounds_toArray, List.set_cons_zero, List.set_cons_succ]
            refine Reg.G_on (o := { dst := some 74, op := Op.indexAddr 67 (Operand.tmp 72) (Operand.tmp 73), type := 0, pos := "law.go:43", after := #[{ on := 6, ground := Ground.data }, { on := 7, ground := Ground.data }], guard := Option.none }) (v := ?_) (by rfl) ?_ (fun wS hSw => ?_) ?_
            rotate_left
            · kernel_rfl
            · (try dsimp only at hSw); go_simp; (try with_reducible rfl)
            try simp only [Act.put, List.setIfInBounds_toArray, List.set_cons_zero, List.set_cons_succ]
            refine Reg.G_on (o := { dst := some 75, op := Op.fieldAddr 71 (Operand.tmp 74) 2, type := 0, pos := "law.go:43", after := #[{ on := 8, ground := Ground.data }], guard := Option.none }) (v := ?_) (by rfl) ?_ (fun wS hSw => ?_) ?_
            rotate_left
            · kernel_rfl
            · (try dsimp only at hSw); go_simp; (try with_reducible rfl)
            try simp only [Act.put, List.setIfInBounds_toArray, List.set_cons_zero, List.set_cons_succ]
            refine Reg.G_on (o := { dst := some 76, op := Op.load 3 (Operand.tmp 75), type := 3, pos := "law.go:43", after := #[{ on := 9, ground := Ground.data }], guard := Option.none }) (v := ?_) (by rfl) ?_ (fun wS hSw => ?_) ?_
            rotate_left
            · kernel_rfl
            · (try dsimp only at hSw); go_simp; (try with_reducible rfl)
            try simp only [Act.put, List.setIfInBounds_toArray, List.set_cons_zero, List.set_cons_succ]
            refine Reg.G_on (o := { dst := some 78, op := Op.move (Operand.tmp 11), type := 73, pos := "law.go:43", after := #[], guard := Option.none }) (v := ?_) (by rfl) ?_ (fun wS hSw => ?_) ?_
            rotate_left
            · kernel_rfl
            · (try dsimp only at hSw); go_simp; (try with_reducible rfl)
            try simp only [Act.put, List.setIfInBounds_toArray, List.set_cons_zero, List.set_cons_succ]
            refine Reg.G_step (o := { dst := some 77, op := Op.call { callee := Callee.value (Operand.func 54), args := #[Operand.tmp 66, Operand.tmp 71, Operand.tmp 76], argTypes := #[68, 22, 3] }, type := 73, pos := "law.go:43", after := #[{ on := 0, ground := Ground.data }, { on := 5, ground := Ground.data }, { on := 10, ground := Ground.data }], guard := Option.none }) (by rfl) ?_ (fun K hK => ?_)
            · kernel_rfl
            go_simp
            refine (hP W1.drew HB.drew).mono ?_
            rintro e w' ⟨rfl, F2, HB2, mp, g2⟩
            refine hK.out _ _ ?_ (fun hHeld => ?_)
            · exact ⟨argc mp HF hal hHeld.1, argc mp HF hal hHeld.2⟩
            clear hK K
            try simp only [Act.put, List.setIfInBounds_toArray, List.set_cons_zero, List.set_cons_succ]
            rename World => W
            have m2 := ((Mod.refl F W1).drew).trans mp (fun k hk => .inl hk)
            have HF2 := grow_up g2 HF bb.size
            have bb := m2.below bb bb.size HF
            have HB := HB2
            have HF := HF2
            clear hHeld hP m2 g2 mp c1 c2
            refine Reg.G_on (o := { dst := some 79, op := Op.binOp BinOp.neq 73 (Operand.tmp 77) (Operand.tmp 78) 73, type := 4, pos := "law.go:43", after := #[{ on := 11, ground := Ground.data }, { on := 12, ground := Ground.data }], guard := Option.none }) (v := ?_) (by rfl) ?_ (fun wS hSw => ?_) ?_
            rotate_left
            · kernel_rfl
            · (try dsimp only at hSw); go_simp; (try with_reducible rfl)
            try simp only [Act.put, List.setIfInBounds_toArray, List.set_cons_zero, List.set_cons_succ]
            refine Reg.G_done ?_
            have hlen := alen F2 w.heap.size L2 W HB
            have hbytes := abytes F2 w.heap.size L2 W HB
            go_wp2_with fail
            refine hlen.mono ?_
            rintro e wx ⟨rfl, rfl⟩
            clear hlen
            go_wp2_with fail
            refine hbytes.mono ?_
            rintro e wx ⟨rfl, hx, mx⟩
            have bx := mx.below bb bb.size HF
            clear hbytes mx bb HB
            go_wp2
            go_roundw
            case rel => exact ⟨k + 1, L2, F2, by omega, rfl, by go_num, hx, HF, hHL2.out, bx⟩
            case measure => simp [intOf]; omega
      · have hk2 : ¬ ((k : Int) < (l.length : Int)) := by omega
        go_wp2_with fail
        refine (HG _).mono ?_
        rintro e w2 ⟨rfl, b2⟩
        go_wp2_with fail
        refine (RGapAlignPuts.rgap at_ s _).mono ?_
        rintro e w3 ⟨rfl, b3⟩
        go_wp2_with fail
        refine (awake _).mono ?_
        rintro e w4 ⟨rfl, b4⟩
        go_wp2
        go_ret
        exact ⟨rfl, bstep (bstep (bstep bb b2) b3) b4⟩
end Go.Proofs.Ytibcdpnmhkhebaa.Al
