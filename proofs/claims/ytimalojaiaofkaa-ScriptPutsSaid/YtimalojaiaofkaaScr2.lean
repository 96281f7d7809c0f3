import Derived.Test.YtimalojaiaofkaaScB
set_option linter.unusedVariables false
set_option linter.unusedSimpArgs false
namespace Go.Proofs.Ytimalojaiaofkaa.Scr
open Go.RowKit Base Sp Flat Go.Proofs.YtimalojaiaofkaaW.PrintWords Go.Proofs.YtimalojaiaofkaaW.PrintLast Go.Proofs.YtimalojaiaofkaaW.PrintMore Wd Buf Go.Proofs.Ytimalojaiaofkaa.PScriptPuts
theorem w_up {k n : Nat} (h : k < n) (h2 : n ≤ 2000) : wrap64 ((k : Int) + 1) = ((k + 1 : Nat) : Int) := by unfold wrap64; omega
theorem b3_ {n k j : Nat} (h : n ≤ k * 20000000 + 8 + j * 70000) (hk : k < 1024) (hj : j ≤ 255) : n ≤ (k + 1) * 20000000 := by omega
set_option maxRecDepth 20000 in
set_option maxHeartbeats 4000000 in
theorem put (A : Option Addr) (cap : Nat) (l : List S41) (w : World) (hS : Kd.C k41 w A l.length l) (hr : ∀ x ∈ l, ∀ a ∈ x.f0, -9223372036854775808 ≤ a.f1 ∧ a.f1 < 9223372036854775808) :
    Calls Try.prog 22 #[.slice A l.length cap] w fun e w' => e = .returned (.tuple #[.string (sput l).1, .int .i64 (sput l).2]) ∧ Below w.heap.size w w' := by
  by_cases h1 : 1024 < l.length
  · have HI : Hid (sput l = (⟨#[]⟩, 3)) := Lib.hid (by unfold sput; rw [if_pos h1])
    have q1 : (1024 : Int) < (l.length : Int) := by omega
    clear h1
    go_enter Try.func22, Try.ntmps22
    go_wp2
    go_ret2
    exact ⟨by rw [HI.out]; rfl, Below.refl _ _⟩
  · have HI : Hid (sput l = if sE l ≠ 0 then (⟨#[]⟩, sE l) else (tx (sL l), 0)) := Lib.hid (by unfold sput; rw [if_neg h1])
    have q1 : ¬ (1024 : Int) < (l.length : Int) := by omega
    have HLN : Hid (l.length ≤ 1024) := Lib.hid (by omega)
    have hs0 := sfresh w
    have b0 : Below w.heap.size w (w.alloc (.cells #[.pointer none, .slice none 0 0] 106)) := (Below.refl _ _).alloc (Nat.le_refl _) _
    have hso := Lib.hid (So.start l)
    clear h1
    go_enter Try.func22, Try.ntmps22
    go_wp2
    go_loopw [15] (fun i wr => ∃ (k : Nat) (L : List UInt8) (F : Nat → Prop), i = .int .i64 (k : Int) ∧ k ≤ l.length ∧ sB wr F w.heap.size L ∧ Hid (So l L (sL l) (sE l) k) ∧ Hid (L.length ≤ k * 20000000) ∧ Below w.heap.size w wr ∧ (∀ k, F k → w.heap.size ≤ k)) (fun i _ => (l.length - (intOf i).toNat))
    case atStart => exact ⟨0, [], _, rfl, Nat.zero_le _, hs0, hso, Lib.hid (Nat.le_refl _), b0, fun k hk => Nat.le_of_eq (id hk).symm⟩
    case round =>
      clear hs0 b0 hso
      obtain ⟨k, L, F, rfl, hkl, hB, hso, hbd, bb, hF⟩ := hrel
      have k0 : (0 : Int) ≤ (k : Int) := by omega
      by_cases hlt : k < l.length
      · have k2 : (k : Int) < (l.length : Int) := by omega
        obtain ⟨ad, A0, c0, rfl, hc, hlc, hA⟩ := at_T41 hS (k : Int) k0 k2
        rw [rd41 l k hlt] at hc hlc hA
        rw [Int.toNat_natCast] at hc
        replace hc := cbel bb hc (World.block_lt_of_cell? w _ hc)
        have hwk := w_up hlt (by have := HLN.out; omega)
        have hra := Lib.hid (hr _ (List.getElem_mem hlt))
        have hbad := Lib.hid (fun h0 => hso.out.bad hlt h0)
        have hok := Lib.hid (fun h0 => hso.out.ok hlt h0)
        have hte : Hid (tE l[k] = if 255 < l[k].f0.length then 3 else acE l[k].f0) := Lib.hid rfl
        have hms := Lib.hid (meas l.length k hlt)
        have hlt2 := Lib.hid hlt
        generalize l[k] = x at *
        obtain ⟨x⟩ := x
        dsimp only at hc hlc hA hra hbad hok hte
        have HS := Lib.hid hS
        have HR := Lib.hid hr
        have HLC := Lib.hid hlc
        clear hS hr hlc hlt hso hkl
        by_cases p1 : 255 < x.length
        · have q2 : (255 : Int) < (x.length : Int) := by omega
          have HJ : Hid (sput l = (⟨#[]⟩, 3)) := Lib.hid (by
            have ht := hte.out
            rw [if_pos p1] at ht
            have he := hbad.out (by rw [ht]; decide)
            rw [HI.out, ← he, ht, if_pos (by decide)])
          clear hA hra hbad hok hte p1
          have b5 : Below w.heap.size w (wr.alloc (.cells #[.slice A0 x.length c0] 41)) := bb.alloc bb.size _
          go_wp2
          go_ret2
          exact ⟨by rw [HJ.out]; rfl, b5⟩
        · have q2 : ¬ (255 : Int) < (x.length : Int) := by omega
          have hxl : Hid (x.length ≤ 255) := Lib.hid (by omega)
          have hte2 := Lib.hid (hte.out.trans (if_neg p1))
          have b5 : Below wr.heap.size wr (wr.alloc (.cells #[.slice A0 x.length c0] 41)) := (Below.refl _ _).alloc (Nat.le_refl _) _
          have g5 : (wr.alloc (.cells #[.slice A0 x.length c0] 41)).heap[wr.heap.size]? = some (.cells #[.slice A0 x.length c0] 41 (0, 0)) := heap_alloc_new _ _
          have bb5 := bstep bb b5
          have hB5 := hB.below b5
          have hN := number F w.heap.size L (x.length : Int) 1 _ hB5 (by decide) (by have := hbd.out; have := HLN.out; have := hlt2.out; omega)
          have nF : ¬ F wr.heap.size := fun hh => Nat.lt_irrefl _ (hB.lt _ hh)
          clear hte p1 hB
          go_wp2_with fail
          refine hN.mono ?_
          rintro e w2 ⟨rfl, F2, h2, m2, g2⟩
          have gg2 := (m2.block _ (blk_lt g5) nF).trans g5
          have cc2 : w2.cell? ⟨wr.heap.size, 0, none⟩ = some (.slice A0 x.length c0) := blk_cell gg2 0
          have bb2 := m2.below bb5 bb5.size hF
          have hF2 : ∀ k, F2 k → w.heap.size ≤ k := grow_up g2 hF bb5.size
          have hb2 : Hid ((L ++ nbl (x.length : Int) 1).length ≤ k * 20000000 + 8) := Lib.hid (by have := hbd.out; have := nbl_len (x.length : Int) 1 (by decide); rw [List.length_append]; omega)
          clear hN m2 g2 g5 gg2 b5 hB5 bb5 hF nF bb hbd
          clear hms
          go_wp2
          go_loopw [30] (fun i w3 => ∃ (j : Nat) (L3 : List UInt8) (F3 : Nat → Prop), i = .int .i64 (j : Int) ∧ j ≤ x.length ∧ sB w3 F3 w.heap.size L3 ∧ Hid (St x L3 (L ++ nbl (x.length : Int) 1 ++ acL x) (acE x) j) ∧ Hid (L3.length ≤ k * 20000000 + 8 + j * 70000) ∧ Below w.heap.size w w3 ∧ (∀ k, F3 k → w.heap.size ≤ k)) (fun i _ => (x.length - (intOf i).toNat))
          case atStart => exact ⟨0, _, _, rfl, Nat.zero_le _, h2, Lib.hid (St.start x _), Lib.hid (by have := hb2.out; omega), bb2, hF2⟩
          case round =>
            rename World => w3
            clear cc2 h2 bb2 hF2 hb2
            obtain ⟨j, L3, F3, rfl, hjl, hB3, hst, hb3, bb3, hF3⟩ := hrel
            have j0 : (0 : Int) ≤ (j : Int) := by omega
            by_cases hjt : j < x.length
            · have j2 : (j : Int) < (x.length : Int) := by omega
              obtain ⟨ad2, rfl, d0, d1, d2⟩ := at_T43 (Kd.C_below hA bb3) (j : Int) j0 j2
              rw [rd43 x j hjt] at d0 d1 d2
              rw [Int.toNat_natCast] at d0 d1 d2
              have hwj := w_up hjt (by have := hxl.out; omega)
              have hra2 := hra.out _ (List.getElem_mem hjt)
              have hbad2 := Lib.hid (fun h0 => hst.out.bad hjt h0)
              have hok2 := Lib.hid (fun h0 => hst.out.ok hjt h0)
              have hal := Lib.hid (fun (h0 : ae x[j] = 0) => al_len h0)
              have hms2 := Lib.hid (meas x.length j hjt)
              have hjt2 := Lib.hid hjt
              generalize x[j] = a at *
              obtain ⟨a0, a1, a2⟩ := a
              dsimp only [ae, al] at d0 d1 d2 hra2 hbad2 hok2 hal
              have b6 : Below w3.heap.size w3 (w3.alloc (.cells #[.int .i64 a0, .int .i64 a1, .string a2] 43)) := (Below.refl _ _).alloc (Nat.le_refl _) _
              have bb6 := bstep bb3 b6
              have hAct := act F3 w.heap.size L3 a0 a1 a2 _ (hB3.below b6) (by have := hb3.out; have := hxl.out; have := hlt2.out; have := HLN.out; have := hjt2.out; omega) hra2.1 hra2.2
              unfold Act1 at hAct
              have HA := Lib.hid hA
              clear hA hjl hjt hra2 hB3 b6
              generalize actE a0 a1 a2 = q at *
              go_wp2_with fail
              refine hAct.mono ?_
              rintro e w4 ⟨rfl, F4, h4, m4, g4⟩
              have bb4 := m4.below bb6 bb6.size hF3
              have hF4 : ∀ k, F4 k → w.heap.size ≤ k := grow_up g4 hF3 bb6.size
              clear hAct m4 g4 bb6 hF3 bb3 d0 d1 d2
              by_cases hq : q = 0
              · subst hq
                rw [if_neg (fun h => h rfl)] at h4
                have hl4 : Hid ((L3 ++ abl a0 a1 a2).length ≤ k * 20000000 + 8 + (j + 1) * 70000) := Lib.hid (by rw [List.length_append]; exact addm hb3.out (hal.out rfl))
                have hst4 := Lib.hid (hok2.out rfl)
                clear hb3 hbad2 hok2 hal hst
                go_wp2
                exact ⟨⟨j + 1, _, F4, rfl, hjt2.out, h4, hst4, hl4, bb4, hF4⟩, meas x.length j hjt2.out⟩
              · have qq : (q != 0) = true := by simpa using hq
                have HJ : Hid (sput l = (⟨#[]⟩, q)) := Lib.hid (by
                  have h7 := hbad2.out hq
                  have h8 := hte2.out
                  rw [← h7] at h8
                  have h9 := hbad.out (by rw [h8]; exact hq)
                  rw [HI.out, ← h9, h8, if_pos hq])
                clear hbad2 hok2 hal hst h4 hb3 hq
                go_wp2
                go_ret2
                exact ⟨by rw [HJ.out]; rfl, bb4⟩
            · have hj : j = x.length := by omega
              subst hj
              have hE := hst.out.fin
              have hl4 : Hid (L3.length ≤ (k + 1) * 20000000) := Lib.hid (b3_ hb3.out (by have := HLN.out; have := hlt2.out; omega) hxl.out)
              have hso4 : Hid (So l L3 (sL l) (sE l) (k + 1)) := Lib.hid (by rw [hE.1]; exact hok.out (by rw [hte2.out]; exact hE.2))
              clear hE hst hb3 hjt hjl
              go_wp2
              exact ⟨⟨k + 1, L3, F3, rfl, hlt2.out, hB3, hso4, hl4, bb3, hF3⟩, meas l.length k hlt2.out⟩
      · have hk : k = l.length := by omega
        subst hk
        have hE := hso.out.fin
        have HJ : Hid (sput l = (tx L, 0)) := Lib.hid (by rw [HI.out, hE.2, if_neg (fun h => h rfl), hE.1])
        have hT := sstring F w.heap.size L wr hB
        clear hE hso hbd hB hS hr hlt hkl
        go_wp2_with fail
        refine hT.mono ?_
        rintro e w2 ⟨rfl, _, m2⟩
        have bb2 := m2.below bb bb.size hF
        clear hT
        go_wp2
        go_ret2
        exact ⟨by rw [HJ.out]; rfl, bb2⟩
end Go.Proofs.Ytimalojaiaofkaa.Scr
