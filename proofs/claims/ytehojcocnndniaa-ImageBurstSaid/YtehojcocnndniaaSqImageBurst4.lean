import Derived.Test.YtehojcocnndniaaWWords
import Derived.Test.YtehojcocnndniaaSqImageBurst3
set_option linter.unusedVariables false
set_option linter.unusedSimpArgs false
namespace Go.Proofs.Ytehojcocnndniaa.Img
open Go.RowKit Base Sp Flat Go.Proofs.YtehojcocnndniaaW.PrintWords Go.Proofs.YtehojcocnndniaaW.PrintLast Go.Proofs.YtehojcocnndniaaW.PrintMore Wd Al Buf Cur
/-- The bytes from a place on, k of them changed. -/
def hit (l : List UInt8) (p : Nat) (f : Nat → UInt8) : Nat → List UInt8
  | 0 => l
  | k + 1 => (hit l p f k).set (p + k) ((hit l p f k).getD (p + k) 0 ^^^ f k)
theorem hit_len (l : List UInt8) (p : Nat) (f : Nat → UInt8) (k : Nat) : (hit l p f k).length = l.length := by
  induction k with
  | zero => rfl
  | succ k ih => rw [hit, List.length_set, ih]
theorem hit_far (l : List UInt8) (p : Nat) (f : Nat → UInt8) (k m : Nat) (h : m < p ∨ p + k ≤ m) : (hit l p f k)[m]? = l[m]? := by
  induction k with
  | zero => rfl
  | succ k ih => rw [hit, List.getElem?_set_ne (by omega), ih (by omega)]
/-- What was hit is an image only if it is as it was. -/
theorem hit_key {l : List (Int × ByteArray)} {s : ByteArray} (hl : l.length ≤ 1000) (hs : ipt l = (s, 0)) (p k : Nat) (f : Nat → UInt8) (hk : k ≤ 4) :
    ((⟨(hit s.data.toList p f k).toArray⟩ : ByteArray).toList == s.toList) = ((itk ⟨(hit s.data.toList p f k).toArray⟩).2 == 0) := by
  by_cases he : (⟨(hit s.data.toList p f k).toArray⟩ : ByteArray) = s
  · rw [he, (put_take hl hs).1]
    simp
  · have h1 : ((⟨(hit s.data.toList p f k).toArray⟩ : ByteArray).toList == s.toList) = false := by
      refine beq_eq_false_iff_ne.2 fun hh => he ?_
      rw [ByteArray.toList_eq, ByteArray.toList_eq] at hh
      exact ByteArray.ext (Array.toList_inj.1 hh)
    have h2 : (itk ⟨(hit s.data.toList p f k).toArray⟩).2 ≠ 0 := by
      intro h0
      refine he (burst_no (m := (itk ⟨(hit s.data.toList p f k).toArray⟩).1) hs (by rw [← h0]) p ?_ (fun i hi => ?_)).symm
      · show (hit s.data.toList p f k).toArray.size = s.size
        rw [List.size_toArray, hit_len]
        rfl
      · unfold by_
        rw [List.toList_toArray, hit_far _ _ _ _ _ (by omega)]
    rw [h1]
    exact (beq_eq_false_iff_ne.2 h2).symm
theorem ipt_pos {l : List (Int × ByteArray)} {s : ByteArray} (hl : l.length ≤ 1000) (hs : ipt l = (s, 0)) : 4 ≤ s.size := by
  have h := (put_take hl hs).1
  refine Nat.le_of_not_lt fun h4 => ?_
  unfold itk at h
  rw [if_neg (by omega), if_pos h4] at h
  simp only [Prod.mk.injEq] at h
  exact absurd h.2 (by decide)
theorem meas4 (k : Nat) (h : k < 4) : 4 - (intOf (.int .i64 ((k : Int) + 1))).toNat < 4 - (intOf (.int .i64 (k : Int))).toNat := by
  show 4 - ((k : Int) + 1).toNat < 4 - ((k : Int)).toNat
  rw [show ((k : Int) + 1).toNat = k + 1 from rfl, Int.toNat_natCast]
  omega
set_option maxRecDepth 20000 in
set_option maxHeartbeats 4000000 in
theorem bursts (A : Option Addr) (c : Nat) (l : List SP) (t : Int) (f : Nat → UInt8) (w : World) (hC : Kd.C kSP w A l.length l) (hc : l.length ≤ c) (hS : Small l) :
    Calls Try.prog 10 #[.slice A l.length c, .int .i64 t, .agg #[.int .u8 ((f 0).toNat : Int), .int .u8 ((f 1).toNat : Int), .int .u8 ((f 2).toNat : Int), .int .u8 ((f 3).toNat : Int)]] w fun e w' => e = .returned (.bool true) ∧ Below w.heap.size w w' := by
  have b0 : Below w.heap.size w (w.alloc (.cells #[.int .u8 ((f 0).toNat : Int), .int .u8 ((f 1).toNat : Int), .int .u8 ((f 2).toNat : Int), .int .u8 ((f 3).toNat : Int)] 66)) := (Below.refl _ _).alloc (Nat.le_refl _) _
  have h0 : (w.alloc (.cells #[.int .u8 ((f 0).toNat : Int), .int .u8 ((f 1).toNat : Int), .int .u8 ((f 2).toNat : Int), .int .u8 ((f 3).toNat : Int)] 66)).heap[w.heap.size]? = some (.cells #[.int .u8 ((f 0).toNat : Int), .int .u8 ((f 1).toNat : Int), .int .u8 ((f 2).toNat : Int), .int .u8 ((f 3).toNat : Int)] 66 (0, 0)) := heap_alloc_new _ _
  obtain ⟨W0, hW0⟩ : ∃ W0, W0 = w.alloc (.cells #[.int .u8 ((f 0).toNat : Int), .int .u8 ((f 1).toNat : Int), .int .u8 ((f 2).toNat : Int), .int .u8 ((f 3).toNat : Int)] 66) := ⟨_, rfl⟩
  rw [← hW0] at b0 h0
  obtain ⟨k0, hk0⟩ := Ev.rounds (great_ev l hS)
  have HG := Go.Proofs.Ytehojcocnndniaa.PImagePuts.broadsheetlaw25_Great.calls k0 A c l _ W0 (Kd.C_below hC b0) hc hk0
  clear hk0
  cases hg : grt (prs l) with
  | true =>
    rw [hg] at HG
    clear hg hS
    go_enter Try.func10, Try.ntmps10
    go_wp2_with fail
    rw [← hW0]
    refine HG.mono ?_
    rintro e w1 ⟨rfl, b1⟩
    have b1 := bstep b0 b1
    go_wp2_with fail
    refine (awake _).mono ?_
    rintro e w2 ⟨rfl, b2⟩
    go_wp2
    go_ret
    exact ⟨rfl, bstep b1 b2⟩
  | false =>
    rw [hg] at HG
    obtain ⟨hl, ht⟩ := grt_not hg
    have hlp : (prs l).length = l.length := List.length_map _
    rw [hlp] at hl
    obtain ⟨k1, hk1⟩ := Ev.rounds (ours_ev l hl)
    have HO := fun W h => Go.Proofs.Ytehojcocnndniaa.PImagePuts.broadsheetlaw25_ours.calls k1 A c l _ W h hc hk1
    have HP := fun A' c' W h => put A' c' (prs l) W h (by rw [hlp]; omega)
    rw [hlp] at HP
    obtain ⟨R1, R2, hR⟩ : ∃ R1 R2, ipt (prs l) = (R1, R2) := ⟨_, _, rfl⟩
    rw [hR] at HP
    by_cases hr : R2 = 0
    · subst hr
      have hkey := fun p k hk => hit_key (by rw [hlp]; omega) hR p k f hk
      have hpos := ipt_pos (by rw [hlp]; omega) hR
      have hsz65 := (put_take (by rw [hlp]; omega) hR).2.1
      have HKEY := Lib.hid hkey
      have HSZ := Lib.hid hsz65
      obtain ⟨p, hp0, hp⟩ : ∃ p : Nat, p < R1.size ∧ wrap64 ((IntKind.u64.wrap t).tmod (R1.size : Int)) = (p : Int) := by
        have h0 : 0 ≤ IntKind.u64.wrap t := by simp [IntKind.wrap, IntKind.bits, IntKind.signed]; omega
        have h1 : 0 ≤ (IntKind.u64.wrap t).tmod (R1.size : Int) := Int.tmod_nonneg _ h0
        have h2 : (IntKind.u64.wrap t).tmod (R1.size : Int) < (R1.size : Int) := Int.tmod_lt_of_pos _ (by omega)
        refine ⟨((IntKind.u64.wrap t).tmod (R1.size : Int)).toNat, by omega, ?_⟩
        unfold wrap64
        omega
      have hp1 : (p : Int) < (R1.size : Int) := by omega
      have hwz : IntKind.u64.wrap (R1.size : Int) = (R1.size : Int) := wrapu64 (by omega) (by omega)
      have hmx : max (R1.size : Int) 1 = (R1.size : Int) := by omega
      have hne0 : ¬ (R1.size : Int) = 0 := by omega
      have hcv : ∀ w : World, (convert 9 67 (.string R1)).run Try.prog w = .ok (.slice (some ⟨w.heap.size, 0, none⟩) R1.size (grownCap w R1.size 0 5)) (Lib.bytesWorld w 5 R1) :=
        fun w => Lib.run_convert_string_bytes w _ _ _ R1 Try.underlying9 Try.underlying67 Try.underlying5
      have HST := Lib.hid (fun W => Row8.start W 5 R1)
      clear hk1 hg ht hl hS hR hkey hsz65 hlp
      go_enter Try.func10, Try.ntmps10
      go_wp2_with fail
      rw [← hW0]
      refine HG.mono ?_
      rintro e w1 ⟨rfl, b1⟩
      have bb1 := bstep b0 b1
      have g1 := (b1.block _ (blk_lt h0)).trans h0
      clear hW0 h0 b0 HG b1
      go_wp2_with fail
      refine (HO w1 (Kd.C_below hC bb1)).mono ?_
      rintro e w2 ⟨v, rfl, hr, b2⟩
      obtain ⟨A2, c2, rfl, hc2, hC2⟩ := Kd.R_reads hr
      have hSec := secs_of hC2
      rw [List.length_map]
      have bb2 := bstep bb1 b2
      have g2 := (b2.block _ (blk_lt g1)).trans g1
      clear hr hC2 HO b2 bb1 g1
      go_wp2_with fail
      refine (HP _ _ w2 hSec).mono ?_
      rintro e w3 ⟨rfl, b3⟩
      have bb3 := bstep bb2 b3
      have g3 := (b3.block _ (blk_lt g2)).trans g2
      have hlt3 := blk_lt g3
      clear HP hSec bb2 b3 g2
      have hf3 : ∀ j, j < 4 → w3.cell? ⟨w.heap.size, j, none⟩ = some (.int .u8 ((f j).toNat : Int)) := fun j hj => by
        rw [blk_cell g3 j]
        match j, hj with
        | 0, _ => rfl
        | 1, _ => rfl
        | 2, _ => rfl
        | 3, _ => rfl
      clear g3
      go_wp2
      rw [hp]
      clear hp
      go_loopw [11] (fun i w' => ∃ k : Nat, k ≤ 4 ∧ i = .int .i64 (k : Int) ∧ Row8.Row w' w3.heap.size R1.size (hit R1.data.toList p f k) ∧
          (∀ j, j < 4 → w'.cell? ⟨w.heap.size, j, none⟩ = some (.int .u8 ((f j).toNat : Int))) ∧ Below w.heap.size w w' ∧ w3.heap.size < w'.heap.size) (fun i _ => (4 - (intOf i).toNat))
      case atStart =>
        refine ⟨0, by omega, rfl, HST.out w3, fun j hj => ?_, ?_, by rw [Lib.bytesWorld_size]; omega⟩
        · rw [Lib.bytesWorld_old _ _ _ _ hlt3]
          exact hf3 j hj
        · exact bb3.trans ⟨rfl, rfl, rfl, by rw [Lib.bytesWorld_size]; omega, fun j hj => Lib.bytesWorld_at_old _ _ _ _ (Nat.lt_trans hj hlt3)⟩
      case round =>
        clear hf3 bb3 HST hcv hmx hwz hpos hne0 hC hc
        obtain ⟨k, k1, rfl, hr, hf, hb, hs⟩ := hrel
        by_cases hk : k < 4 ∧ p + k < R1.size
        · obtain ⟨hk1, hk2⟩ := hk
          have k0 : (0 : Int) ≤ (k : Int) := by omega
          have k2 : (k : Int) < 4 := by omega
          have k3 : (p : Int) + (k : Int) < (R1.size : Int) := by omega
          have k4 : (0 : Int) ≤ (p : Int) + (k : Int) := by omega
          have k5 : ((p : Int) + (k : Int)).toNat = p + k := by omega
          have ew : IntKind.i64.wrap ((p : Int) + (k : Int)) = (p : Int) + (k : Int) := by have := HSZ.out; exact wrapi64 (by omega) (by omega)
          have ew2 : wrap64 ((p : Int) + (k : Int)) = (p : Int) + (k : Int) := by have := HSZ.out; unfold wrap64; omega
          have hl := hit_len R1.data.toList p f k
          have hc3 : Hid (wr.cell? ⟨w3.heap.size, p + k, none⟩ = some (.int .u8 (((hit R1.data.toList p f k).getD (p + k) 0).toNat : Int)) ∧ wr.cell? ⟨w.heap.size, k, none⟩ = some (.int .u8 ((f k).toNat : Int))) := ⟨(hr.2 _ hk2).1, hf k hk1⟩
          have hfz := (hr.2 _ hk2).2
          have hx := Row8.u8_xor ((hit R1.data.toList p f k).getD (p + k) 0) (f k)
          have HR := Lib.hid (Row8.set hr hk2 ((hit R1.data.toList p f k).getD (p + k) 0 ^^^ f k))
          have HF := Lib.hid hf
          have HH : Hid ((hit R1.data.toList p f k).set (p + k) ((hit R1.data.toList p f k).getD (p + k) 0 ^^^ f k) = hit R1.data.toList p f (k + 1)) := rfl
          clear hr hf hl HKEY
          generalize (hit R1.data.toList p f k).getD (p + k) 0 = x at *
          generalize hfk : f k = fk at *
          clear hfk
          go_wp2
          refine Reg.wp_plan (S := fun w' => w'.cell? ⟨w3.heap.size, p + k, none⟩ = some (.int .u8 (x.toNat : Int)) ∧ w'.cell? ⟨w.heap.size, k, none⟩ = some (.int .u8 (fk.toNat : Int))) 11 (.fl 0 (.fl 1 (.fl 2 (.fl 3 (.fl 4 (.fl 5 (.fl 6 (.fl 7 (.fl 8 (.fl 9 (.fl 10 (.one 11 .done)))))))))))) (by kernel_rfl) (by kernel_rfl) (by kernel_rfl) (by kernel_rfl) (fun _ _ _ d _ h => by cases d <;> exact h) ?_ (fun hHeld => ?_)
          · exact hc3.out
          refine Reg.G_on (o := { dst := some 48, op := Op.move (Operand.tmp 10), type := 67, pos := "law.go:95", after := #[], guard := Option.none }) (v := ?_) (by rfl) ?_ (fun wS hSw => ?_) ?_
          rotate_left
          · kernel_rfl
          · (try dsimp only at hSw); go_simp; (try with_reducible rfl)
          try simp only [Act.put, List.setIfInBounds_toArray, List.set_cons_zero, List.set_cons_succ]
          refine Reg.G_on (o := { dst := some 49, op := Op.move (Operand.tmp 9), type := 3, pos := "law.go:95", after := #[], guard := Option.none }) (v := ?_) (by rfl) ?_ (fun wS hSw => ?_) ?_
          rotate_left
          · kernel_rfl
          · (try dsimp only at hSw); go_simp; (try with_reducible rfl)
          try simp only [Act.put, List.setIfInBounds_toArray, List.set_cons_zero, List.set_cons_succ]
          refine Reg.G_on (o := { dst := some 50, op := Op.move (Operand.tmp 11), type := 3, pos := "law.go:95", after := #[], guard := Option.none }) (v := ?_) (by rfl) ?_ (fun wS hSw => ?_) ?_
          rotate_left
          · kernel_rfl
          · (try dsimp only at hSw); go_simp; (try with_reducible rfl)
          try simp only [Act.put, List.setIfInBounds_toArray, List.set_cons_zero, List.set_cons_succ]
          refine Reg.G_on (o := { dst := some 51, op := Op.binOp BinOp.add 3 (Operand.tmp 49) (Operand.tmp 50) 3, type := 3, pos := "law.go:95", after := #[{ on := 1, ground := Ground.data }, { on := 2, ground := Ground.data }], guard := Option.none }) (v := ?_) (by rfl) ?_ (fun wS hSw => ?_) ?_
          rotate_left
          · kernel_rfl
          · (try dsimp only at hSw); go_simp; (try with_reducible rfl)
          try simp only [Act.put, List.setIfInBounds_toArray, List.set_cons_zero, List.set_cons_succ]
          refine Reg.G_on (o := { dst := some 52, op := Op.indexAddr 67 (Operand.tmp 48) (Operand.tmp 51), type := 0, pos := "law.go:95", after := #[{ on := 0, ground := Ground.data }, { on := 3, ground := Ground.data }], guard := Option.none }) (v := ?_) (by rfl) ?_ (fun wS hSw => ?_) ?_
          rotate_left
          · kernel_rfl
          · (try dsimp only at hSw); go_simp; (try with_reducible rfl)
          try simp only [Act.put, List.setIfInBounds_toArray, List.set_cons_zero, List.set_cons_succ]
          refine Reg.G_on (o := { dst := some 53, op := Op.load 5 (Operand.tmp 52), type := 5, pos := "law.go:95", after := #[{ on := 4, ground := Ground.data }], guard := Option.none }) (v := ?_) (by rfl) ?_ (fun wS hSw => ?_) ?_
          rotate_left
          · kernel_rfl
          · (try dsimp only at hSw); go_simp; (try with_reducible rfl)
          try simp only [Act.put, List.setIfInBounds_toArray, List.set_cons_zero, List.set_cons_succ]
          refine Reg.G_on (o := { dst := some 54, op := Op.move (Operand.tmp 11), type := 3, pos := "law.go:95", after := #[], guard := Option.none }) (v := ?_) (by rfl) ?_ (fun wS hSw => ?_) ?_
          rotate_left
          · kernel_rfl
          · (try dsimp only at hSw); go_simp; (try with_reducible rfl)
          try simp only [Act.put, List.setIfInBounds_toArray, List.set_cons_zero, List.set_cons_succ]
          refine Reg.G_on (o := { dst := some 55, op := Op.indexAddr 66 (Operand.tmp 5) (Operand.tmp 54), type := 0, pos := "law.go:95", after := #[{ on := 6, ground := Ground.data }], guard := Option.none }) (v := ?_) (by rfl) ?_ (fun wS hSw => ?_) ?_
          rotate_left
          · kernel_rfl
          · (try dsimp only at hSw); go_simp; (try with_reducible rfl)
          try simp only [Act.put, List.setIfInBounds_toArray, List.set_cons_zero, List.set_cons_succ]
          refine Reg.G_on (o := { dst := some 56, op := Op.load 5 (Operand.tmp 55), type := 5, pos := "law.go:95", after := #[{ on := 7, ground := Ground.data }], guard := Option.none }) (v := ?_) (by rfl) ?_ (fun wS hSw => ?_) ?_
          rotate_left
          · kernel_rfl
          · (try dsimp only at hSw); go_simp; (try with_reducible rfl)
          try simp only [Act.put, List.setIfInBounds_toArray, List.set_cons_zero, List.set_cons_succ]
          refine Reg.G_on (o := { dst := some 57, op := Op.binOp BinOp.xor 5 (Operand.tmp 53) (Operand.tmp 56) 5, type := 5, pos := "law.go:95", after := #[{ on := 5, ground := Ground.data }, { on := 8, ground := Ground.data }], guard := Option.none }) (v := ?_) (by rfl) ?_ (fun wS hSw => ?_) ?_
          rotate_left
          · kernel_rfl
          · (try dsimp only at hSw); go_simp; (try with_reducible rfl)
          try simp only [Act.put, List.setIfInBounds_toArray, List.set_cons_zero, List.set_cons_succ]
          refine Reg.G_on (o := { dst := some 58, op := Op.indexAddr 67 (Operand.tmp 48) (Operand.tmp 51), type := 0, pos := "law.go:95", after := #[{ on := 0, ground := Ground.data }, { on := 3, ground := Ground.data }, { on := 0, ground := Ground.phase }, { on := 1, ground := Ground.phase }, { on := 2, ground := Ground.phase }, { on := 3, ground := Ground.phase }, { on := 4, ground := Ground.phase }, { on := 5, ground := Ground.phase }, { on := 6, ground := Ground.phase }, { on := 7, ground := Ground.phase }, { on := 8, ground := Ground.phase }, { on := 9, ground := Ground.phase }], guard := Option.none }) (v := ?_) (by rfl) ?_ (fun wS hSw => ?_) ?_
          rotate_left
          · kernel_rfl
          · (try dsimp only at hSw); go_simp; (try with_reducible rfl)
          try simp only [Act.put, List.setIfInBounds_toArray, List.set_cons_zero, List.set_cons_succ]
          refine Reg.G_last (o := { dst := Option.none, op := Op.store 5 (Operand.tmp 58) (Operand.tmp 57), type := 0, pos := "law.go:95", after := #[{ on := 10, ground := Ground.data }, { on := 9, ground := Ground.data }, { on := 0, ground := Ground.phase }, { on := 1, ground := Ground.phase }, { on := 2, ground := Ground.phase }, { on := 3, ground := Ground.phase }, { on := 4, ground := Ground.phase }, { on := 5, ground := Ground.phase }, { on := 6, ground := Ground.phase }, { on := 7, ground := Ground.phase }, { on := 8, ground := Ground.phase }, { on := 9, ground := Ground.phase }], guard := Option.none }) (by rfl) (by rfl) ?_ (fun K hK => ?_)
          · kernel_rfl
          go_simp
          refine hK.out _ _ ?_
          clear hK K
          try simp only [Act.put, List.setIfInBounds_toArray, List.set_cons_zero, List.set_cons_succ]
          go_wp2
          go_roundw
          case rel => exact ⟨k + 1, by omega, by go_num, by rw [← HH.out]; exact HR.out, fun j hj => cfar (HF.out j hj) (Nat.ne_of_gt hlt3), (hb.setCell (Nat.le_of_lt hlt3) _).drew, by simpa [World.setCell, World.drew] using hs⟩
          case measure => exact meas4 k hk1
        · have HE := Lib.hid (HKEY.out p k k1)
          have HC : ∀ (W : World), Row8.Row W w3.heap.size R1.size (hit R1.data.toList p f k) → ∀ c : Nat, (convert 67 9 (.slice (some ⟨w3.heap.size, 0, none⟩) R1.size c)).run Try.prog W = .ok (.string ⟨(hit R1.data.toList p f k).toArray⟩) W := fun W h c => Row8.string (P := Try.prog) (c := c) Try.underlying67 Try.underlying5 Try.underlying9 h
          have hszb : (⟨(hit R1.data.toList p f k).toArray⟩ : ByteArray).size = R1.size := by
            show (hit R1.data.toList p f k).toArray.size = R1.size
            rw [List.size_toArray, hit_len]
            rfl
          have HT := fun W => take_ ⟨(hit R1.data.toList p f k).toArray⟩ W (by have := HSZ.out; omega)
          unfold Tak at HT
          have stop2 : (k < 4 ∧ (R1.size : Int) ≤ (p : Int) + (k : Int)) ∨ 4 ≤ k := by omega
          have ew2 : wrap64 ((p : Int) + (k : Int)) = (p : Int) + (k : Int) := by have := HSZ.out; unfold wrap64; omega
          have hcr := HC wr hr
          clear hk hf hszb HKEY
          generalize hB : (⟨(hit R1.data.toList p f k).toArray⟩ : ByteArray) = B at *
          clear hB
          generalize itk B = M at *
          obtain ⟨M1, M2⟩ := M
          rcases stop2 with ⟨hk1, hk2⟩ | hk1
          · have k2 : (k : Int) < 4 := by omega
            go_wp2_with fail
            refine (HT wr).mono ?_
            rintro e w4 ⟨v4, rfl, _, b4⟩
            have hr4 := Row8.below hr b4 hs
            have hcr4 := HC w4 hr4
            clear hcr HC HT hr hr4
            have bb4 := bstep hb b4
            have hE := HE.out
            go_wp2_with fail
            refine (awake _).mono ?_
            rintro e w5 ⟨rfl, b5⟩
            go_wp2
            go_ret
            exact ⟨rfl, bstep bb4 b5⟩
          · have k2 : ¬ (k : Int) < 4 := by omega
            go_wp2_with fail
            refine (HT wr).mono ?_
            rintro e w4 ⟨v4, rfl, _, b4⟩
            have hr4 := Row8.below hr b4 hs
            have hcr4 := HC w4 hr4
            clear hcr HC HT hr hr4
            have bb4 := bstep hb b4
            have hE := HE.out
            go_wp2_with fail
            refine (awake _).mono ?_
            rintro e w5 ⟨rfl, b5⟩
            go_wp2
            go_ret
            exact ⟨rfl, bstep bb4 b5⟩
    · have hrq : (R2 != 0) = true := by simpa using hr
      clear hk1 hg ht hl hS hR
      go_enter Try.func10, Try.ntmps10
      go_wp2_with fail
      rw [← hW0]
      refine HG.mono ?_
      rintro e w1 ⟨rfl, b1⟩
      have bb1 := bstep b0 b1
      clear hW0 h0 b0 HG b1
      go_wp2_with fail
      refine (HO w1 (Kd.C_below hC bb1)).mono ?_
      rintro e w2 ⟨v, rfl, hr', b2⟩
      obtain ⟨A2, c2, rfl, hc2, hC2⟩ := Kd.R_reads hr'
      have hSec := secs_of hC2
      rw [List.length_map]
      have bb2 := bstep bb1 b2
      clear hr' hC2 HO b2 bb1
      go_wp2_with fail
      refine (HP _ _ w2 hSec).mono ?_
      rintro e w3 ⟨rfl, b3⟩
      have bb3 := bstep bb2 b3
      clear HP hSec bb2 b3
      go_wp2_with fail
      refine (awake _).mono ?_
      rintro e w4 ⟨rfl, b4⟩
      go_wp2
      go_ret
      exact ⟨rfl, bstep bb3 b4⟩
end Go.Proofs.Ytehojcocnndniaa.Img
namespace Go.Proofs.Ytehojcocnndniaa.Open
open Go.RowKit Base Go.Proofs.YtehojcocnndniaaW.PrintWords
section
variable {H : Type} {enc : TypeId × Value → H} {P : Program} {w : World}
/-- A type's cells open as a kind's. -/
def Opens (P : Program) {α : Type} (t : TypeId) (d : Kd α) (G : α → Prop) : Prop :=
  ∀ (H : Type) (enc : TypeId × Value → H) (w : World) (cs : List Value), Tr enc P w t cs → ∃ a, d.K w a cs ∧ G a
theorem opens_int {t : TypeId} {k : IntKind} (hu : P.underlying t = some (.int k)) : Opens P t (Kd.int k) (fun n => (Lit.int k n).wf = true) := by
  intro H enc w cs h
  obtain ⟨n, rfl, hw⟩ := tr_int hu h
  exact ⟨n, rfl, hw⟩
theorem opens_bool {t : TypeId} (hu : P.underlying t = some .bool) : Opens P t Kd.bool (fun _ => True) := by
  intro H enc w cs h
  obtain ⟨n, rfl⟩ := tr_bool hu h
  exact ⟨n, rfl, trivial⟩
theorem opens_string {t : TypeId} (hu : P.underlying t = some .string) : Opens P t Kd.string (fun s => s.size ≤ reachBytes) := by
  intro H enc w cs h
  obtain ⟨n, rfl, hs⟩ := tr_string hu h
  exact ⟨n, rfl, hs⟩
theorem cells_spec {base : Nat} {a : Addr} {n : Nat} {c : List Value} (h : w.cells? base a n = some c) : c.length = n ∧ ∀ i u, c[i]? = some u → w.cell? (a.add i) = some u := by
  unfold World.cells? at h
  split at h
  · have hg : ∀ {α β : Type} {g : α → Option β} {l : List α} {r : List β}, l.mapM g = some r → r.length = l.length ∧ ∀ (i : Nat) (u : β), r[i]? = some u → ∃ x, l[i]? = some x ∧ g x = some u := by
      intro α β g l
      induction l with
      | nil =>
        intro r h
        obtain rfl : [] = r := by simpa using h
        exact ⟨rfl, fun i u h => by simp at h⟩
      | cons x l ih =>
        intro r h
        simp only [List.mapM_cons, Option.pure_def, Option.bind_eq_bind] at h
        cases hx : g x with
        | none => simp [hx] at h
        | some b =>
          simp only [hx, Option.bind_some] at h
          cases hl : l.mapM g with
          | none => simp [hl] at h
          | some bs =>
            simp only [hl, Option.bind_some, Option.some.injEq] at h
            subst h
            obtain ⟨e1, e2⟩ := ih hl
            refine ⟨by simp [e1], fun i u hi => ?_⟩
            cases i with
            | zero =>
              obtain rfl : b = u := by simpa using hi
              exact ⟨x, rfl, hx⟩
            | succ i =>
              obtain ⟨y, h1, h2⟩ := e2 i u (by simpa using hi)
              exact ⟨y, by simpa using h1, h2⟩
    obtain ⟨e1, e2⟩ := hg h
    refine ⟨by rw [e1, List.length_range], fun i u hi => ?_⟩
    obtain ⟨y, h1, h2⟩ := e2 i u hi
    obtain ⟨hl, h1⟩ := List.getElem?_eq_some_iff.1 h1
    rw [List.getElem_range] at h1
    rw [h1]
    exact h2
  · simp at h
theorem opens_slice {α : Type} {t e : TypeId} {d : Kd α} {G : α → Prop} (hu : P.underlying t = some (.slice e)) (he : Opens P e d G) (hs : P.cellsOf e = d.sz) :
    Opens P t (Kd.slice e d) (fun l => (l.length ≤ maxLen ∧ l.length * P.bytesOf e ≤ reachBytes) ∧ ∀ x ∈ l, G x) := by
  intro H enc w cs h
  rcases tr_slice hu h with rfl | ⟨a, len, cap, rfl, h1, h2, hby, h3⟩
  · exact ⟨[], ⟨none, 0, rfl, Nat.le_refl _, rfl, by simp, (fun h => by simp at h)⟩, ⟨by simp, by simp⟩, (fun x hx => by cases hx)⟩
  · have key : ∀ n, n ≤ len → ∃ l : List α, l.length = n ∧ (∀ x ∈ l, G x) ∧ ∀ j p, l[j]? = some p → ∃ c, c.length = d.sz ∧ d.K w p c ∧ ∀ i u, c[i]? = some u → w.cell? (a.add (j * d.sz + i)) = some u := by
      intro n
      induction n with
      | zero => exact fun _ => ⟨[], rfl, (fun x hx => by cases hx), (fun j p h => by simp at h)⟩
      | succ n ih =>
        intro hn
        obtain ⟨l, hl, hG, hc⟩ := ih (by omega)
        obtain ⟨c, hcell, htr⟩ := h3 n (by omega)
        obtain ⟨x, hK, hGx⟩ := he H enc w c htr
        obtain ⟨hlen, hget⟩ := cells_spec hcell
        refine ⟨l ++ [x], by simp [hl], fun y hy => ?_, fun j p hj => ?_⟩
        · rcases List.mem_append.1 hy with hy | hy
          · exact hG y hy
          · rw [List.mem_singleton.1 hy]; exact hGx
        · rcases Nat.lt_or_ge j l.length with hjl | hjl
          · rw [List.getElem?_append_left hjl] at hj
            exact hc j p hj
          · have hj' : j = n := by
              have := (List.getElem?_eq_some_iff.1 hj).1
              rw [List.length_append, List.length_singleton] at this
              omega
            subst hj'
            rw [List.getElem?_append_right hjl, hl, Nat.sub_self] at hj
            have hp : x = p := by simpa using hj
            subst hp
            refine ⟨c, by rw [hlen, hs], hK, fun i u hi => ?_⟩
            have := hget i u hi
            rw [hs, add_add] at this
            exact this
    obtain ⟨l, hl, hG, hc⟩ := key len (Nat.le_refl _)
    subst hl
    exact ⟨l, ⟨some a, cap, rfl, h1, rfl, by unfold maxLen at h2; omega, fun _ => ⟨a, rfl, hc⟩⟩, ⟨Nat.le_trans h1 h2, Nat.le_trans (Nat.mul_le_mul_right _ h1) hby⟩, hG⟩
theorem slice_arg {α : Type} {t e : TypeId} {k : Kd α} {G : α → Prop} {r : Reach} {base : Nat} {v : Value} {d : DataW H} {ps : List MemPlace}
    (hu : P.underlying t = some (.slice e)) (he : Opens P e k G) (hs : P.cellsOf e = k.sz) (hok : Value.okWide P w r base t v) (h : TrodZ enc P w t v d ps) :
    ∃ (A : Option Addr) (c : Nat) (l : List α), v = .slice A l.length c ∧ Kd.C k w A l.length l ∧ l.length ≤ c ∧ (l.length ≤ maxLen ∧ l.length * P.bytesOf e ≤ reachBytes) ∧ ∀ x ∈ l, G x := by
  obtain ⟨a, len, cap, rfl⟩ := Go.WideShapes.okWide_slice hu hok
  obtain ⟨l, ⟨A, c, e, hc, hC⟩, hl, hG⟩ := opens_slice hu he hs H enc w _ (tr_of h)
  have e' : [Value.slice a len cap] = [Value.slice A l.length c] := e
  exact ⟨A, c, l, (List.cons.inj e').1, hC, hc, hl, hG⟩
end
end Go.Proofs.Ytehojcocnndniaa.Open
namespace Go.Proofs.Ytehojcocnndniaa.Open
open Go.RowKit Base Go.Proofs.YtehojcocnndniaaW.PrintWords
section
variable {P : Program}
/-- Both. -/
def GPair {α β : Type} (G1 : α → Prop) (G2 : β → Prop) : α × β → Prop := fun x => G1 x.1 ∧ G2 x.2
/-- Fields in line, from an offset on. -/
def OpensF (P : Program) {α : Type} (fs : List Field) (off : Nat) (d : Kd α) (G : α → Prop) : Prop :=
  ∀ (H : Type) (enc : TypeId × Value → H) (w : World) (cs : List Value), cs.length = off + d.sz → (∀ f ∈ fs, Tr enc P w f.type ((cs.drop f.offset).take (P.cellsOf f.type))) → ∃ a, d.K w a (cs.drop off) ∧ G a
theorem fields_last {α : Type} {f : Field} {d : Kd α} {G : α → Prop} (h : Opens P f.type d G) (hs : P.cellsOf f.type = d.sz) : OpensF P [f] f.offset d G := by
  intro H enc w cs hl ht
  have h1 := ht f (List.mem_singleton.2 rfl)
  rw [hs, List.take_of_length_le (by rw [List.length_drop]; omega)] at h1
  exact h H enc w _ h1
theorem fields_cons {α β : Type} {f : Field} {fs : List Field} {d1 : Kd α} {d2 : Kd β} {G1 : α → Prop} {G2 : β → Prop} (h : Opens P f.type d1 G1) (hs : P.cellsOf f.type = d1.sz) (hr : OpensF P fs (f.offset + d1.sz) d2 G2) :
    OpensF P (f :: fs) f.offset (Kd.pair d1 d2) (GPair G1 G2) := by
  intro H enc w cs hl ht
  have hl' : cs.length = f.offset + (d1.sz + d2.sz) := hl
  have h1 := ht f (List.mem_cons_self ..)
  rw [hs] at h1
  obtain ⟨a, ha, ga⟩ := h H enc w _ h1
  obtain ⟨b, hb, gb⟩ := hr H enc w cs (by omega) (fun g hg => ht g (List.mem_cons_of_mem _ hg))
  refine ⟨(a, b), ⟨_, _, ?_, ha, hb⟩, ga, gb⟩
  rw [← List.drop_drop, List.take_append_drop]
theorem opens_struct {α : Type} {t : TypeId} {fs : Array Field} {d : Kd α} {G : α → Prop} (hu : P.underlying t = some (.struct fs)) (hs : P.cellsOf t = d.sz) (h : OpensF P fs.toList 0 d G) : Opens P t d G := by
  intro H enc w cs ht
  obtain ⟨hl, hf⟩ := tr_struct hu ht
  exact h H enc w cs (by omega) hf
theorem opens_iso {α β : Type} {t : TypeId} {d : Kd α} {G : α → Prop} (h : Opens P t d G) (f : β → α) (g : α → β) (hg : ∀ a, f (g a) = a) : Opens P t (Kd.iso d f) (fun x => G (f x)) := by
  intro H enc w cs ht
  obtain ⟨a, ha, ga⟩ := h H enc w cs ht
  refine ⟨g a, ?_, ?_⟩
  · show d.K w (f (g a)) cs
    rw [hg]
    exact ha
  · show G (f (g a))
    rw [hg]
    exact ga
/-- An argument that is a struct, by its kind. -/
theorem struct_arg {H : Type} {enc : TypeId × Value → H} {w : World} {α : Type} {t : TypeId} {fs : Array Field} {k : Kd α} {G : α → Prop} {r : Reach} {base : Nat} {v : Value} {d : DataW H} {ps : List MemPlace}
    (hu : P.underlying t = some (.struct fs)) (hk : Opens P t k G) (hok : Value.okWide P w r base t v) (h : TrodZ enc P w t v d ps) :
    ∃ (a : α) (cs : Array Value), v = .agg cs ∧ k.K w a cs.toList ∧ G a := by
  obtain ⟨cs, rfl, hs, ht⟩ := agg_struct hu hok h
  obtain ⟨a, ha, ga⟩ := hk H enc w _ ht
  exact ⟨a, cs, rfl, ha, ga⟩
end
end Go.Proofs.Ytehojcocnndniaa.Open
namespace Go.Proofs.Ytehojcocnndniaa.Open
open Go.RowKit Base Go.Proofs.YtehojcocnndniaaW.PrintWords
theorem sct_opens : Opens Try.prog 98 Go.Proofs.Ytehojcocnndniaa.PImagePuts.k98 (fun x => GPair (fun n => (Lit.int .i64 n).wf = true) (fun s : ByteArray => s.size ≤ reachBytes) (x.f0, x.f1)) := by
  unfold Go.Proofs.Ytehojcocnndniaa.PImagePuts.k98
  refine opens_iso (d := Kd.pair (Kd.int .i64) Kd.string) ?_ (fun x : Go.Proofs.Ytehojcocnndniaa.PImagePuts.S98 => (x.f0, x.f1)) (fun a => ⟨a.1, a.2⟩) (fun _ => rfl)
  refine opens_struct Try.underlying98 (by kernel_rfl) ?_
  refine fields_cons (opens_int Try.underlying3) (by kernel_rfl) ?_
  exact fields_last (opens_string Try.underlying9) (by kernel_rfl)
theorem sct_small {l : List Go.Proofs.Ytehojcocnndniaa.PImagePuts.S98} (h : l.length * Try.prog.bytesOf 98 ≤ reachBytes) (hG : ∀ x ∈ l, GPair (fun n => (Lit.int .i64 n).wf = true) (fun s : ByteArray => s.size ≤ reachBytes) (x.f0, x.f1)) : Img.Small l := by
  have e : Try.prog.bytesOf 98 = 24 := by kernel_rfl
  have e2 : reachBytes = 140737488351232 := rfl
  rw [e, e2] at h
  exact ⟨by omega, fun x hx => (hG x hx).2⟩
end Go.Proofs.Ytehojcocnndniaa.Open
