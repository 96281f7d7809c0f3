import Derived.Test.YtmlfnlmdnhblmaaRow
import Derived.Test.YtmlfnlmdnhblmaaAlRef
import Derived.Test.YtmlfnlmdnhblmaaStep
import Derived.Test.YtmlfnlmdnhblmaaPRecordPutsx1
import Derived.Test.YtmlfnlmdnhblmaaPRecordPutsx2
set_option linter.unusedVariables false
set_option linter.unusedSimpArgs false
namespace Go.Proofs.Ytmlfnlmdnhblmaa.Rec
open Go.RowKit Base Sp Flat Go.Proofs.YtmlfnlmdnhblmaaW.PrintWords Go.Proofs.YtmlfnlmdnhblmaaW.PrintLast Go.Proofs.YtmlfnlmdnhblmaaW.PrintMore Wd Al Buf Smp Go.Proofs.Ytmlfnlmdnhblmaa.PRecordPuts
/-- How many bytes a record has. -/
def rsz (n : Int) : Int := 45 + (if n < 0 then 0 else n) + gapv (45 + (if n < 0 then 0 else n)) 8
theorem gapv8 (a : Int) (h : 0 ≤ a) : gapv a 8 = (-a) % 8 := by
  unfold gapv
  rw [if_neg (by omega), if_pos (by decide)]
theorem rsz_eq (n : Int) : rsz n = 45 + (if n < 0 then 0 else n) + (-(45 + (if n < 0 then 0 else n))) % 8 := by
  unfold rsz
  rw [gapv8 _ (by split <;> omega)]
theorem rsz_rng (n : Int) (h : n ≤ 1000000000) : 48 ≤ rsz n ∧ rsz n ≤ 1000000100 ∧ rsz n % 8 = 0 := by
  rw [rsz_eq]
  split <;> omega
theorem size_eq (n : Int) (hn : n ≤ 1000000000) : record_Size.f n = some (rsz n) := by
  obtain ⟨m, hm⟩ : ∃ m : Int, m = (if n < 0 then 0 else n) := ⟨_, rfl⟩
  have hm0 : 0 ≤ m ∧ m ≤ 1000000000 := by rw [hm]; split <;> omega
  have hx : mx n 0 = m := by rw [hm]; unfold mx; repeat' split
                             all_goals omega
  have hg := gapv_le (45 + m) 8
  unfold record_Size.f rsz
  rw [hx, ← hm, show wrap64 (45 + m) = 45 + m from by unfold wrap64; omega, gap_eq _ _ (by omega) (by omega), Option.bind_some, show wrap64 (45 + m + gapv (45 + m) 8) = 45 + m + gapv (45 + m) 8 from by unfold wrap64; omega]
theorem size (n : Int) (hn : n ≤ 1000000000) (w : World) : Calls Try.prog 11 #[.int .i64 n] w fun e w' => e = .returned (.int .i64 (rsz n)) ∧ Below w.heap.size w w' :=
  record_Size.calls n _ w (size_eq n hn)
theorem rsize_l (m : Int) (hm : 0 ≤ m ∧ m ≤ 1000000000) (R : Int) (hR : R = 45 + m + (-(45 + m)) % 8) : ∀ (d : Nat) (x : Int), x + 8 * d = R → 48 ≤ x → Ev (fun k => broadsheetref40_Size.l0 k m x) R
  | 0, x, h, hx => by
    have e : x = R := by omega
    subst e
    refine Ev.step (f := fun _ => some x) (fun k => ?_) (Ev.now _)
    simp only [broadsheetref40_Size.l0]
    rw [show wrap64 (x - 45) = x - 45 from by unfold wrap64; omega, if_neg (by omega)]
  | d + 1, x, h, hx => by
    have ih := rsize_l m hm R hR d (x + 8) (by omega) (by omega)
    refine Ev.step (fun k => ?_) ih
    simp only [broadsheetref40_Size.l0]
    rw [show wrap64 (x - 45) = x - 45 from by unfold wrap64; omega, show wrap64 (x + 8) = x + 8 from by unfold wrap64; omega, if_pos (by omega)]
theorem rsize_ev (n : Int) (hn : n ≤ 1000000000) : Ev (fun k => broadsheetref40_Size.f k n) (rsz n) := by
  have key : ∀ m : Int, 0 ≤ m → m ≤ 1000000000 → m = (if n < 0 then 0 else n) → Ev (fun k => broadsheetref40_Size.j0 k m) (rsz n) := fun m h0 h1 hm => by
    refine Ev.step (f := fun k => broadsheetref40_Size.l0 k m 48) (fun k => by simp only [broadsheetref40_Size.j0]) ?_
    refine rsize_l m ⟨h0, h1⟩ (rsz n) (by rw [rsz_eq, ← hm]) ((rsz n - 48) / 8).toNat 48 ?_ (by omega)
    have := rsz_rng n hn
    omega
  unfold broadsheetref40_Size.f
  by_cases h : n < 0
  · simp only [if_pos h] at key ⊢
    exact key 0 (by omega) (by omega) rfl
  · simp only [if_neg h] at key ⊢
    exact key n (by omega) hn rfl
theorem rsize (n : Int) (hn : n ≤ 1000000000) (w : World) : Calls Try.prog 12 #[.int .i64 n] w fun e w' => e = .returned (.int .i64 (rsz n)) ∧ Below w.heap.size w w' := by
  obtain ⟨k, hk⟩ := (rsize_ev n hn).rounds
  exact (broadsheetref40_Size.calls k n _ w hk).mono fun _ _ h => ⟨h.1, drawn_below h.2⟩
/-- A key's bytes. -/
def kby (k : List Int) : List UInt8 := k.map fun n => UInt8.ofNat n.toNat
theorem kby_tx (k : List Int) : strOfNums k = tx (kby k) := rfl
theorem kby_len (k : List Int) : (kby k).length = k.length := List.length_map _
/-- A record's numbers, and the record. -/
def rhd (x : Smp) : List UInt8 := nbytes x.frame 8 ++ nbytes x.run 8 ++ nbytes x.seq 8
def rmd (x : Smp) : List UInt8 := rhd x ++ nbytes x.op 1 ++ nbytes x.writer 1 ++ nbytes (x.data.size : Int) 2
def rbd (x : Smp) : List UInt8 := rmd x ++ kby x.key ++ x.data.data.toList
def rgp (x : Smp) : Nat := (gapv (45 + (x.data.size : Int)) 8).toNat
def recb (x : Smp) : List UInt8 := rbd x ++ List.replicate (rgp x) 0
theorem rhd_len (x : Smp) : (rhd x).length = 24 := by unfold rhd; simp only [List.length_append, nbytes_len]; rfl
theorem rmd_len (x : Smp) : (rmd x).length = 28 := by unfold rmd; simp only [List.length_append, nbytes_len, rhd_len]; rfl
theorem data_len (x : Smp) : x.data.data.toList.length = x.data.size := rfl
theorem rbd_len (x : Smp) : (rbd x).length = 45 + x.data.size := by unfold rbd; simp only [List.length_append, rmd_len, kby_len, key_len, data_len]
theorem recb_len (x : Smp) : ((recb x).length : Int) = rsz x.data.size := by
  have := gapv_le (45 + (x.data.size : Int)) 8
  unfold recb rsz rgp
  rw [if_neg (by omega), List.length_append, rbd_len, List.length_replicate]
  omega
theorem rgp_le (x : Smp) : rgp x ≤ 7 := by
  have := gapv_le (45 + (x.data.size : Int)) 8
  unfold rgp
  omega
/-- Is a sample out of range? -/
def bad (x : Smp) : Bool := decide (x.op < 0) || decide (255 < x.op) || decide (x.writer < 0) || decide (255 < x.writer)
theorem bad_f {x : Smp} (h : bad x = false) : 0 ≤ x.op ∧ x.op ≤ 255 ∧ 0 ≤ x.writer ∧ x.writer ≤ 255 := by
  unfold bad at h
  simp only [Bool.or_eq_false_iff, decide_eq_false_iff_not] at h
  omega
/-- What Put answers. -/
def rput (x : Smp) : ByteArray × Int := if bad x then (⟨#[]⟩, 7) else if 512 < x.data.size then (⟨#[]⟩, 3) else (tx (recb x), 0)
/-- A put without a gap. -/
theorem pbytes_flat (L : List UInt8) (n s : Int) (m : Nat) (hl : L.length = m) (hg : gapv m s = 0) : pbytes L n s = L ++ nbytes n s := by
  unfold pbytes
  rw [hl, hg]
  simp
theorem pcode8 (n : Int) (h1 : n < 18446744073709551616) : pcode n 8 = 0 := by
  unfold pcode
  rw [if_pos (by decide), if_pos (by show n < 18446744073709551616; exact h1)]
theorem pcode1 (n : Int) (h1 : n ≤ 255) : pcode n 1 = 0 := by
  unfold pcode
  rw [if_pos (by decide), if_pos (by show n < 256; omega)]
theorem pcode2 (n : Int) (h1 : n ≤ 65535) : pcode n 2 = 0 := by
  unfold pcode
  rw [if_pos (by decide), if_pos (by show n < 65536; omega)]
theorem u64r {n : Int} (h : (Lit.int .u64 n).wf = true) : 0 ≤ n ∧ n < 18446744073709551616 := wf_u64 h
theorem size23 (x : Smp) : (Try.prog.info? 26).map (·.size) = some (cells x).length := by rw [cells_len]; kernel_rfl
theorem box_range {w : World} {g : Nat} {t : TypeId} {x : Smp} (h : w.heap[g]? = some (.cells (cells x).toArray t (0, 0))) : w.rangeAt g 0 (cells x) := fun j u hj => by
  rw [blk_cell h, Nat.zero_add, List.getElem?_toArray]
  exact hj
theorem box_set {w : World} {g : Nat} {t : TypeId} {x y : Smp} (h : w.heap[g]? = some (.cells (cells y).toArray t (0, 0))) : (w.setCells g 0 (cells x)).heap[g]? = some (.cells (cells x).toArray t (0, 0)) := by
  rw [setCells_heap g t (cells x) 0 _ w h (by rw [cells_len, cells_len]; omega), List.take_zero, List.nil_append, List.drop_eq_nil_of_le (by rw [cells_len, cells_len]; omega), List.append_nil]
/-- A sample's cells in its box. -/
structure BoxC (w : World) (g : Nat) (x : Smp) : Prop where
  c0 : w.cell? ⟨g, 0, none⟩ = some (.int .i64 x.op)
  c1 : w.cell? ⟨g, 1, none⟩ = some (.int .i64 x.writer)
  c2 : w.cell? ⟨g, 2, none⟩ = some (.int .u64 x.frame)
  c3 : w.cell? ⟨g, 3, none⟩ = some (.int .u64 x.run)
  c4 : w.cell? ⟨g, 4, none⟩ = some (.int .u64 x.seq)
  c22 : w.cell? ⟨g, 22, none⟩ = some (.string x.data)
  ck : ∀ i, i < 17 → w.cell? ⟨g, 5 + i, none⟩ = some (.int .u8 (x.key.getD i 0))
theorem BoxC.of {w : World} {g : Nat} {t : TypeId} {x : Smp} (h : w.heap[g]? = some (.cells (cells x).toArray t (0, 0))) : BoxC w g x := by
  have hk : ∀ j, (cells x)[5 + j]? = (nums .u8 x.key ++ [.string x.data])[j]? := fun j => by
    unfold cells head
    rw [List.getElem?_append_right (by simp)]
    simp only [List.length_cons, List.length_nil]
    rw [show 5 + j - (0 + 1 + 1 + 1 + 1 + 1) = j from by omega]
  refine ⟨?_, ?_, ?_, ?_, ?_, ?_, fun i hi => ?_⟩
  · rw [blk_cell h, List.getElem?_toArray]; rfl
  · rw [blk_cell h, List.getElem?_toArray]; rfl
  · rw [blk_cell h, List.getElem?_toArray]; rfl
  · rw [blk_cell h, List.getElem?_toArray]; rfl
  · rw [blk_cell h, List.getElem?_toArray]; rfl
  · rw [blk_cell h, List.getElem?_toArray, show (22 : Nat) = 5 + 17 from rfl, hk, List.getElem?_append_right (by rw [nums_length, key_len]; omega), nums_length, key_len]
    rfl
  · rw [blk_cell h, List.getElem?_toArray, hk, List.getElem?_append_left (by rw [nums_length, key_len]; exact hi)]
    unfold nums
    rw [List.getElem?_map, List.getElem?_eq_getElem (by rw [key_len]; exact hi), List.getD_eq_getElem?_getD, List.getElem?_eq_getElem (by rw [key_len]; exact hi)]
    rfl
end Go.Proofs.Ytmlfnlmdnhblmaa.Rec
