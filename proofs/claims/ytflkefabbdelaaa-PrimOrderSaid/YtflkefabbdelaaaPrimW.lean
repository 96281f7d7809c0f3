import Derived.Test.YtflkefabbdelaaaPrimQ
import Derived.Test.YtflkefabbdelaaaPrimK
import Derived.Test.YtflkefabbdelaaaRegN
import Derived.Test.YtflkefabbdelaaaStep
set_option linter.unusedVariables false
set_option linter.unusedSimpArgs false
namespace Go.Proofs.Ytflkefabbdelaaa.Prim
open Go.RowKit Base Flat Go.Proofs.YtflkefabbdelaaaW.PrintWords Go.Proofs.YtflkefabbdelaaaW.PrintLast Go.Proofs.YtflkefabbdelaaaW.PrintMore Wd
/-- A frame with new values in slots 5, 6, 7, 16, 21, 26. -/
def upA (l : List Value) (v5 v6 v7 v16 v21 v26 : Value) : List Value := l.take 5 ++ (v5 :: v6 :: v7 :: ((l.drop 8).take 8 ++ (v16 :: ((l.drop 17).take 4 ++ (v21 :: ((l.drop 22).take 4 ++ (v26 :: l.drop 27)))))))
/-- Four cells stored. -/
theorem dput {w : World} {b : Nat} {t : TypeId} {c0 c1 c2 c3 : Value} (h : w.heap[b]? = some (.cells #[c0, c1, c2, c3] t (0, 0))) (v0 v1 v2 v3 : Value) :
    ((((w.setCell ⟨b, 0, none⟩ v0).setCell ⟨b, 1, none⟩ v1).setCell ⟨b, 2, none⟩ v2).setCell ⟨b, 3, none⟩ v3).heap[b]? = some (.cells #[v0, v1, v2, v3] t (0, 0)) ∧
    (∀ k, k ≠ b → ((((w.setCell ⟨b, 0, none⟩ v0).setCell ⟨b, 1, none⟩ v1).setCell ⟨b, 2, none⟩ v2).setCell ⟨b, 3, none⟩ v3).heap[k]? = w.heap[k]?) ∧
    (∀ {B : Nat} {w0 : World}, Below B w0 w → B ≤ b → Below B w0 ((((w.setCell ⟨b, 0, none⟩ v0).setCell ⟨b, 1, none⟩ v1).setCell ⟨b, 2, none⟩ v2).setCell ⟨b, 3, none⟩ v3)) := by
  refine ⟨?_, fun k hk => ?_, fun hb hB => ?_⟩
  · have := blk_set (blk_set (blk_set (blk_set h 0 v0) 1 v1) 2 v2) 3 v3
    simpa using this
  · rw [Below.heap_setCell _ ⟨b, 3, none⟩ _ k hk, Below.heap_setCell _ ⟨b, 2, none⟩ _ k hk, Below.heap_setCell _ ⟨b, 1, none⟩ _ k hk, Below.heap_setCell _ ⟨b, 0, none⟩ _ k hk]
  · exact (((hb.setCell (p := ⟨b, 0, none⟩) hB _).setCell (p := ⟨b, 1, none⟩) hB _).setCell (p := ⟨b, 2, none⟩) hB _).setCell (p := ⟨b, 3, none⟩) hB _
theorem two_al (w : World) (a b : Array Value) (t s : TypeId) : ((w.alloc (.cells a t)).alloc (.cells b s)).heap[w.heap.size]? = some (.cells a t (0, 0)) ∧ ((w.alloc (.cells a t)).alloc (.cells b s)).heap[w.heap.size + 1]? = some (.cells b s (0, 0)) ∧ Below w.heap.size w ((w.alloc (.cells a t)).alloc (.cells b s)) := by
  refine ⟨blk_alloc (heap_alloc_new _ _) _, ?_, ((Below.refl _ _).alloc (Nat.le_refl _) _).alloc (by simp) _⟩
  have := heap_alloc_new (w.alloc (.cells a t)) (.cells b s)
  simpa using this
/-- A frame with new values in slots 41 to 56. -/
def upP (l us : List Value) : List Value := l.take 41 ++ (us ++ l.drop 57)
theorem tailcutP {P : Program} {ops : Array Oper} {Q : Exit → Act → World → Prop} {rest : List Oper} {a : Act} {w : World} (K : Act → World → Prop) (Pre : World → Prop)
    (h1 : ∀ (t41 t42 t43 t44 t45 t46 t47 t48 t49 t50 t51 t52 t53 t54 t55 t56 : Value) (W : World), Pre W → K { tmps := (upP a.tmps.toList [t41, t42, t43, t44, t45, t46, t47, t48, t49, t50, t51, t52, t53, t54, t55, t56]).toArray, defers := a.defers } W)
    (h2 : (∀ (t41 t42 t43 t44 t45 t46 t47 t48 t49 t50 t51 t52 t53 t54 t55 t56 : Value) (W : World), Pre W → K { tmps := (upP a.tmps.toList [t41, t42, t43, t44, t45, t46, t47, t48, t49, t50, t51, t52, t53, t54, t55, t56]).toArray, defers := a.defers } W) → wpList P ops Q rest a w) : wpList P ops Q rest a w := h2 h1
def upX (l : List Value) (v8 v9 v59 v62 : Value) : List Value := l.take 8 ++ (v8 :: v9 :: ((l.drop 10).take 49 ++ (v59 :: ((l.drop 60).take 2 ++ (v62 :: l.drop 63)))))
def upU (l : List Value) (v10 v11 v65 v68 : Value) : List Value := l.take 10 ++ (v10 :: v11 :: ((l.drop 12).take 53 ++ (v65 :: ((l.drop 66).take 2 ++ (v68 :: l.drop 69)))))
theorem i64_wrap {n : Int} (h0 : 0 ≤ n) (h1 : n < 18446744073709551616) : IntKind.i64.wrap n = i64 n := by
  unfold i64
  simp [IntKind.wrap, IntKind.bits, IntKind.signed]
  split <;> split <;> omega
theorem below_dr (w : World) : Below w.heap.size w w.drew := (Below.refl _ _).drew
/-- Cmp, of the data of two numbers. -/
theorem cmd (k n k' n' : Int) (w : World) : Calls Try.prog 23 #[.agg #[.int .i64 (dat k n).1, .bool (dat k n).2.1, .int .u64 (dat k n).2.2, .string ⟨#[]⟩], .agg #[.int .i64 (dat k' n').1, .bool (dat k' n').2.1, .int .u64 (dat k' n').2.2, .string ⟨#[]⟩]] w fun e w' => e = .returned (.int .i64 (dc k n k' n')) ∧ Below w.heap.size w w' :=
  cmp_ _ _ _ _ _ _ _ _ (dat_ok k n).2.1 (dat_ok k' n').2.1 w
set_option maxRecDepth 20000 in
set_option maxHeartbeats 4000000 in
theorem order (k0 k1 k2 n0 n1 n2 : Int) (p0 : 0 ≤ n0 ∧ n0 < 18446744073709551616) (p1 : 0 ≤ n1 ∧ n1 < 18446744073709551616) (p2 : 0 ≤ n2 ∧ n2 < 18446744073709551616) (w : World) :
    Calls Try.prog 5 #[.agg #[.int .i64 k0, .int .i64 k1, .int .i64 k2], .agg #[.int .u64 n0, .int .u64 n1, .int .u64 n2]] w fun e w' => e = .returned (.bool true) ∧ Below w.heap.size w w' := by
  have HA := fun w => datum k0 n0 p0.1 p0.2 w
  have HB := fun w => datum k1 n1 p1.1 p1.2 w
  have HC := fun w => datum k2 n2 p2.1 p2.2 w
  have HX := fun w => datum 7 n0 p0.1 p0.2 w
  have HY := fun w => datum 7 n1 p1.1 p1.2 w
  have HU := fun w => datum 8 n0 p0.1 p0.2 w
  have HV := fun w => datum 8 n1 p1.1 p1.2 w
  have HAB := fun w => cmd k0 n0 k1 n1 w
  have HBA := fun w => cmd k1 n1 k0 n0 w
  have HAA := fun w => cmd k0 n0 k0 n0 w
  have HBC := fun w => cmd k1 n1 k2 n2 w
  have HAC := fun w => cmd k0 n0 k2 n2 w
  have HXY := fun w => cmd 7 n0 7 n1 w
  have HUV := fun w => cmd 8 n0 8 n1 w
  have HXV := fun w => cmd 7 n0 8 n1 w
  rw [dc_self] at HAA
  have hneg := dc_wrap k0 n0 k1 n1
  have htr : dc k0 n0 k1 n1 ≤ 0 → dc k1 n1 k2 n2 ≤ 0 → ¬ 0 < dc k0 n0 k2 n2 := dc_trans
  have hxy := dc_int p0.1 p0.2 p1.1 p1.2
  have huv := dc_uint p0.1 p0.2 p1.1 p1.2
  have hxv := dc_mix p0.1 p0.2 p1.1 p1.2
  have hw0 := i64_wrap p0.1 p0.2
  have hw1 := i64_wrap p1.1 p1.2
  generalize i64 n0 = m0 at *
  generalize i64 n1 = m1 at *
  have HW0 := Lib.hid hw0
  have HW1b := Lib.hid hw1
  have HAW := fun w => awake w
  generalize dc k0 n0 k1 n1 = ab at *
  generalize dc k1 n1 k0 n0 = ba at *
  generalize dc k1 n1 k2 n2 = bc at *
  generalize dc k0 n0 k2 n2 = ac at *
  generalize dc 7 n0 7 n1 = xy at *
  generalize dc 8 n0 8 n1 = uv at *
  generalize dc 7 n0 8 n1 = xv at *
  have HN := Lib.hid (And.intro hneg (And.intro htr (And.intro hxy (And.intro huv hxv))))
  generalize dat 7 n0 = dx at *
  generalize dat 7 n1 = dy at *
  generalize dat 8 n0 = du at *
  generalize dat 8 n1 = dv at *
  generalize dat k0 n0 = da at *
  generalize dat k1 n1 = db at *
  generalize dat k2 n2 = dc_ at *
  obtain ⟨a1, a2, a3⟩ := da
  obtain ⟨b1, b2, b3⟩ := db
  obtain ⟨c1, c2, c3⟩ := dc_
  obtain ⟨x1, x2, x3⟩ := dx
  obtain ⟨y1, y2, y3⟩ := dy
  obtain ⟨u1, u2, u3⟩ := du
  obtain ⟨v1, v2, v3⟩ := dv
  dsimp only at *
  clear hneg htr hxy huv hxv p0 p1 p2 hw0 hw1
  obtain ⟨h1, h2, b0⟩ := two_al w #[.int .i64 k0, .int .i64 k1, .int .i64 k2] #[.int .u64 n0, .int .u64 n1, .int .u64 n2] 36 37
  have HS : Hid (∀ W, Below ((w.alloc (.cells #[.int .i64 k0, .int .i64 k1, .int .i64 k2] 36)).alloc (.cells #[.int .u64 n0, .int .u64 n1, .int .u64 n2] 37)).drew.heap.size ((w.alloc (.cells #[.int .i64 k0, .int .i64 k1, .int .i64 k2] 36)).alloc (.cells #[.int .u64 n0, .int .u64 n1, .int .u64 n2] 37)).drew W → (W.cell? ⟨w.heap.size, 0, none⟩ = some (.int .i64 k0) ∧ W.cell? ⟨w.heap.size, 1, none⟩ = some (.int .i64 k1) ∧ W.cell? ⟨w.heap.size, 2, none⟩ = some (.int .i64 k2)) ∧ W.cell? ⟨w.heap.size + 1, 0, none⟩ = some (.int .u64 n0) ∧ W.cell? ⟨w.heap.size + 1, 1, none⟩ = some (.int .u64 n1) ∧ W.cell? ⟨w.heap.size + 1, 2, none⟩ = some (.int .u64 n2)) := Lib.hid (fun W hb =>
    have g1 := blk_below (w := ((w.alloc (.cells #[.int .i64 k0, .int .i64 k1, .int .i64 k2] 36)).alloc (.cells #[.int .u64 n0, .int .u64 n1, .int .u64 n2] 37)).drew) h1 hb
    have g2 := blk_below (w := ((w.alloc (.cells #[.int .i64 k0, .int .i64 k1, .int .i64 k2] 36)).alloc (.cells #[.int .u64 n0, .int .u64 n1, .int .u64 n2] 37)).drew) h2 hb
    ⟨⟨blk_cell g1 0, blk_cell g1 1, blk_cell g1 2⟩, blk_cell g2 0, blk_cell g2 1, blk_cell g2 2⟩)
  have HB0 := Lib.hid b0
  generalize hW1 : (w.alloc (.cells #[.int .i64 k0, .int .i64 k1, .int .i64 k2] 36)).alloc (.cells #[.int .u64 n0, .int .u64 n1, .int .u64 n2] 37) = W1 at *
  have HW1 := Lib.hid hW1
  clear h1 h2 b0 hW1
  go_enter Try.func5, Try.ntmps5
  go_wp2_with fail
  rw [HW1.out]
  clear HW1
  refine Reg.wp_planN (S := fun W => (W.cell? ⟨w.heap.size, 0, none⟩ = some (.int .i64 k0) ∧ W.cell? ⟨w.heap.size, 1, none⟩ = some (.int .i64 k1) ∧ W.cell? ⟨w.heap.size, 2, none⟩ = some (.int .i64 k2)) ∧ W.cell? ⟨w.heap.size + 1, 0, none⟩ = some (.int .u64 n0) ∧ W.cell? ⟨w.heap.size + 1, 1, none⟩ = some (.int .u64 n1) ∧ W.cell? ⟨w.heap.size + 1, 2, none⟩ = some (.int .u64 n2)) 21 (.fl 0 (.fl 1 (.fl 2 (.fl 3 (.fl 5 (.fl 6 (.fl 7 (.fl 8 (.fl 10 (.fl 11 (.fl 12 (.fl 13 (.alt 4 (.alt 9 (.alt 14 (.alt 15 (.alt 16 (.alt 17 (.alt 18 (.alt 19 (.alt 20 .done .none) .none) .none) .none) (.alt 17 (.alt 16 (.alt 18 (.alt 19 (.alt 20 .done .none) .none) .none) .none) .none)) (.alt 16 (.alt 15 (.alt 17 (.alt 18 (.alt 19 (.alt 20 .done .none) .none) .none) .none) (.alt 17 (.alt 15 (.alt 18 (.alt 19 (.alt 20 .done .none) .none) .none) .none) .none)) (.alt 17 (.alt 15 (.alt 16 (.alt 18 (.alt 19 (.alt 20 .done .none) .none) .none) .none) (.alt 16 (.alt 15 (.alt 18 (.alt 19 (.alt 20 .done .none) .none) .none) .none) .none)) .none))) (.alt 15 (.alt 14 (.alt 16 (.alt 17 (.alt 18 (.alt 19 (.alt 20 .done .none) .none) .none) .none) (.alt 17 (.alt 16 (.alt 18 (.alt 19 (.alt 20 .done .none) .none) .none) .none) .none)) (.alt 16 (.alt 14 (.alt 17 (.alt 18 (.alt 19 (.alt 20 .done .none) .none) .none) .none) (.alt 17 (.alt 14 (.alt 18 (.alt 19 (.alt 20 .done .none) .none) .none) .none) .none)) (.alt 17 (.alt 14 (.alt 16 (.alt 18 (.alt 19 (.alt 20 .done .none) .none) .none) .none) (.alt 16 (.alt 14 (.alt 18 (.alt 19 (.alt 20 .done .none) .none) .none) .none) .none)) .none))) (.alt 16 (.alt 14 (.alt 15 (.alt 17 (.alt 18 (.alt 19 (.alt 20 .done .none) .none) .none) .none) (.alt 17 (.alt 15 (.alt 18 (.alt 19 (.alt 20 .done .none) .none) .none) .none) .none)) (.alt 15 (.alt 14 (.alt 17 (.alt 18 (.alt 19 (.alt 20 .done .none) .none) .none) .none) (.alt 17 (.alt 14 (.alt 18 (.alt 19 (.alt 20 .done .none) .none) .none) .none) .none)) (.alt 17 (.alt 14 (.alt 15 (.alt 18 (.alt 19 (.alt 20 .done .none) .none) .none) .none) (.alt 15 (.alt 14 (.alt 18 (.alt 19 (.alt 20 .done .none) .none) .none) .none) .none)) .none))) (.alt 17 (.alt 14 (.alt 15 (.alt 16 (.alt 18 (.alt 19 (.alt 20 .done .none) .none) .none) .none) (.alt 16 (.alt 15 (.alt 18 (.alt 19 (.alt 20 .done .none) .none) .none) .none) .none)) (.alt 15 (.alt 14 (.alt 16 (.alt 18 (.alt 19 (.alt 20 .done .none) .none) .none) .none) (.alt 16 (.alt 14 (.alt 18 (.alt 19 (.alt 20 .done .none) .none) .none) .none) .none)) (.alt 16 (.alt 14 (.alt 15 (.alt 18 (.alt 19 (.alt 20 .done .none) .none) .none) .none) (.alt 15 (.alt 14 (.alt 18 (.alt 19 (.alt 20 .done .none) .none) .none) .none) .none)) .none))) .none)))) (.alt 15 (.alt 9 (.alt 14 (.alt 16 (.alt 17 (.alt 18 (.alt 19 (.alt 20 .done .none) .none) .none) .none) (.alt 17 (.alt 16 (.alt 18 (.alt 19 (.alt 20 .done .none) .none) .none) .none) .none)) (.alt 16 (.alt 14 (.alt 17 (.alt 18 (.alt 19 (.alt 20 .done .none) .none) .none) .none) (.alt 17 (.alt 14 (.alt 18 (.alt 19 (.alt 20 .done .none) .none) .none) .none) .none)) (.alt 17 (.alt 14 (.alt 16 (.alt 18 (.alt 19 (.alt 20 .done .none) .none) .none) .none) (.alt 16 (.alt 14 (.alt 18 (.alt 19 (.alt 20 .done .none) .none) .none) .none) .none)) .none))) (.alt 16 (.alt 9 (.alt 14 (.alt 17 (.alt 18 (.alt 19 (.alt 20 .done .none) .none) .none) .none) (.alt 17 (.alt 14 (.alt 18 (.alt 19 (.alt 20 .done .none) .none) .none) .none) .none)) (.alt 17 (.alt 9 (.alt 14 (.alt 18 (.alt 19 (.alt 20 .done .none) .none) .none) .none) .none) .none)) (.alt 17 (.alt 9 (.alt 14 (.alt 16 (.alt 18 (.alt 19 (.alt 20 .done .none) .none) .none) .none) (.alt 16 (.alt 14 (.alt 18 (.alt 19 (.alt 20 .done .none) .none) .none) .none) .none)) (.alt 16 (.alt 9 (.alt 14 (.alt 18 (.alt 19 (.alt 20 .done .none) .none) .none) .none) .none) .none)) .none))) (.alt 16 (.alt 9 (.alt 14 (.alt 15 (.alt 17 (.alt 18 (.alt 19 (.alt 20 .done .none) .none) .none) .none) (.alt 17 (.alt 15 (.alt 18 (.alt 19 (.alt 20 .done .none) .none) .none) .none) .none)) (.alt 15 (.alt 14 (.alt 17 (.alt 18 (.alt 19 (.alt 20 .done .none) .none) .none) .none) (.alt 17 (.alt 14 (.alt 18 (.alt 19 (.alt 20 .done .none) .none) .none) .none) .none)) (.alt 17 (.alt 14 (.alt 15 (.alt 18 (.alt 19 (.alt 20 .done .none) .none) .none) .none) (.alt 15 (.alt 14 (.alt 18 (.alt 19 (.alt 20 .done .none) .none) .none) .none) .none)) .none))) (.alt 15 (.alt 9 (.alt 14 (.alt 17 (.alt 18 (.alt 19 (.alt 20 .done .none) .none) .none) .none) (.alt 17 (.alt 14 (.alt 18 (.alt 19 (.alt 20 .done .none) .none) .none) .none) .none)) (.alt 17 (.alt 9 (.alt 14 (.alt 18 (.alt 19 (.alt 20 .done .none) .none) .none) .none) .none) .none)) (.alt 17 (.alt 9 (.alt 14 (.alt 15 (.alt 18 (.alt 19 (.alt 20 .done .none) .none) .none) .none) (.alt 15 (.alt 14 (.alt 18 (.alt 19 (.alt 20 .done .none) .none) .none) .none) .none)) (.alt 15 (.alt 9 (.alt 14 (.alt 18 (.alt 19 (.alt 20 .done .none) .none) .none) .none) .none) .none)) .none))) (.alt 17 (.alt 9 (.alt 14 (.alt 15 (.alt 16 (.alt 18 (.alt 19 (.alt 20 .done .none) .none) .none) .none) (.alt 16 (.alt 15 (.alt 18 (.alt 19 (.alt 20 .done .none) .none) .none) .none) .none)) (.alt 15 (.alt 14 (.alt 16 (.alt 18 (.alt 19 (.alt 20 .done .none) .none) .none) .none) (.alt 16 (.alt 14 (.alt 18 (.alt 19 (.alt 20 .done .none) .none) .none) .none) .none)) (.alt 16 (.alt 14 (.alt 15 (.alt 18 (.alt 19 (.alt 20 .done .none) .none) .none) .none) (.alt 15 (.alt 14 (.alt 18 (.alt 19 (.alt 20 .done .none) .none) .none) .none) .none)) .none))) (.alt 15 (.alt 9 (.alt 14 (.alt 16 (.alt 18 (.alt 19 (.alt 20 .done .none) .none) .none) .none) (.alt 16 (.alt 14 (.alt 18 (.alt 19 (.alt 20 .done .none) .none) .none) .none) .none)) (.alt 16 (.alt 9 (.alt 14 (.alt 18 (.alt 19 (.alt 20 .done .none) .none) .none) .none) .none) .none)) (.alt 16 (.alt 9 (.alt 14 (.alt 15 (.alt 18 (.alt 19 (.alt 20 .done .none) .none) .none) .none) (.alt 15 (.alt 14 (.alt 18 (.alt 19 (.alt 20 .done .none) .none) .none) .none) .none)) (.alt 15 (.alt 9 (.alt 14 (.alt 18 (.alt 19 (.alt 20 .done .none) .none) .none) .none) .none) .none)) .none))) .none)))) (.alt 15 (.alt 4 (.alt 9 (.alt 14 (.alt 16 (.alt 17 (.alt 18 (.alt 19 (.alt 20 .done .none) .none) .none) .none) (.alt 17 (.alt 16 (.alt 18 (.alt 19 (.alt 20 .done .none) .none) .none) .none) .none)) (.alt 16 (.alt 14 (.alt 17 (.alt 18 (.alt 19 (.alt 20 .done .none) .none) .none) .none) (.alt 17 (.alt 14 (.alt 18 (.alt 19 (.alt 20 .done .none) .none) .none) .none) .none)) (.alt 17 (.alt 14 (.alt 16 (.alt 18 (.alt 19 (.alt 20 .done .none) .none) .none) .none) (.alt 16 (.alt 14 (.alt 18 (.alt 19 (.alt 20 .done .none) .none) .none) .none) .none)) .none))) (.alt 16 (.alt 9 (.alt 14 (.alt 17 (.alt 18 (.alt 19 (.alt 20 .done .none) .none) .none) .none) (.alt 17 (.alt 14 (.alt 18 (.alt 19 (.alt 20 .done .none) .none) .none) .none) .none)) (.alt 17 (.alt 9 (.alt 14 (.alt 18 (.alt 19 (.alt 20 .done .none) .none) .none) .none) .none) .none)) (.alt 17 (.alt 9 (.alt 14 (.alt 16 (.alt 18 (.alt 19 (.alt 20 .done .none) .none) .none) .none) (.alt 16 (.alt 14 (.alt 18 (.alt 19 (.alt 20 .done .none) .none) .none) .none) .none)) (.alt 16 (.alt 9 (.alt 14 (.alt 18 (.alt 19 (.alt 20 .done .none) .none) .none) .none) .none) .none)) .none))) (.alt 16 (.alt 4 (.alt 9 (.alt 14 (.alt 17 (.alt 18 (.alt 19 (.alt 20 .done .none) .none) .none) .none) (.alt 17 (.alt 14 (.alt 18 (.alt 19 (.alt 20 .done .none) .none) .none) .none) .none)) (.alt 17 (.alt 9 (.alt 14 (.alt 18 (.alt 19 (.alt 20 .done .none) .none) .none) .none) .none) .none)) (.alt 17 (.alt 4 (.alt 9 (.alt 14 (.alt 18 (.alt 19 (.alt 20 .done .none) .none) .none) .none) .none) .none) .none)) (.alt 17 (.alt 4 (.alt 9 (.alt 14 (.alt 16 (.alt 18 (.alt 19 (.alt 20 .done .none) .none) .none) .none) (.alt 16 (.alt 14 (.alt 18 (.alt 19 (.alt 20 .done .none) .none) .none) .none) .none)) (.alt 16 (.alt 9 (.alt 14 (.alt 18 (.alt 19 (.alt 20 .done .none) .none) .none) .none) .none) .none)) (.alt 16 (.alt 4 (.alt 9 (.alt 14 (.alt 18 (.alt 19 (.alt 20 .done .none) .none) .none) .none) .none) .none) .none)) .none))) (.alt 16 (.alt 4 (.alt 9 (.alt 14 (.alt 15 (.alt 17 (.alt 18 (.alt 19 (.alt 20 .done .none) .none) .none) .none) (.alt 17 (.alt 15 (.alt 18 (.alt 19 (.alt 20 .done .none) .none) .none) .none) .none)) (.alt 15 (.alt 14 (.alt 17 (.alt 18 (.alt 19 (.alt 20 .done .none) .none) .none) .none) (.alt 17 (.alt 14 (.alt 18 (.alt 19 (.alt 20 .done .none) .none) .none) .none) .none)) (.alt 17 (.alt 14 (.alt 15 (.alt 18 (.alt 19 (.alt 20 .done .none) .none) .none) .none) (.alt 15 (.alt 14 (.alt 18 (.alt 19 (.alt 20 .done .none) .none) .none) .none) .none)) .none))) (.alt 15 (.alt 9 (.alt 14 (.alt 17 (.alt 18 (.alt 19 (.alt 20 .done .none) .none) .none) .none) (.alt 17 (.alt 14 (.alt 18 (.alt 19 (.alt 20 .done .none) .none) .none) .none) .none)) (.alt 17 (.alt 9 (.alt 14 (.alt 18 (.alt 19 (.alt 20 .done .none) .none) .none) .none) .none) .none)) (.alt 17 (.alt 9 (.alt 14 (.alt 15 (.alt 18 (.alt 19 (.alt 20 .done .none) .none) .none) .none) (.alt 15 (.alt 14 (.alt 18 (.alt 19 (.alt 20 .done .none) .none) .none) .none) .none)) (.alt 15 (.alt 9 (.alt 14 (.alt 18 (.alt 19 (.alt 20 .done .none) .none) .none) .none) .none) .none)) .none))) (.alt 15 (.alt 4 (.alt 9 (.alt 14 (.alt 17 (.alt 18 (.alt 19 (.alt 20 .done .none) .none) .none) .none) (.alt 17 (.alt 14 (.alt 18 (.alt 19 (.alt 20 .done .none) .none) .none) .none) .none)) (.alt 17 (.alt 9 (.alt 14 (.alt 18 (.alt 19 (.alt 20 .done .none) .none) .none) .none) .none) .none)) (.alt 17 (.alt 4 (.alt 9 (.alt 14 (.alt 18 (.alt 19 (.alt 20 .done .none) .none) .none) .none) .none) .none) .none)) (.alt 17 (.alt 4 (.alt 9 (.alt 14 (.alt 15 (.alt 18 (.alt 19 (.alt 20 .done .none) .none) .none) .none) (.alt 15 (.alt 14 (.alt 18 (.alt 19 (.alt 20 .done .none) .none) .none) .none) .none)) (.alt 15 (.alt 9 (.alt 14 (.alt 18 (.alt 19 (.alt 20 .done .none) .none) .none) .none) .none) .none)) (.alt 15 (.alt 4 (.alt 9 (.alt 14 (.alt 18 (.alt 19 (.alt 20 .done .none) .none) .none) .none) .none) .none) .none)) .none))) (.alt 17 (.alt 4 (.alt 9 (.alt 14 (.alt 15 (.alt 16 (.alt 18 (.alt 19 (.alt 20 .done .none) .none) .none) .none) (.alt 16 (.alt 15 (.alt 18 (.alt 19 (.alt 20 .done .none) .none) .none) .none) .none)) (.alt 15 (.alt 14 (.alt 16 (.alt 18 (.alt 19 (.alt 20 .done .none) .none) .none) .none) (.alt 16 (.alt 14 (.alt 18 (.alt 19 (.alt 20 .done .none) .none) .none) .none) .none)) (.alt 16 (.alt 14 (.alt 15 (.alt 18 (.alt 19 (.alt 20 .done .none) .none) .none) .none) (.alt 15 (.alt 14 (.alt 18 (.alt 19 (.alt 20 .done .none) .none) .none) .none) .none)) .none))) (.alt 15 (.alt 9 (.alt 14 (.alt 16 (.alt 18 (.alt 19 (.alt 20 .done .none) .none) .none) .none) (.alt 16 (.alt 14 (.alt 18 (.alt 19 (.alt 20 .done .none) .none) .none) .none) .none)) (.alt 16 (.alt 9 (.alt 14 (.alt 18 (.alt 19 (.alt 20 .done .none) .none) .none) .none) .none) .none)) (.alt 16 (.alt 9 (.alt 14 (.alt 15 (.alt 18 (.alt 19 (.alt 20 .done .none) .none) .none) .none) (.alt 15 (.alt 14 (.alt 18 (.alt 19 (.alt 20 .done .none) .none) .none) .none) .none)) (.alt 15 (.alt 9 (.alt 14 (.alt 18 (.alt 19 (.alt 20 .done .none) .none) .none) .none) .none) .none)) .none))) (.alt 15 (.alt 4 (.alt 9 (.alt 14 (.alt 16 (.alt 18 (.alt 19 (.alt 20 .done .none) .none) .none) .none) (.alt 16 (.alt 14 (.alt 18 (.alt 19 (.alt 20 .done .none) .none) .none) .none) .none)) (.alt 16 (.alt 9 (.alt 14 (.alt 18 (.alt 19 (.alt 20 .done .none) .none) .none) .none) .none) .none)) (.alt 16 (.alt 4 (.alt 9 (.alt 14 (.alt 18 (.alt 19 (.alt 20 .done .none) .none) .none) .none) .none) .none) .none)) (.alt 16 (.alt 4 (.alt 9 (.alt 14 (.alt 15 (.alt 18 (.alt 19 (.alt 20 .done .none) .none) .none) .none) (.alt 15 (.alt 14 (.alt 18 (.alt 19 (.alt 20 .done .none) .none) .none) .none) .none)) (.alt 15 (.alt 9 (.alt 14 (.alt 18 (.alt 19 (.alt 20 .done .none) .none) .none) .none) .none) .none)) (.alt 15 (.alt 4 (.alt 9 (.alt 14 (.alt 18 (.alt 19 (.alt 20 .done .none) .none) .none) .none) .none) .none) .none)) .none))) .none)))))))))))))))) (by kernel_rfl) (by kernel_rfl) (by kernel_rfl) (by kernel_rfl) (fun _ _ _ d _ h => by cases d <;> exact h) ?_ (fun hHeld => ?_)
  · exact HS.out _ (Below.refl _ _)
  refine Reg.N_on (o := { dst := some 12, op := Op.indexAddr 36 (Operand.tmp 2) (Operand.const (Value.int IntKind.i64 0)), type := 0, pos := "law.go:43", after := #[], guard := Option.none }) (v := ?_) (by rfl) ?_ (fun wS hSw => ?_) ?_
  rotate_left
  · kernel_rfl
  · (try dsimp only at hSw); go_simp; (try with_reducible rfl)
  try simp only [Act.put, List.setIfInBounds_toArray, List.set_cons_zero, List.set_cons_succ]
  refine Reg.N_on (o := { dst := some 13, op := Op.load 3 (Operand.tmp 12), type := 3, pos := "law.go:43", after := #[{ on := 0, ground := Ground.data }], guard := Option.none }) (v := ?_) (by rfl) ?_ (fun wS hSw => ?_) ?_
  rotate_left
  · kernel_rfl
  · (try dsimp only at hSw); go_simp; (try with_reducible rfl)
  try simp only [Act.put, List.setIfInBounds_toArray, List.set_cons_zero, List.set_cons_succ]
  refine Reg.N_on (o := { dst := some 14, op := Op.indexAddr 37 (Operand.tmp 3) (Operand.const (Value.int IntKind.i64 0)), type := 0, pos := "law.go:43", after := #[], guard := Option.none }) (v := ?_) (by rfl) ?_ (fun wS hSw => ?_) ?_
  rotate_left
  · kernel_rfl
  · (try dsimp only at hSw); go_simp; (try with_reducible rfl)
  try simp only [Act.put, List.setIfInBounds_toArray, List.set_cons_zero, List.set_cons_succ]
  refine Reg.N_on (o := { dst := some 15, op := Op.load 22 (Operand.tmp 14), type := 22, pos := "law.go:43", after := #[{ on := 2, ground := Ground.data }], guard := Option.none }) (v := ?_) (by rfl) ?_ (fun wS hSw => ?_) ?_
  rotate_left
  · kernel_rfl
  · (try dsimp only at hSw); go_simp; (try with_reducible rfl)
  try simp only [Act.put, List.setIfInBounds_toArray, List.set_cons_zero, List.set_cons_succ]
  refine Reg.N_on (o := { dst := some 17, op := Op.indexAddr 36 (Operand.tmp 2) (Operand.const (Value.int IntKind.i64 1)), type := 0, pos := "law.go:43", after := #[], guard := Option.none }) (v := ?_) (by rfl) ?_ (fun wS hSw => ?_) ?_
  rotate_left
  · kernel_rfl
  · (try dsimp only at hSw); go_simp; (try with_reducible rfl)
  try simp only [Act.put, List.setIfInBounds_toArray, List.set_cons_zero, List.set_cons_succ]
  refine Reg.N_on (o := { dst := some 18, op := Op.load 3 (Operand.tmp 17), type := 3, pos := "law.go:43", after := #[{ on := 5, ground := Ground.data }], guard := Option.none }) (v := ?_) (by rfl) ?_ (fun wS hSw => ?_) ?_
  rotate_left
  · kernel_rfl
  · (try dsimp only at hSw); go_simp; (try with_reducible rfl)
  try simp only [Act.put, List.setIfInBounds_toArray, List.set_cons_zero, List.set_cons_succ]
  refine Reg.N_on (o := { dst := some 19, op := Op.indexAddr 37 (Operand.tmp 3) (Operand.const (Value.int IntKind.i64 1)), type := 0, pos := "law.go:43", after := #[], guard := Option.none }) (v := ?_) (by rfl) ?_ (fun wS hSw => ?_) ?_
  rotate_left
  · kernel_rfl
  · (try dsimp only at hSw); go_simp; (try with_reducible rfl)
  try simp only [Act.put, List.setIfInBounds_toArray, List.set_cons_zero, List.set_cons_succ]
  refine Reg.N_on (o := { dst := some 20, op := Op.load 22 (Operand.tmp 19), type := 22, pos := "law.go:43", after := #[{ on := 7, ground := Ground.data }], guard := Option.none }) (v := ?_) (by rfl) ?_ (fun wS hSw => ?_) ?_
  rotate_left
  · kernel_rfl
  · (try dsimp only at hSw); go_simp; (try with_reducible rfl)
  try simp only [Act.put, List.setIfInBounds_toArray, List.set_cons_zero, List.set_cons_succ]
  refine Reg.N_on (o := { dst := some 22, op := Op.indexAddr 36 (Operand.tmp 2) (Operand.const (Value.int IntKind.i64 2)), type := 0, pos := "law.go:43", after := #[], guard := Option.none }) (v := ?_) (by rfl) ?_ (fun wS hSw => ?_) ?_
  rotate_left
  · kernel_rfl
  · (try dsimp only at hSw); go_simp; (try with_reducible rfl)
  try simp only [Act.put, List.setIfInBounds_toArray, List.set_cons_zero, List.set_cons_succ]
  refine Reg.N_on (o := { dst := some 23, op := Op.load 3 (Operand.tmp 22), type := 3, pos := "law.go:43", after := #[{ on := 10, ground := Ground.data }], guard := Option.none }) (v := ?_) (by rfl) ?_ (fun wS hSw => ?_) ?_
  rotate_left
  · kernel_rfl
  · (try dsimp only at hSw); go_simp; (try with_reducible rfl)
  try simp only [Act.put, List.setIfInBounds_toArray, List.set_cons_zero, List.set_cons_succ]
  refine Reg.N_on (o := { dst := some 24, op := Op.indexAddr 37 (Operand.tmp 3) (Operand.const (Value.int IntKind.i64 2)), type := 0, pos := "law.go:43", after := #[], guard := Option.none }) (v := ?_) (by rfl) ?_ (fun wS hSw => ?_) ?_
  rotate_left
  · kernel_rfl
  · (try dsimp only at hSw); go_simp; (try with_reducible rfl)
  try simp only [Act.put, List.setIfInBounds_toArray, List.set_cons_zero, List.set_cons_succ]
  refine Reg.N_on (o := { dst := some 25, op := Op.load 22 (Operand.tmp 24), type := 22, pos := "law.go:43", after := #[{ on := 12, ground := Ground.data }], guard := Option.none }) (v := ?_) (by rfl) ?_ (fun wS hSw => ?_) ?_
  rotate_left
  · kernel_rfl
  · (try dsimp only at hSw); go_simp; (try with_reducible rfl)
  try simp only [Act.put, List.setIfInBounds_toArray, List.set_cons_zero, List.set_cons_succ]
  clear hHeld
  refine Reg.cutN (fun WN hWN a0 ha0 => ?_)
  have HWN := Lib.hid hWN
  have HA0 := Lib.hid ha0
  clear hWN ha0
  have H_4_9_14_15_16_17 : ∀ (b15 b16 b17 : Nat) (w9 : World), Below W1.drew.heap.size W1.drew w9 → (w9.heap[b15]? = some (.cells #[.int .i64 0, .bool false, .int .u64 0, .string ⟨#[]⟩] 29 (0, 0)) ∧ W1.drew.heap.size ≤ b15) → (w9.heap[b16]? = some (.cells #[.int .i64 0, .bool false, .int .u64 0, .string ⟨#[]⟩] 29 (0, 0)) ∧ W1.drew.heap.size ≤ b16) → (w9.heap[b17]? = some (.cells #[.int .i64 0, .bool false, .int .u64 0, .string ⟨#[]⟩] 29 (0, 0)) ∧ W1.drew.heap.size ≤ b17) → b15 ≠ b16 → b15 ≠ b17 → b16 ≠ b17 → WN (.alt 18 (.alt 19 (.alt 20 .done .none) .none) .none) { tmps := (upA a0.tmps.toList (.pointer (some ⟨b15, 0, none⟩)) (.pointer (some ⟨b16, 0, none⟩)) (.pointer (some ⟨b17, 0, none⟩)) (.agg #[.int .i64 a1, .bool a2, .int .u64 a3, .string ⟨#[]⟩]) (.agg #[.int .i64 b1, .bool b2, .int .u64 b3, .string ⟨#[]⟩]) (.agg #[.int .i64 c1, .bool c2, .int .u64 c3, .string ⟨#[]⟩])).toArray, defers := a0.defers } w9 := by
    intro b15 b16 b17 w9 hb f15 f16 f17 n15_16 n15_17 n16_17
    rw [HWN.out, HA0.out]
    simp only [upA, List.take_succ_cons, List.take_zero, List.drop_succ_cons, List.drop_zero, List.cons_append, List.nil_append]
    obtain ⟨⟨x0_, x1_, x2_, x3_⟩, z0_, z1_, z2_, z3_⟩ := dcells f15.1
    obtain ⟨q1_, q2_, q3_⟩ := dput f15.1 (.int .i64 a1) (.bool a2) (.int .u64 a3) (.string ⟨#[]⟩)
    have hb18 := q3_ hb f15.2
    refine Reg.N_step (o := { dst := Option.none, op := Op.store 29 (Operand.tmp 5) (Operand.tmp 16), type := 0, pos := "law.go:43", after := #[{ on := 15, ground := Ground.data }, { on := 4, ground := Ground.data }, { on := 14, ground := Ground.chain }, { on := 0, ground := Ground.phase }, { on := 1, ground := Ground.phase }, { on := 2, ground := Ground.phase }, { on := 3, ground := Ground.phase }, { on := 4, ground := Ground.phase }, { on := 5, ground := Ground.textOnly Departure.lateStores }, { on := 6, ground := Ground.textOnly Departure.lateStores }, { on := 7, ground := Ground.textOnly Departure.lateStores }, { on := 8, ground := Ground.textOnly Departure.lateStores }, { on := 9, ground := Ground.textOnly Departure.lateStoresUnsure }, { on := 10, ground := Ground.textOnly Departure.lateStores }, { on := 11, ground := Ground.textOnly Departure.lateStores }, { on := 12, ground := Ground.textOnly Departure.lateStores }, { on := 13, ground := Ground.textOnly Departure.lateStores }, { on := 14, ground := Ground.textOnly Departure.lateStoresUnsure }, { on := 15, ground := Ground.phase }, { on := 16, ground := Ground.phase }, { on := 17, ground := Ground.phase }], guard := Option.none }) (by rfl) ?_ (fun K hK => ?_) Reg.N_none
    · kernel_rfl
    go_simp
    refine hK.out _ _ (HS.out _ hb18) (fun _ => ?_)
    clear hK K
    try simp only [Act.put, List.setIfInBounds_toArray, List.set_cons_zero, List.set_cons_succ]
    have g16 := (q2_ _ (Ne.symm n15_16)).trans f16.1
    have g17 := (q2_ _ (Ne.symm n15_17)).trans f17.1
    have r18 := q1_
    clear x0_ x1_ x2_ x3_ z0_ z1_ z2_ z3_ q1_ q2_ q3_
    generalize (((w9.setCell ⟨b15, 0, none⟩ (.int .i64 a1)).setCell ⟨b15, 1, none⟩ (.bool a2)).setCell ⟨b15, 2, none⟩ (.int .u64 a3)).setCell ⟨b15, 3, none⟩ (.string ⟨#[]⟩) = wa at *
    have f16b := And.intro g16 f16.2
    obtain ⟨⟨x0_, x1_, x2_, x3_⟩, z0_, z1_, z2_, z3_⟩ := dcells f16b.1
    obtain ⟨q1_, q2_, q3_⟩ := dput f16b.1 (.int .i64 b1) (.bool b2) (.int .u64 b3) (.string ⟨#[]⟩)
    have hb19 := q3_ hb18 f16b.2
    refine Reg.N_step (o := { dst := Option.none, op := Op.store 29 (Operand.tmp 6) (Operand.tmp 21), type := 0, pos := "law.go:43", after := #[{ on := 16, ground := Ground.data }, { on := 9, ground := Ground.data }, { on := 18, ground := Ground.chain }, { on := 0, ground := Ground.phase }, { on := 1, ground := Ground.phase }, { on := 2, ground := Ground.phase }, { on := 3, ground := Ground.phase }, { on := 4, ground := Ground.phase }, { on := 5, ground := Ground.phase }, { on := 6, ground := Ground.phase }, { on := 7, ground := Ground.phase }, { on := 8, ground := Ground.phase }, { on := 9, ground := Ground.phase }, { on := 10, ground := Ground.textOnly Departure.lateStores }, { on := 11, ground := Ground.textOnly Departure.lateStores }, { on := 12, ground := Ground.textOnly Departure.lateStores }, { on := 13, ground := Ground.textOnly Departure.lateStores }, { on := 14, ground := Ground.textOnly Departure.lateStoresUnsure }, { on := 15, ground := Ground.phase }, { on := 16, ground := Ground.phase }, { on := 17, ground := Ground.phase }, { on := 18, ground := Ground.phase }], guard := Option.none }) (by rfl) ?_ (fun K hK => ?_) Reg.N_none
    · kernel_rfl
    go_simp
    refine hK.out _ _ (HS.out _ hb19) (fun _ => ?_)
    clear hK K
    try simp only [Act.put, List.setIfInBounds_toArray, List.set_cons_zero, List.set_cons_succ]
    have r18b := (q2_ _ n15_16).trans r18
    have g17b := (q2_ _ (Ne.symm n16_17)).trans g17
    have r19 := q1_
    clear x0_ x1_ x2_ x3_ z0_ z1_ z2_ z3_ q1_ q2_ q3_
    generalize (((wa.setCell ⟨b16, 0, none⟩ (.int .i64 b1)).setCell ⟨b16, 1, none⟩ (.bool b2)).setCell ⟨b16, 2, none⟩ (.int .u64 b3)).setCell ⟨b16, 3, none⟩ (.string ⟨#[]⟩) = wb at *
    have f17b := And.intro g17b f17.2
    obtain ⟨⟨x0_, x1_, x2_, x3_⟩, z0_, z1_, z2_, z3_⟩ := dcells f17b.1
    obtain ⟨q1_, q2_, q3_⟩ := dput f17b.1 (.int .i64 c1) (.bool c2) (.int .u64 c3) (.string ⟨#[]⟩)
    have hb20 := q3_ hb19 f17b.2
    refine Reg.N_step (o := { dst := Option.none, op := Op.store 29 (Operand.tmp 7) (Operand.tmp 26), type := 0, pos := "law.go:43", after := #[{ on := 17, ground := Ground.data }, { on := 14, ground := Ground.data }, { on := 19, ground := Ground.chain }, { on := 0, ground := Ground.phase }, { on := 1, ground := Ground.phase }, { on := 2, ground := Ground.phase }, { on := 3, ground := Ground.phase }, { on := 4, ground := Ground.phase }, { on := 5, ground := Ground.phase }, { on := 6, ground := Ground.phase }, { on := 7, ground := Ground.phase }, { on := 8, ground := Ground.phase }, { on := 9, ground := Ground.phase }, { on := 10, ground := Ground.phase }, { on := 11, ground := Ground.phase }, { on := 12, ground := Ground.phase }, { on := 13, ground := Ground.phase }, { on := 14, ground := Ground.phase }, { on := 15, ground := Ground.phase }, { on := 16, ground := Ground.phase }, { on := 17, ground := Ground.phase }, { on := 18, ground := Ground.phase }, { on := 19, ground := Ground.phase }], guard := Option.none }) (by rfl) ?_ (fun K hK => ?_) Reg.N_none
    · kernel_rfl
    go_simp
    refine hK.out _ _ (HS.out _ hb20) (fun _ => ?_)
    clear hK K
    try simp only [Act.put, List.setIfInBounds_toArray, List.set_cons_zero, List.set_cons_succ]
    have r18c := (q2_ _ n15_17).trans r18b
    have r19c := (q2_ _ n16_17).trans r19
    have r20 := q1_
    clear x0_ x1_ x2_ x3_ z0_ z1_ z2_ z3_ q1_ q2_ q3_
    generalize (((wb.setCell ⟨b17, 0, none⟩ (.int .i64 c1)).setCell ⟨b17, 1, none⟩ (.bool c2)).setCell ⟨b17, 2, none⟩ (.int .u64 c3)).setCell ⟨b17, 3, none⟩ (.string ⟨#[]⟩) = wc at *
    refine Reg.N_done ?_
    have HKA : Hid (∀ W, Below wc.heap.size wc W → (W.cell? ⟨b15, 0, none⟩ = some (.int .i64 a1) ∧ W.cell? ⟨b15, 1, none⟩ = some (.bool a2) ∧ W.cell? ⟨b15, 2, none⟩ = some (.int .u64 a3) ∧ W.cell? ⟨b15, 3, none⟩ = some (.string ⟨#[]⟩)) ∧ (W.cell? ⟨b16, 0, none⟩ = some (.int .i64 b1) ∧ W.cell? ⟨b16, 1, none⟩ = some (.bool b2) ∧ W.cell? ⟨b16, 2, none⟩ = some (.int .u64 b3) ∧ W.cell? ⟨b16, 3, none⟩ = some (.string ⟨#[]⟩)) ∧ (W.cell? ⟨b17, 0, none⟩ = some (.int .i64 c1) ∧ W.cell? ⟨b17, 1, none⟩ = some (.bool c2) ∧ W.cell? ⟨b17, 2, none⟩ = some (.int .u64 c3) ∧ W.cell? ⟨b17, 3, none⟩ = some (.string ⟨#[]⟩))) := Lib.hid (fun W hw => have s1 := blk_below r18c hw; have s2 := blk_below r19c hw; have s3 := blk_below r20 hw; ⟨⟨blk_cell s1 0, blk_cell s1 1, blk_cell s1 2, blk_cell s1 3⟩, ⟨blk_cell s2 0, blk_cell s2 1, blk_cell s2 2, blk_cell s2 3⟩, blk_cell s3 0, blk_cell s3 1, blk_cell s3 2, blk_cell s3 3⟩)
    have HBW := Lib.hid hb20
    clear hb hb18 hb19 hb20 f15 f16 f17 f16b f17b g16 g17 g17b r18 r18b r18c r19 r19c r20 n15_16 n15_17 n16_17
    have hneg := HN.out.1
    go_wp2_with fail
    refine Reg.wp_plan (S := fun W => (W.cell? ⟨b15, 0, none⟩ = some (.int .i64 a1) ∧ W.cell? ⟨b15, 1, none⟩ = some (.bool a2) ∧ W.cell? ⟨b15, 2, none⟩ = some (.int .u64 a3) ∧ W.cell? ⟨b15, 3, none⟩ = some (.string ⟨#[]⟩)) ∧ (W.cell? ⟨b16, 0, none⟩ = some (.int .i64 b1) ∧ W.cell? ⟨b16, 1, none⟩ = some (.bool b2) ∧ W.cell? ⟨b16, 2, none⟩ = some (.int .u64 b3) ∧ W.cell? ⟨b16, 3, none⟩ = some (.string ⟨#[]⟩)) ∧ (W.cell? ⟨b17, 0, none⟩ = some (.int .i64 c1) ∧ W.cell? ⟨b17, 1, none⟩ = some (.bool c2) ∧ W.cell? ⟨b17, 2, none⟩ = some (.int .u64 c3) ∧ W.cell? ⟨b17, 3, none⟩ = some (.string ⟨#[]⟩))) 14 (.fl 0 (.fl 1 (.fl 3 (.fl 4 (.one 2 (.one 5 (.fl 6 (.fl 7 (.fl 8 (.fl 9 (.fl 10 (.one 11 (.fl 12 (.fl 13 .done)))))))))))))) (by kernel_rfl) (by kernel_rfl) (by kernel_rfl) (by kernel_rfl) (fun _ _ _ d _ h => by cases d <;> exact h) ?_ (fun hHeld => ?_)
    · exact HKA.out _ (below_dr wc)
    refine Reg.G_on (o := { dst := some 27, op := Op.load 29 (Operand.tmp 5), type := 29, pos := "law.go:44", after := #[], guard := Option.none }) (v := ?_) (by rfl) ?_ (fun wS hSw => ?_) ?_
    rotate_left
    · kernel_rfl
    · (try dsimp only at hSw); go_simp; (try with_reducible rfl)
    try simp only [Act.put, List.setIfInBounds_toArray, List.set_cons_zero, List.set_cons_succ]
    refine Reg.G_on (o := { dst := some 28, op := Op.load 29 (Operand.tmp 6), type := 29, pos := "law.go:44", after := #[], guard := Option.none }) (v := ?_) (by rfl) ?_ (fun wS hSw => ?_) ?_
    rotate_left
    · kernel_rfl
    · (try dsimp only at hSw); go_simp; (try with_reducible rfl)
    try simp only [Act.put, List.setIfInBounds_toArray, List.set_cons_zero, List.set_cons_succ]
    refine Reg.G_on (o := { dst := some 30, op := Op.load 29 (Operand.tmp 6), type := 29, pos := "law.go:44", after := #[], guard := Option.none }) (v := ?_) (by rfl) ?_ (fun wS hSw => ?_) ?_
    rotate_left
    · kernel_rfl
    · (try dsimp only at hSw); go_simp; (try with_reducible rfl)
    try simp only [Act.put, List.setIfInBounds_toArray, List.set_cons_zero, List.set_cons_succ]
    refine Reg.G_on (o := { dst := some 31, op := Op.load 29 (Operand.tmp 5), type := 29, pos := "law.go:44", after := #[], guard := Option.none }) (v := ?_) (by rfl) ?_ (fun wS hSw => ?_) ?_
    rotate_left
    · kernel_rfl
    · (try dsimp only at hSw); go_simp; (try with_reducible rfl)
    try simp only [Act.put, List.setIfInBounds_toArray, List.set_cons_zero, List.set_cons_succ]
    refine Reg.G_step (o := { dst := some 29, op := Op.call { callee := Callee.value (Operand.func 23), args := #[Operand.tmp 27, Operand.tmp 28], argTypes := #[29, 29] }, type := 3, pos := "law.go:44", after := #[{ on := 0, ground := Ground.data }, { on := 1, ground := Ground.data }], guard := Option.none }) (by rfl) ?_ (fun K hK => ?_)
    · kernel_rfl
    go_simp
    refine (HAB _).mono ?_
    rintro e w' ⟨rfl, h1_⟩
    refine hK.out _ _ ?_ (fun hHeld => ?_)
    · exact HKA.out _ (bstep (below_dr wc) h1_)
    clear hK K
    try simp only [Act.put, List.setIfInBounds_toArray, List.set_cons_zero, List.set_cons_succ]
    skip
    have H1 := Lib.hid (bstep (below_dr wc) h1_)
    refine Reg.G_step (o := { dst := some 32, op := Op.call { callee := Callee.value (Operand.func 23), args := #[Operand.tmp 30, Operand.tmp 31], argTypes := #[29, 29] }, type := 3, pos := "law.go:44", after := #[{ on := 3, ground := Ground.data }, { on := 4, ground := Ground.data }, { on := 2, ground := Ground.chain }], guard := Option.none }) (by rfl) ?_ (fun K hK => ?_)
    · kernel_rfl
    go_simp
    refine (HBA _).mono ?_
    rintro e w' ⟨rfl, h2_⟩
    refine hK.out _ _ ?_ (fun hHeld => ?_)
    · exact HKA.out _ (bstep H1.out h2_)
    clear hK K
    try simp only [Act.put, List.setIfInBounds_toArray, List.set_cons_zero, List.set_cons_succ]
    refine Reg.G_on (o := { dst := some 33, op := Op.unOp UnOp.neg 3 (Operand.tmp 32), type := 3, pos := "law.go:44", after := #[{ on := 5, ground := Ground.data }], guard := Option.none }) (v := ?_) (by rfl) ?_ (fun wS hSw => ?_) ?_
    rotate_left
    · kernel_rfl
    · (try dsimp only at hSw); go_simp; (try with_reducible rfl)
    try simp only [Act.put, List.setIfInBounds_toArray, List.set_cons_zero, List.set_cons_succ]
    refine Reg.G_on (o := { dst := some 34, op := Op.binOp BinOp.neq 3 (Operand.tmp 29) (Operand.tmp 33) 3, type := 4, pos := "law.go:44", after := #[{ on := 2, ground := Ground.data }, { on := 6, ground := Ground.data }], guard := Option.none }) (v := ?_) (by rfl) ?_ (fun wS hSw => ?_) ?_
    rotate_left
    · kernel_rfl
    · (try dsimp only at hSw); go_simp; (try with_reducible rfl)
    try simp only [Act.put, List.setIfInBounds_toArray, List.set_cons_zero, List.set_cons_succ]
    refine Reg.G_on (o := { dst := some 35, op := Op.move (Operand.tmp 34), type := 4, pos := "law.go:44", after := #[{ on := 7, ground := Ground.data }, { on := 5, ground := Ground.chain }], guard := Option.none }) (v := ?_) (by rfl) ?_ (fun wS hSw => ?_) ?_
    rotate_left
    · kernel_rfl
    · (try dsimp only at hSw); go_simp; (try with_reducible rfl)
    try simp only [Act.put, List.setIfInBounds_toArray, List.set_cons_zero, List.set_cons_succ]
    refine Reg.G_on (o := { dst := some 36, op := Op.load 29 (Operand.tmp 5), type := 29, pos := "law.go:44", after := #[{ on := 8, ground := Ground.guard }], guard := some (8, false) }) (v := ?_) (by rfl) ?_ (fun wS hSw => ?_) ?_
    rotate_left
    · kernel_rfl
    · (try dsimp only at hSw); go_simp; (try with_reducible rfl)
    try simp only [Act.put, List.setIfInBounds_toArray, List.set_cons_zero, List.set_cons_succ]
    refine Reg.G_on (o := { dst := some 37, op := Op.load 29 (Operand.tmp 5), type := 29, pos := "law.go:44", after := #[{ on := 8, ground := Ground.guard }], guard := some (8, false) }) (v := ?_) (by rfl) ?_ (fun wS hSw => ?_) ?_
    rotate_left
    · kernel_rfl
    · (try dsimp only at hSw); go_simp; (try with_reducible rfl)
    try simp only [Act.put, List.setIfInBounds_toArray, List.set_cons_zero, List.set_cons_succ]
    have H2 := Lib.hid (bstep H1.out h2_)
    refine Reg.G_step (o := { dst := some 38, op := Op.call { callee := Callee.value (Operand.func 23), args := #[Operand.tmp 36, Operand.tmp 37], argTypes := #[29, 29] }, type := 3, pos := "law.go:44", after := #[{ on := 9, ground := Ground.data }, { on := 10, ground := Ground.data }, { on := 8, ground := Ground.chain }, { on := 8, ground := Ground.guard }], guard := some (8, false) }) (by rfl) ?_ (fun K hK => ?_)
    · kernel_rfl
    go_simp
    refine (HAA _).mono ?_
    rintro e w' ⟨rfl, h3_⟩
    refine hK.out _ _ ?_ (fun hHeld => ?_)
    · exact HKA.out _ (bstep H2.out h3_)
    clear hK K
    try simp only [Act.put, List.setIfInBounds_toArray, List.set_cons_zero, List.set_cons_succ]
    refine Reg.G_on (o := { dst := some 39, op := Op.binOp BinOp.neq 3 (Operand.tmp 38) (Operand.const (Value.int IntKind.i64 0)) 3, type := 4, pos := "law.go:44", after := #[{ on := 11, ground := Ground.data }, { on := 8, ground := Ground.guard }], guard := some (8, false) }) (v := ?_) (by rfl) ?_ (fun wS hSw => ?_) ?_
    rotate_left
    · kernel_rfl
    · (try dsimp only at hSw); go_simp; (try with_reducible rfl)
    try simp only [Act.put, List.setIfInBounds_toArray, List.set_cons_zero, List.set_cons_succ]
    refine Reg.G_on (o := { dst := some 40, op := Op.pick (Operand.tmp 35) (Operand.const (Value.bool true)) (Operand.tmp 39), type := 4, pos := "law.go:44", after := #[{ on := 8, ground := Ground.data }, { on := 12, ground := Ground.data }], guard := Option.none }) (v := ?_) (by rfl) ?_ (fun wS hSw => ?_) ?_
    rotate_left
    · kernel_rfl
    · (try dsimp only at hSw); go_simp; (try with_reducible rfl)
    try simp only [Act.put, List.setIfInBounds_toArray, List.set_cons_zero, List.set_cons_succ]
    refine Reg.G_done ?_
    have H3 := Lib.hid (bstep H2.out h3_)
    clear hHeld hneg h1_ h2_ h3_
    rename World => wd
    obtain ⟨⟨ea0, ea1, ea2, ea3⟩, ⟨eb0, eb1, eb2, eb3⟩, ec0, ec1, ec2, ec3⟩ := HKA.out wd H3.out
    go_wp2_with (first | ((with_reducible refine gate_dst (N := 41) rfl ?_); refine Hid.out (p := _) ?_) | fail)
    rename_i K4 hK4 K4b hK4b
    refine Lib.hid ?_
    refine tailcutP K4 (fun W => Below wc.heap.size wc W) ?_ ?_
    · clear ea0 ea1 ea2 ea3 eb0 eb1 eb2 eb3 ec0 ec1 ec2 ec3
      clear hK4b
      rintro t41 t42 t43 t44 t45 t46 t47 t48 t49 t50 t51 t52 t53 t54 t55 t56 we hwe
      simp only [upP, List.take_succ_cons, List.take_zero, List.drop_succ_cons, List.drop_zero, List.cons_append, List.nil_append]
      refine hK4 _ _ ?_
      clear hK4
      have HWE := Lib.hid hwe
      clear hwe
      have HN6 : Hid (∀ W, Below we.drew.heap.size we.drew W → W.cell? ⟨w.heap.size + 1, 0, none⟩ = some (.int .u64 n0) ∧ W.cell? ⟨w.heap.size + 1, 1, none⟩ = some (.int .u64 n1) ∧ W.cell? ⟨w.heap.size + 1, 2, none⟩ = some (.int .u64 n2)) := Lib.hid (fun W hw => (HS.out W (bstep (bstep (bstep HBW.out HWE.out) (below_dr we)) hw)).2)
      have HB6 : Hid (Below w.heap.size w we.drew) := Lib.hid (bstep HB0.out (bstep (below_dr W1) (bstep (bstep HBW.out HWE.out) (below_dr we))))
      go_wp2_with fail
      refine Reg.wp_planN (S := fun W => W.cell? ⟨w.heap.size + 1, 0, none⟩ = some (.int .u64 n0) ∧ W.cell? ⟨w.heap.size + 1, 1, none⟩ = some (.int .u64 n1) ∧ W.cell? ⟨w.heap.size + 1, 2, none⟩ = some (.int .u64 n2)) 10 (.fl 0 (.fl 1 (.fl 3 (.fl 4 (.alt 2 (.alt 5 (.alt 6 (.alt 7 (.alt 8 (.alt 9 .done .none) .none) .none) (.alt 7 (.alt 6 (.alt 8 (.alt 9 .done .none) .none) .none) .none)) (.alt 6 (.alt 5 (.alt 7 (.alt 8 (.alt 9 .done .none) .none) .none) (.alt 7 (.alt 5 (.alt 8 (.alt 9 .done .none) .none) .none) .none)) (.alt 7 (.alt 5 (.alt 6 (.alt 8 (.alt 9 .done .none) .none) .none) (.alt 6 (.alt 5 (.alt 8 (.alt 9 .done .none) .none) .none) .none)) .none))) (.alt 6 (.alt 2 (.alt 5 (.alt 7 (.alt 8 (.alt 9 .done .none) .none) .none) (.alt 7 (.alt 5 (.alt 8 (.alt 9 .done .none) .none) .none) .none)) (.alt 7 (.alt 2 (.alt 5 (.alt 8 (.alt 9 .done .none) .none) .none) .none) .none)) (.alt 7 (.alt 2 (.alt 5 (.alt 6 (.alt 8 (.alt 9 .done .none) .none) .none) (.alt 6 (.alt 5 (.alt 8 (.alt 9 .done .none) .none) .none) .none)) (.alt 6 (.alt 2 (.alt 5 (.alt 8 (.alt 9 .done .none) .none) .none) .none) .none)) .none))))))) (by kernel_rfl) (by kernel_rfl) (by kernel_rfl) (by kernel_rfl) (fun _ _ _ d _ h => by cases d <;> exact h) ?_ (fun hHeld => ?_)
      · exact HN6.out _ (Below.refl _ _)
      refine Reg.N_on (o := { dst := some 57, op := Op.indexAddr 37 (Operand.tmp 3) (Operand.const (Value.int IntKind.i64 0)), type := 0, pos := "law.go:50", after := #[], guard := Option.none }) (v := ?_) (by rfl) ?_ (fun wS hSw => ?_) ?_
      rotate_left
      · kernel_rfl
      · (try dsimp only at hSw); go_simp; (try with_reducible rfl)
      try simp only [Act.put, List.setIfInBounds_toArray, List.set_cons_zero, List.set_cons_succ]
      refine Reg.N_on (o := { dst := some 58, op := Op.load 22 (Operand.tmp 57), type := 22, pos := "law.go:50", after := #[{ on := 0, ground := Ground.data }], guard := Option.none }) (v := ?_) (by rfl) ?_ (fun wS hSw => ?_) ?_
      rotate_left
      · kernel_rfl
      · (try dsimp only at hSw); go_simp; (try with_reducible rfl)
      try simp only [Act.put, List.setIfInBounds_toArray, List.set_cons_zero, List.set_cons_succ]
      refine Reg.N_on (o := { dst := some 60, op := Op.indexAddr 37 (Operand.tmp 3) (Operand.const (Value.int IntKind.i64 1)), type := 0, pos := "law.go:50", after := #[], guard := Option.none }) (v := ?_) (by rfl) ?_ (fun wS hSw => ?_) ?_
      rotate_left
      · kernel_rfl
      · (try dsimp only at hSw); go_simp; (try with_reducible rfl)
      try simp only [Act.put, List.setIfInBounds_toArray, List.set_cons_zero, List.set_cons_succ]
      refine Reg.N_on (o := { dst := some 61, op := Op.load 22 (Operand.tmp 60), type := 22, pos := "law.go:50", after := #[{ on := 3, ground := Ground.data }], guard := Option.none }) (v := ?_) (by rfl) ?_ (fun wS hSw => ?_) ?_
      rotate_left
      · kernel_rfl
      · (try dsimp only at hSw); go_simp; (try with_reducible rfl)
      try simp only [Act.put, List.setIfInBounds_toArray, List.set_cons_zero, List.set_cons_succ]
      clear hHeld
      refine Reg.cutN (fun WN hWN a0 ha0 => ?_)
      have HWN := Lib.hid hWN
      have HA0 := Lib.hid ha0
      clear hWN ha0
      have H_2_5_6_7 : ∀ (d6 d7 : Nat) (w9 : World), Below we.drew.heap.size we.drew w9 → (w9.heap[d6]? = some (.cells #[.int .i64 0, .bool false, .int .u64 0, .string ⟨#[]⟩] 29 (0, 0)) ∧ we.drew.heap.size ≤ d6) → (w9.heap[d7]? = some (.cells #[.int .i64 0, .bool false, .int .u64 0, .string ⟨#[]⟩] 29 (0, 0)) ∧ we.drew.heap.size ≤ d7) → d6 ≠ d7 → WN (.alt 8 (.alt 9 .done .none) .none) { tmps := (upX a0.tmps.toList (.pointer (some ⟨d6, 0, none⟩)) (.pointer (some ⟨d7, 0, none⟩)) (.agg #[.int .i64 x1, .bool x2, .int .u64 x3, .string ⟨#[]⟩]) (.agg #[.int .i64 y1, .bool y2, .int .u64 y3, .string ⟨#[]⟩])).toArray, defers := a0.defers } w9 := by
        intro d6 d7 w9 hb f6 f7 n6_7
        rw [HWN.out, HA0.out]
        simp only [upX, List.take_succ_cons, List.take_zero, List.drop_succ_cons, List.drop_zero, List.cons_append, List.nil_append]
        obtain ⟨⟨x0_, x1_, x2_, x3_⟩, z0_, z1_, z2_, z3_⟩ := dcells f6.1
        obtain ⟨q1_, q2_, q3_⟩ := dput f6.1 (.int .i64 x1) (.bool x2) (.int .u64 x3) (.string ⟨#[]⟩)
        have hb8x := q3_ hb f6.2
        refine Reg.N_step (o := { dst := Option.none, op := Op.store 29 (Operand.tmp 8) (Operand.tmp 59), type := 0, pos := "law.go:50", after := #[{ on := 6, ground := Ground.data }, { on := 2, ground := Ground.data }, { on := 5, ground := Ground.chain }, { on := 0, ground := Ground.phase }, { on := 1, ground := Ground.phase }, { on := 2, ground := Ground.phase }, { on := 3, ground := Ground.textOnly Departure.lateStores }, { on := 4, ground := Ground.textOnly Departure.lateStores }, { on := 5, ground := Ground.textOnly Departure.lateStoresUnsure }, { on := 6, ground := Ground.phase }, { on := 7, ground := Ground.phase }], guard := Option.none }) (by rfl) ?_ (fun K hK => ?_) Reg.N_none
        · kernel_rfl
        go_simp
        refine hK.out _ _ (HN6.out _ hb8x) (fun _ => ?_)
        clear hK K
        try simp only [Act.put, List.setIfInBounds_toArray, List.set_cons_zero, List.set_cons_succ]
        have g17x := (q2_ _ (Ne.symm n6_7)).trans f7.1
        have r8x := q1_
        clear x0_ x1_ x2_ x3_ z0_ z1_ z2_ z3_ q1_ q2_ q3_
        generalize (((w9.setCell ⟨d6, 0, none⟩ (.int .i64 x1)).setCell ⟨d6, 1, none⟩ (.bool x2)).setCell ⟨d6, 2, none⟩ (.int .u64 x3)).setCell ⟨d6, 3, none⟩ (.string ⟨#[]⟩) = wf_ at *
        have f7b := And.intro g17x f7.2
        obtain ⟨⟨x0_, x1_, x2_, x3_⟩, z0_, z1_, z2_, z3_⟩ := dcells f7b.1
        obtain ⟨q1_, q2_, q3_⟩ := dput f7b.1 (.int .i64 y1) (.bool y2) (.int .u64 y3) (.string ⟨#[]⟩)
        have hb9y := q3_ hb8x f7b.2
        refine Reg.N_step (o := { dst := Option.none, op := Op.store 29 (Operand.tmp 9) (Operand.tmp 62), type := 0, pos := "law.go:50", after := #[{ on := 7, ground := Ground.data }, { on := 5, ground := Ground.data }, { on := 8, ground := Ground.chain }, { on := 0, ground := Ground.phase }, { on := 1, ground := Ground.phase }, { on := 2, ground := Ground.phase }, { on := 3, ground := Ground.phase }, { on := 4, ground := Ground.phase }, { on := 5, ground := Ground.phase }, { on := 6, ground := Ground.phase }, { on := 7, ground := Ground.phase }, { on := 8, ground := Ground.phase }], guard := Option.none }) (by rfl) ?_ (fun K hK => ?_) Reg.N_none
        · kernel_rfl
        go_simp
        refine hK.out _ _ (HN6.out _ hb9y) (fun _ => ?_)
        clear hK K
        try simp only [Act.put, List.setIfInBounds_toArray, List.set_cons_zero, List.set_cons_succ]
        have r8xx := (q2_ _ n6_7).trans r8x
        have r9y := q1_
        clear x0_ x1_ x2_ x3_ z0_ z1_ z2_ z3_ q1_ q2_ q3_
        generalize (((wf_.setCell ⟨d7, 0, none⟩ (.int .i64 y1)).setCell ⟨d7, 1, none⟩ (.bool y2)).setCell ⟨d7, 2, none⟩ (.int .u64 y3)).setCell ⟨d7, 3, none⟩ (.string ⟨#[]⟩) = wg at *
        refine Reg.N_done ?_
        have R6 : Hid (wg.drew.heap[d6]? = some (.cells #[.int .i64 x1, .bool x2, .int .u64 x3, .string ⟨#[]⟩] 29 (0, 0)) ∧ wg.drew.heap[d7]? = some (.cells #[.int .i64 y1, .bool y2, .int .u64 y3, .string ⟨#[]⟩] 29 (0, 0)) ∧ True) := Lib.hid ⟨r8xx, r9y, trivial⟩
        have HN7 : Hid (∀ W, Below wg.drew.heap.size wg.drew W → W.cell? ⟨w.heap.size + 1, 0, none⟩ = some (.int .u64 n0) ∧ W.cell? ⟨w.heap.size + 1, 1, none⟩ = some (.int .u64 n1) ∧ W.cell? ⟨w.heap.size + 1, 2, none⟩ = some (.int .u64 n2)) := Lib.hid (fun W hw => HN6.out W (bstep (bstep hb9y (below_dr wg)) hw))
        have HB7 : Hid (Below w.heap.size w wg.drew) := Lib.hid (bstep HB6.out (bstep hb9y (below_dr wg)))
        clear hb hb8x hb9y f6 f7 f7b g17x r8x r8xx r9y n6_7
        go_wp2_with fail
        refine Reg.wp_planN (S := fun W => W.cell? ⟨w.heap.size + 1, 0, none⟩ = some (.int .u64 n0) ∧ W.cell? ⟨w.heap.size + 1, 1, none⟩ = some (.int .u64 n1) ∧ W.cell? ⟨w.heap.size + 1, 2, none⟩ = some (.int .u64 n2)) 10 (.fl 0 (.fl 1 (.fl 3 (.fl 4 (.alt 2 (.alt 5 (.alt 6 (.alt 7 (.alt 8 (.alt 9 .done .none) .none) .none) (.alt 7 (.alt 6 (.alt 8 (.alt 9 .done .none) .none) .none) .none)) (.alt 6 (.alt 5 (.alt 7 (.alt 8 (.alt 9 .done .none) .none) .none) (.alt 7 (.alt 5 (.alt 8 (.alt 9 .done .none) .none) .none) .none)) (.alt 7 (.alt 5 (.alt 6 (.alt 8 (.alt 9 .done .none) .none) .none) (.alt 6 (.alt 5 (.alt 8 (.alt 9 .done .none) .none) .none) .none)) .none))) (.alt 6 (.alt 2 (.alt 5 (.alt 7 (.alt 8 (.alt 9 .done .none) .none) .none) (.alt 7 (.alt 5 (.alt 8 (.alt 9 .done .none) .none) .none) .none)) (.alt 7 (.alt 2 (.alt 5 (.alt 8 (.alt 9 .done .none) .none) .none) .none) .none)) (.alt 7 (.alt 2 (.alt 5 (.alt 6 (.alt 8 (.alt 9 .done .none) .none) .none) (.alt 6 (.alt 5 (.alt 8 (.alt 9 .done .none) .none) .none) .none)) (.alt 6 (.alt 2 (.alt 5 (.alt 8 (.alt 9 .done .none) .none) .none) .none) .none)) .none))))))) (by kernel_rfl) (by kernel_rfl) (by kernel_rfl) (by kernel_rfl) (fun _ _ _ d _ h => by cases d <;> exact h) ?_ (fun hHeld => ?_)
        · exact HN7.out _ (Below.refl _ _)
        refine Reg.N_on (o := { dst := some 63, op := Op.indexAddr 37 (Operand.tmp 3) (Operand.const (Value.int IntKind.i64 0)), type := 0, pos := "law.go:51", after := #[], guard := Option.none }) (v := ?_) (by rfl) ?_ (fun wS hSw => ?_) ?_
        rotate_left
        · kernel_rfl
        · (try dsimp only at hSw); go_simp; (try with_reducible rfl)
        try simp only [Act.put, List.setIfInBounds_toArray, List.set_cons_zero, List.set_cons_succ]
        refine Reg.N_on (o := { dst := some 64, op := Op.load 22 (Operand.tmp 63), type := 22, pos := "law.go:51", after := #[{ on := 0, ground := Ground.data }], guard := Option.none }) (v := ?_) (by rfl) ?_ (fun wS hSw => ?_) ?_
        rotate_left
        · kernel_rfl
        · (try dsimp only at hSw); go_simp; (try with_reducible rfl)
        try simp only [Act.put, List.setIfInBounds_toArray, List.set_cons_zero, List.set_cons_succ]
        refine Reg.N_on (o := { dst := some 66, op := Op.indexAddr 37 (Operand.tmp 3) (Operand.const (Value.int IntKind.i64 1)), type := 0, pos := "law.go:51", after := #[], guard := Option.none }) (v := ?_) (by rfl) ?_ (fun wS hSw => ?_) ?_
        rotate_left
        · kernel_rfl
        · (try dsimp only at hSw); go_simp; (try with_reducible rfl)
        try simp only [Act.put, List.setIfInBounds_toArray, List.set_cons_zero, List.set_cons_succ]
        refine Reg.N_on (o := { dst := some 67, op := Op.load 22 (Operand.tmp 66), type := 22, pos := "law.go:51", after := #[{ on := 3, ground := Ground.data }], guard := Option.none }) (v := ?_) (by rfl) ?_ (fun wS hSw => ?_) ?_
        rotate_left
        · kernel_rfl
        · (try dsimp only at hSw); go_simp; (try with_reducible rfl)
        try simp only [Act.put, List.setIfInBounds_toArray, List.set_cons_zero, List.set_cons_succ]
        clear hHeld
        refine Reg.cutN (fun WN hWN a0 ha0 => ?_)
        have HWN := Lib.hid hWN
        have HA0 := Lib.hid ha0
        clear hWN ha0
        have H_2_5_6_7 : ∀ (g6 g7 : Nat) (w9 : World), Below wg.drew.heap.size wg.drew w9 → (w9.heap[g6]? = some (.cells #[.int .i64 0, .bool false, .int .u64 0, .string ⟨#[]⟩] 29 (0, 0)) ∧ wg.drew.heap.size ≤ g6) → (w9.heap[g7]? = some (.cells #[.int .i64 0, .bool false, .int .u64 0, .string ⟨#[]⟩] 29 (0, 0)) ∧ wg.drew.heap.size ≤ g7) → g6 ≠ g7 → WN (.alt 8 (.alt 9 .done .none) .none) { tmps := (upU a0.tmps.toList (.pointer (some ⟨g6, 0, none⟩)) (.pointer (some ⟨g7, 0, none⟩)) (.agg #[.int .i64 u1, .bool u2, .int .u64 u3, .string ⟨#[]⟩]) (.agg #[.int .i64 v1, .bool v2, .int .u64 v3, .string ⟨#[]⟩])).toArray, defers := a0.defers } w9 := by
          intro g6 g7 w9 hb f6 f7 n6_7
          rw [HWN.out, HA0.out]
          simp only [upU, List.take_succ_cons, List.take_zero, List.drop_succ_cons, List.drop_zero, List.cons_append, List.nil_append]
          obtain ⟨⟨x0_, x1_, x2_, x3_⟩, z0_, z1_, z2_, z3_⟩ := dcells f6.1
          obtain ⟨q1_, q2_, q3_⟩ := dput f6.1 (.int .i64 u1) (.bool u2) (.int .u64 u3) (.string ⟨#[]⟩)
          have hb8u := q3_ hb f6.2
          refine Reg.N_step (o := { dst := Option.none, op := Op.store 29 (Operand.tmp 10) (Operand.tmp 65), type := 0, pos := "law.go:51", after := #[{ on := 6, ground := Ground.data }, { on := 2, ground := Ground.data }, { on := 5, ground := Ground.chain }, { on := 0, ground := Ground.phase }, { on := 1, ground := Ground.phase }, { on := 2, ground := Ground.phase }, { on := 3, ground := Ground.textOnly Departure.lateStores }, { on := 4, ground := Ground.textOnly Departure.lateStores }, { on := 5, ground := Ground.textOnly Departure.lateStoresUnsure }, { on := 6, ground := Ground.phase }, { on := 7, ground := Ground.phase }], guard := Option.none }) (by rfl) ?_ (fun K hK => ?_) Reg.N_none
          · kernel_rfl
          go_simp
          refine hK.out _ _ (HN7.out _ hb8u) (fun _ => ?_)
          clear hK K
          try simp only [Act.put, List.setIfInBounds_toArray, List.set_cons_zero, List.set_cons_succ]
          have g17u := (q2_ _ (Ne.symm n6_7)).trans f7.1
          have r8u := q1_
          clear x0_ x1_ x2_ x3_ z0_ z1_ z2_ z3_ q1_ q2_ q3_
          generalize (((w9.setCell ⟨g6, 0, none⟩ (.int .i64 u1)).setCell ⟨g6, 1, none⟩ (.bool u2)).setCell ⟨g6, 2, none⟩ (.int .u64 u3)).setCell ⟨g6, 3, none⟩ (.string ⟨#[]⟩) = wk at *
          have f7b := And.intro g17u f7.2
          obtain ⟨⟨x0_, x1_, x2_, x3_⟩, z0_, z1_, z2_, z3_⟩ := dcells f7b.1
          obtain ⟨q1_, q2_, q3_⟩ := dput f7b.1 (.int .i64 v1) (.bool v2) (.int .u64 v3) (.string ⟨#[]⟩)
          have hb9v := q3_ hb8u f7b.2
          refine Reg.N_step (o := { dst := Option.none, op := Op.store 29 (Operand.tmp 11) (Operand.tmp 68), type := 0, pos := "law.go:51", after := #[{ on := 7, ground := Ground.data }, { on := 5, ground := Ground.data }, { on := 8, ground := Ground.chain }, { on := 0, ground := Ground.phase }, { on := 1, ground := Ground.phase }, { on := 2, ground := Ground.phase }, { on := 3, ground := Ground.phase }, { on := 4, ground := Ground.phase }, { on := 5, ground := Ground.phase }, { on := 6, ground := Ground.phase }, { on := 7, ground := Ground.phase }, { on := 8, ground := Ground.phase }], guard := Option.none }) (by rfl) ?_ (fun K hK => ?_) Reg.N_none
          · kernel_rfl
          go_simp
          refine hK.out _ _ (HN7.out _ hb9v) (fun _ => ?_)
          clear hK K
          try simp only [Act.put, List.setIfInBounds_toArray, List.set_cons_zero, List.set_cons_succ]
          have r8uu := (q2_ _ n6_7).trans r8u
          have r9v := q1_
          clear x0_ x1_ x2_ x3_ z0_ z1_ z2_ z3_ q1_ q2_ q3_
          generalize (((wk.setCell ⟨g7, 0, none⟩ (.int .i64 v1)).setCell ⟨g7, 1, none⟩ (.bool v2)).setCell ⟨g7, 2, none⟩ (.int .u64 v3)).setCell ⟨g7, 3, none⟩ (.string ⟨#[]⟩) = wl at *
          refine Reg.N_done ?_
          have HK8 : Hid (∀ W, Below wl.heap.size wl W → (W.cell? ⟨d6, 0, none⟩ = some (.int .i64 x1) ∧ W.cell? ⟨d6, 1, none⟩ = some (.bool x2) ∧ W.cell? ⟨d6, 2, none⟩ = some (.int .u64 x3) ∧ W.cell? ⟨d6, 3, none⟩ = some (.string ⟨#[]⟩)) ∧ (W.cell? ⟨d7, 0, none⟩ = some (.int .i64 y1) ∧ W.cell? ⟨d7, 1, none⟩ = some (.bool y2) ∧ W.cell? ⟨d7, 2, none⟩ = some (.int .u64 y3) ∧ W.cell? ⟨d7, 3, none⟩ = some (.string ⟨#[]⟩)) ∧ (W.cell? ⟨g6, 0, none⟩ = some (.int .i64 u1) ∧ W.cell? ⟨g6, 1, none⟩ = some (.bool u2) ∧ W.cell? ⟨g6, 2, none⟩ = some (.int .u64 u3) ∧ W.cell? ⟨g6, 3, none⟩ = some (.string ⟨#[]⟩)) ∧ (W.cell? ⟨g7, 0, none⟩ = some (.int .i64 v1) ∧ W.cell? ⟨g7, 1, none⟩ = some (.bool v2) ∧ W.cell? ⟨g7, 2, none⟩ = some (.int .u64 v3) ∧ W.cell? ⟨g7, 3, none⟩ = some (.string ⟨#[]⟩)) ∧ W.cell? ⟨w.heap.size + 1, 0, none⟩ = some (.int .u64 n0) ∧ W.cell? ⟨w.heap.size + 1, 1, none⟩ = some (.int .u64 n1) ∧ W.cell? ⟨w.heap.size + 1, 2, none⟩ = some (.int .u64 n2)) := Lib.hid (fun W hw => have s1 := blk_below (blk_below R6.out.1 hb9v) hw; have s2 := blk_below (blk_below R6.out.2.1 hb9v) hw; have s3 := blk_below r8uu hw; have s4 := blk_below r9v hw; ⟨⟨blk_cell s1 0, blk_cell s1 1, blk_cell s1 2, blk_cell s1 3⟩, ⟨blk_cell s2 0, blk_cell s2 1, blk_cell s2 2, blk_cell s2 3⟩, ⟨blk_cell s3 0, blk_cell s3 1, blk_cell s3 2, blk_cell s3 3⟩, ⟨blk_cell s4 0, blk_cell s4 1, blk_cell s4 2, blk_cell s4 3⟩, HN7.out W (bstep hb9v hw)⟩)
          have HBL := Lib.hid (bstep HB7.out hb9v)
          clear hb hb8u hb9v f6 f7 f7b g17u r8u r8uu r9v n6_7
          have hxy := HN.out.2.2.1
          have huv := HN.out.2.2.2.1
          have hxv := HN.out.2.2.2.2
          go_wp2_with fail
          by_cases hm : 0 ≤ m0
          · clear hxv
            refine Reg.wp_plan (S := fun W => (W.cell? ⟨d6, 0, none⟩ = some (.int .i64 x1) ∧ W.cell? ⟨d6, 1, none⟩ = some (.bool x2) ∧ W.cell? ⟨d6, 2, none⟩ = some (.int .u64 x3) ∧ W.cell? ⟨d6, 3, none⟩ = some (.string ⟨#[]⟩)) ∧ (W.cell? ⟨d7, 0, none⟩ = some (.int .i64 y1) ∧ W.cell? ⟨d7, 1, none⟩ = some (.bool y2) ∧ W.cell? ⟨d7, 2, none⟩ = some (.int .u64 y3) ∧ W.cell? ⟨d7, 3, none⟩ = some (.string ⟨#[]⟩)) ∧ (W.cell? ⟨g6, 0, none⟩ = some (.int .i64 u1) ∧ W.cell? ⟨g6, 1, none⟩ = some (.bool u2) ∧ W.cell? ⟨g6, 2, none⟩ = some (.int .u64 u3) ∧ W.cell? ⟨g6, 3, none⟩ = some (.string ⟨#[]⟩)) ∧ (W.cell? ⟨g7, 0, none⟩ = some (.int .i64 v1) ∧ W.cell? ⟨g7, 1, none⟩ = some (.bool v2) ∧ W.cell? ⟨g7, 2, none⟩ = some (.int .u64 v3) ∧ W.cell? ⟨g7, 3, none⟩ = some (.string ⟨#[]⟩)) ∧ W.cell? ⟨w.heap.size + 1, 0, none⟩ = some (.int .u64 n0) ∧ W.cell? ⟨w.heap.size + 1, 1, none⟩ = some (.int .u64 n1) ∧ W.cell? ⟨w.heap.size + 1, 2, none⟩ = some (.int .u64 n2)) 40 (.fl 0 (.fl 1 (.fl 4 (.fl 5 (.fl 6 (.fl 7 (.fl 8 (.fl 9 (.fl 10 (.one 2 (.fl 3 (.fl 11 (.fl 12 (.fl 13 (.fl 14 (.fl 17 (.fl 18 (.fl 19 (.fl 20 (.fl 21 (.one 15 (.fl 16 (.fl 22 (.fl 23 (.fl 24 (.fl 25 (.fl 26 (.fl 27 (.fl 28 (.fl 29 (.fl 30 (.fl 31 (.one 32 (.fl 33 (.fl 34 (.fl 35 (.fl 36 (.one 37 (.fl 38 (.fl 39 .done)))))))))))))))))))))))))))))))))))))))) (by kernel_rfl) (by kernel_rfl) (by kernel_rfl) (by kernel_rfl) (fun _ _ _ d _ h => by cases d <;> exact h) ?_ (fun hHeld => ?_)
            · exact HK8.out _ (below_dr wl)
            refine Reg.G_on (o := { dst := some 69, op := Op.load 29 (Operand.tmp 8), type := 29, pos := "law.go:52", after := #[], guard := Option.none }) (v := ?_) (by rfl) ?_ (fun wS hSw => ?_) ?_
            rotate_left
            · kernel_rfl
            · (try dsimp only at hSw); go_simp; (try with_reducible rfl)
            try simp only [Act.put, List.setIfInBounds_toArray, List.set_cons_zero, List.set_cons_succ]
            refine Reg.G_on (o := { dst := some 70, op := Op.load 29 (Operand.tmp 9), type := 29, pos := "law.go:52", after := #[], guard := Option.none }) (v := ?_) (by rfl) ?_ (fun wS hSw => ?_) ?_
            rotate_left
            · kernel_rfl
            · (try dsimp only at hSw); go_simp; (try with_reducible rfl)
            try simp only [Act.put, List.setIfInBounds_toArray, List.set_cons_zero, List.set_cons_succ]
            refine Reg.G_on (o := { dst := some 73, op := Op.indexAddr 37 (Operand.tmp 3) (Operand.const (Value.int IntKind.i64 0)), type := 0, pos := "law.go:52", after := #[], guard := Option.none }) (v := ?_) (by rfl) ?_ (fun wS hSw => ?_) ?_
            rotate_left
            · kernel_rfl
            · (try dsimp only at hSw); go_simp; (try with_reducible rfl)
            try simp only [Act.put, List.setIfInBounds_toArray, List.set_cons_zero, List.set_cons_succ]
            refine Reg.G_on (o := { dst := some 74, op := Op.load 22 (Operand.tmp 73), type := 22, pos := "law.go:52", after := #[{ on := 4, ground := Ground.data }], guard := Option.none }) (v := ?_) (by rfl) ?_ (fun wS hSw => ?_) ?_
            rotate_left
            · kernel_rfl
            · (try dsimp only at hSw); go_simp; (try with_reducible rfl)
            try simp only [Act.put, List.setIfInBounds_toArray, List.set_cons_zero, List.set_cons_succ]
            refine Reg.G_on (o := { dst := some 75, op := Op.convert 22 2 (Operand.tmp 74), type := 2, pos := "law.go:52", after := #[{ on := 5, ground := Ground.data }], guard := Option.none }) (v := .int .i64 m0) (by rfl) ?_ (fun wS hSw => ?_) ?_
            · kernel_rfl
            · (go_simp; first | exact HW0.out | rfl)
            try simp only [Act.put, List.setIfInBounds_toArray, List.set_cons_zero, List.set_cons_succ]
            refine Reg.G_on (o := { dst := some 76, op := Op.indexAddr 37 (Operand.tmp 3) (Operand.const (Value.int IntKind.i64 1)), type := 0, pos := "law.go:52", after := #[], guard := Option.none }) (v := ?_) (by rfl) ?_ (fun wS hSw => ?_) ?_
            rotate_left
            · kernel_rfl
            · (try dsimp only at hSw); go_simp; (try with_reducible rfl)
            try simp only [Act.put, List.setIfInBounds_toArray, List.set_cons_zero, List.set_cons_succ]
            refine Reg.G_on (o := { dst := some 77, op := Op.load 22 (Operand.tmp 76), type := 22, pos := "law.go:52", after := #[{ on := 7, ground := Ground.data }], guard := Option.none }) (v := ?_) (by rfl) ?_ (fun wS hSw => ?_) ?_
            rotate_left
            · kernel_rfl
            · (try dsimp only at hSw); go_simp; (try with_reducible rfl)
            try simp only [Act.put, List.setIfInBounds_toArray, List.set_cons_zero, List.set_cons_succ]
            refine Reg.G_on (o := { dst := some 78, op := Op.convert 22 2 (Operand.tmp 77), type := 2, pos := "law.go:52", after := #[{ on := 8, ground := Ground.data }], guard := Option.none }) (v := .int .i64 m1) (by rfl) ?_ (fun wS hSw => ?_) ?_
            · kernel_rfl
            · (go_simp; first | exact HW1b.out | rfl)
            try simp only [Act.put, List.setIfInBounds_toArray, List.set_cons_zero, List.set_cons_succ]
            refine Reg.G_on (o := { dst := some 79, op := Op.binOp BinOp.lss 2 (Operand.tmp 75) (Operand.tmp 78) 2, type := 4, pos := "law.go:52", after := #[{ on := 6, ground := Ground.data }, { on := 9, ground := Ground.data }], guard := Option.none }) (v := ?_) (by rfl) ?_ (fun wS hSw => ?_) ?_
            rotate_left
            · kernel_rfl
            · (try dsimp only at hSw); go_simp; (try with_reducible rfl)
            try simp only [Act.put, List.setIfInBounds_toArray, List.set_cons_zero, List.set_cons_succ]
            refine Reg.G_step (o := { dst := some 71, op := Op.call { callee := Callee.value (Operand.func 23), args := #[Operand.tmp 69, Operand.tmp 70], argTypes := #[29, 29] }, type := 3, pos := "law.go:52", after := #[{ on := 0, ground := Ground.data }, { on := 1, ground := Ground.data }], guard := Option.none }) (by rfl) ?_ (fun K hK => ?_)
            · kernel_rfl
            go_simp
            refine (HXY _).mono ?_
            rintro e w' ⟨rfl, h1_⟩
            refine hK.out _ _ ?_ (fun hHeld => ?_)
            · exact HK8.out _ (bstep (below_dr wl) h1_)
            clear hK K
            try simp only [Act.put, List.setIfInBounds_toArray, List.set_cons_zero, List.set_cons_succ]
            refine Reg.G_on (o := { dst := some 72, op := Op.binOp BinOp.lss 3 (Operand.tmp 71) (Operand.const (Value.int IntKind.i64 0)) 3, type := 4, pos := "law.go:52", after := #[{ on := 2, ground := Ground.data }], guard := Option.none }) (v := ?_) (by rfl) ?_ (fun wS hSw => ?_) ?_
            rotate_left
            · kernel_rfl
            · (try dsimp only at hSw); go_simp; (try with_reducible rfl)
            try simp only [Act.put, List.setIfInBounds_toArray, List.set_cons_zero, List.set_cons_succ]
            refine Reg.G_on (o := { dst := some 80, op := Op.binOp BinOp.eql 4 (Operand.tmp 72) (Operand.tmp 79) 4, type := 4, pos := "law.go:52", after := #[{ on := 3, ground := Ground.data }, { on := 10, ground := Ground.data }], guard := Option.none }) (v := ?_) (by rfl) ?_ (fun wS hSw => ?_) ?_
            rotate_left
            · kernel_rfl
            · (try dsimp only at hSw); go_simp; (try with_reducible rfl)
            try simp only [Act.put, List.setIfInBounds_toArray, List.set_cons_zero, List.set_cons_succ]
            refine Reg.G_on (o := { dst := some 81, op := Op.move (Operand.tmp 80), type := 4, pos := "law.go:52", after := #[{ on := 11, ground := Ground.data }, { on := 2, ground := Ground.chain }], guard := Option.none }) (v := ?_) (by rfl) ?_ (fun wS hSw => ?_) ?_
            rotate_left
            · kernel_rfl
            · (try dsimp only at hSw); go_simp; (try with_reducible rfl)
            try simp only [Act.put, List.setIfInBounds_toArray, List.set_cons_zero, List.set_cons_succ]
            refine Reg.G_on (o := { dst := some 82, op := Op.load 29 (Operand.tmp 10), type := 29, pos := "law.go:52", after := #[{ on := 12, ground := Ground.guard }], guard := some (12, true) }) (v := ?_) (by rfl) ?_ (fun wS hSw => ?_) ?_
            rotate_left
            · kernel_rfl
            · (try dsimp only at hSw); go_simp; (try with_reducible rfl)
            try simp only [Act.put, List.setIfInBounds_toArray, List.set_cons_zero, List.set_cons_succ]
            refine Reg.G_on (o := { dst := some 83, op := Op.load 29 (Operand.tmp 11), type := 29, pos := "law.go:52", after := #[{ on := 12, ground := Ground.guard }], guard := some (12, true) }) (v := ?_) (by rfl) ?_ (fun wS hSw => ?_) ?_
            rotate_left
            · kernel_rfl
            · (try dsimp only at hSw); go_simp; (try with_reducible rfl)
            try simp only [Act.put, List.setIfInBounds_toArray, List.set_cons_zero, List.set_cons_succ]
            refine Reg.G_on (o := { dst := some 86, op := Op.indexAddr 37 (Operand.tmp 3) (Operand.const (Value.int IntKind.i64 0)), type := 0, pos := "law.go:52", after := #[{ on := 12, ground := Ground.guard }], guard := some (12, true) }) (v := ?_) (by rfl) ?_ (fun wS hSw => ?_) ?_
            rotate_left
            · kernel_rfl
            · (try dsimp only at hSw); go_simp; (try with_reducible rfl)
            try simp only [Act.put, List.setIfInBounds_toArray, List.set_cons_zero, List.set_cons_succ]
            refine Reg.G_on (o := { dst := some 87, op := Op.load 22 (Operand.tmp 86), type := 22, pos := "law.go:52", after := #[{ on := 17, ground := Ground.data }, { on := 12, ground := Ground.guard }], guard := some (12, true) }) (v := ?_) (by rfl) ?_ (fun wS hSw => ?_) ?_
            rotate_left
            · kernel_rfl
            · (try dsimp only at hSw); go_simp; (try with_reducible rfl)
            try simp only [Act.put, List.setIfInBounds_toArray, List.set_cons_zero, List.set_cons_succ]
            refine Reg.G_on (o := { dst := some 88, op := Op.indexAddr 37 (Operand.tmp 3) (Operand.const (Value.int IntKind.i64 1)), type := 0, pos := "law.go:52", after := #[{ on := 12, ground := Ground.guard }], guard := some (12, true) }) (v := ?_) (by rfl) ?_ (fun wS hSw => ?_) ?_
            rotate_left
            · kernel_rfl
            · (try dsimp only at hSw); go_simp; (try with_reducible rfl)
            try simp only [Act.put, List.setIfInBounds_toArray, List.set_cons_zero, List.set_cons_succ]
            refine Reg.G_on (o := { dst := some 89, op := Op.load 22 (Operand.tmp 88), type := 22, pos := "law.go:52", after := #[{ on := 19, ground := Ground.data }, { on := 12, ground := Ground.guard }], guard := some (12, true) }) (v := ?_) (by rfl) ?_ (fun wS hSw => ?_) ?_
            rotate_left
            · kernel_rfl
            · (try dsimp only at hSw); go_simp; (try with_reducible rfl)
            try simp only [Act.put, List.setIfInBounds_toArray, List.set_cons_zero, List.set_cons_succ]
            refine Reg.G_on (o := { dst := some 90, op := Op.binOp BinOp.lss 22 (Operand.tmp 87) (Operand.tmp 89) 22, type := 4, pos := "law.go:52", after := #[{ on := 18, ground := Ground.data }, { on := 20, ground := Ground.data }, { on := 12, ground := Ground.guard }], guard := some (12, true) }) (v := ?_) (by rfl) ?_ (fun wS hSw => ?_) ?_
            rotate_left
            · kernel_rfl
            · (try dsimp only at hSw); go_simp; (try with_reducible rfl)
            try simp only [Act.put, List.setIfInBounds_toArray, List.set_cons_zero, List.set_cons_succ]
            have H1 := Lib.hid (bstep (below_dr wl) h1_)
            refine Reg.G_step (o := { dst := some 84, op := Op.call { callee := Callee.value (Operand.func 23), args := #[Operand.tmp 82, Operand.tmp 83], argTypes := #[29, 29] }, type := 3, pos := "law.go:52", after := #[{ on := 13, ground := Ground.data }, { on := 14, ground := Ground.data }, { on := 12, ground := Ground.chain }, { on := 12, ground := Ground.guard }], guard := some (12, true) }) (by rfl) ?_ (fun K hK => ?_)
            · kernel_rfl
            go_simp
            refine (HUV _).mono ?_
            rintro e w' ⟨rfl, h2_⟩
            refine hK.out _ _ ?_ (fun hHeld => ?_)
            · exact HK8.out _ (bstep H1.out h2_)
            clear hK K
            try simp only [Act.put, List.setIfInBounds_toArray, List.set_cons_zero, List.set_cons_succ]
            refine Reg.G_on (o := { dst := some 85, op := Op.binOp BinOp.lss 3 (Operand.tmp 84) (Operand.const (Value.int IntKind.i64 0)) 3, type := 4, pos := "law.go:52", after := #[{ on := 15, ground := Ground.data }, { on := 12, ground := Ground.guard }], guard := some (12, true) }) (v := ?_) (by rfl) ?_ (fun wS hSw => ?_) ?_
            rotate_left
            · kernel_rfl
            · (try dsimp only at hSw); go_simp; (try with_reducible rfl)
            try simp only [Act.put, List.setIfInBounds_toArray, List.set_cons_zero, List.set_cons_succ]
            refine Reg.G_on (o := { dst := some 91, op := Op.binOp BinOp.eql 4 (Operand.tmp 85) (Operand.tmp 90) 4, type := 4, pos := "law.go:52", after := #[{ on := 16, ground := Ground.data }, { on := 21, ground := Ground.data }, { on := 12, ground := Ground.guard }], guard := some (12, true) }) (v := ?_) (by rfl) ?_ (fun wS hSw => ?_) ?_
            rotate_left
            · kernel_rfl
            · (try dsimp only at hSw); go_simp; (try with_reducible rfl)
            try simp only [Act.put, List.setIfInBounds_toArray, List.set_cons_zero, List.set_cons_succ]
            refine Reg.G_on (o := { dst := some 92, op := Op.pick (Operand.tmp 81) (Operand.tmp 91) (Operand.const (Value.bool false)), type := 4, pos := "law.go:52", after := #[{ on := 12, ground := Ground.data }, { on := 22, ground := Ground.data }], guard := Option.none }) (v := ?_) (by rfl) ?_ (fun wS hSw => ?_) ?_
            rotate_left
            · kernel_rfl
            · (try dsimp only at hSw); go_simp; (try with_reducible rfl)
            try simp only [Act.put, List.setIfInBounds_toArray, List.set_cons_zero, List.set_cons_succ]
            refine Reg.G_on (o := { dst := some 93, op := Op.move (Operand.tmp 92), type := 4, pos := "law.go:52", after := #[{ on := 23, ground := Ground.data }, { on := 15, ground := Ground.chain }], guard := Option.none }) (v := ?_) (by rfl) ?_ (fun wS hSw => ?_) ?_
            rotate_left
            · kernel_rfl
            · (try dsimp only at hSw); go_simp; (try with_reducible rfl)
            try simp only [Act.put, List.setIfInBounds_toArray, List.set_cons_zero, List.set_cons_succ]
            refine Reg.G_on (o := { dst := some 94, op := Op.indexAddr 37 (Operand.tmp 3) (Operand.const (Value.int IntKind.i64 0)), type := 0, pos := "law.go:52", after := #[{ on := 24, ground := Ground.guard }], guard := some (24, true) }) (v := ?_) (by rfl) ?_ (fun wS hSw => ?_) ?_
            rotate_left
            · kernel_rfl
            · (try dsimp only at hSw); go_simp; (try with_reducible rfl)
            try simp only [Act.put, List.setIfInBounds_toArray, List.set_cons_zero, List.set_cons_succ]
            refine Reg.G_on (o := { dst := some 95, op := Op.load 22 (Operand.tmp 94), type := 22, pos := "law.go:52", after := #[{ on := 25, ground := Ground.data }, { on := 24, ground := Ground.guard }], guard := some (24, true) }) (v := ?_) (by rfl) ?_ (fun wS hSw => ?_) ?_
            rotate_left
            · kernel_rfl
            · (try dsimp only at hSw); go_simp; (try with_reducible rfl)
            try simp only [Act.put, List.setIfInBounds_toArray, List.set_cons_zero, List.set_cons_succ]
            refine Reg.G_on (o := { dst := some 96, op := Op.convert 22 2 (Operand.tmp 95), type := 2, pos := "law.go:52", after := #[{ on := 26, ground := Ground.data }, { on := 24, ground := Ground.guard }], guard := some (24, true) }) (v := .int .i64 m0) (by rfl) ?_ (fun wS hSw => ?_) ?_
            · kernel_rfl
            · (go_simp; first | exact HW0.out | rfl)
            try simp only [Act.put, List.setIfInBounds_toArray, List.set_cons_zero, List.set_cons_succ]
            refine Reg.G_on (o := { dst := some 97, op := Op.binOp BinOp.geq 2 (Operand.tmp 96) (Operand.const (Value.int IntKind.i64 0)) 2, type := 4, pos := "law.go:52", after := #[{ on := 27, ground := Ground.data }, { on := 24, ground := Ground.guard }], guard := some (24, true) }) (v := ?_) (by rfl) ?_ (fun wS hSw => ?_) ?_
            rotate_left
            · kernel_rfl
            · (try dsimp only at hSw); go_simp; (try with_reducible rfl)
            try simp only [Act.put, List.setIfInBounds_toArray, List.set_cons_zero, List.set_cons_succ]
            refine Reg.G_on (o := { dst := some 98, op := Op.move (Operand.tmp 97), type := 4, pos := "law.go:52", after := #[{ on := 28, ground := Ground.data }, { on := 24, ground := Ground.chain }, { on := 24, ground := Ground.guard }], guard := some (24, true) }) (v := ?_) (by rfl) ?_ (fun wS hSw => ?_) ?_
            rotate_left
            · kernel_rfl
            · (try dsimp only at hSw); go_simp; (try with_reducible rfl)
            try simp only [Act.put, List.setIfInBounds_toArray, List.set_cons_zero, List.set_cons_succ]
            refine Reg.G_off (o := { dst := some 99, op := Op.load 29 (Operand.tmp 8), type := 29, pos := "law.go:52", after := #[{ on := 29, ground := Ground.guard }], guard := some (29, false) }) (by rfl) ?_ ?_
            · kernel_rfl
            try simp only [Act.put, List.setIfInBounds_toArray, List.set_cons_zero, List.set_cons_succ]
            refine Reg.G_off (o := { dst := some 100, op := Op.load 29 (Operand.tmp 11), type := 29, pos := "law.go:52", after := #[{ on := 29, ground := Ground.guard }], guard := some (29, false) }) (by rfl) ?_ ?_
            · kernel_rfl
            try simp only [Act.put, List.setIfInBounds_toArray, List.set_cons_zero, List.set_cons_succ]
            refine Reg.G_skip (o := { dst := some 101, op := Op.call { callee := Callee.value (Operand.func 23), args := #[Operand.tmp 99, Operand.tmp 100], argTypes := #[29, 29] }, type := 3, pos := "law.go:52", after := #[{ on := 30, ground := Ground.data }, { on := 31, ground := Ground.data }, { on := 29, ground := Ground.chain }, { on := 29, ground := Ground.guard }], guard := some (29, false) }) (by rfl) ?_ (by assumption) ?_
            · kernel_rfl
            try simp only [Act.put, List.setIfInBounds_toArray, List.set_cons_zero, List.set_cons_succ]
            refine Reg.G_off (o := { dst := some 102, op := Op.binOp BinOp.lss 3 (Operand.tmp 101) (Operand.const (Value.int IntKind.i64 0)) 3, type := 4, pos := "law.go:52", after := #[{ on := 32, ground := Ground.data }, { on := 29, ground := Ground.guard }], guard := some (29, false) }) (by rfl) ?_ ?_
            · kernel_rfl
            try simp only [Act.put, List.setIfInBounds_toArray, List.set_cons_zero, List.set_cons_succ]
            refine Reg.G_on (o := { dst := some 103, op := Op.pick (Operand.tmp 98) (Operand.const (Value.bool true)) (Operand.tmp 102), type := 4, pos := "law.go:52", after := #[{ on := 29, ground := Ground.data }, { on := 33, ground := Ground.data }, { on := 24, ground := Ground.guard }], guard := some (24, true) }) (v := ?_) (by rfl) ?_ (fun wS hSw => ?_) ?_
            rotate_left
            · kernel_rfl
            · (try dsimp only at hSw); go_simp; (try with_reducible rfl)
            try simp only [Act.put, List.setIfInBounds_toArray, List.set_cons_zero, List.set_cons_succ]
            refine Reg.G_on (o := { dst := some 104, op := Op.pick (Operand.tmp 93) (Operand.tmp 103) (Operand.const (Value.bool false)), type := 4, pos := "law.go:52", after := #[{ on := 24, ground := Ground.data }, { on := 34, ground := Ground.data }], guard := Option.none }) (v := ?_) (by rfl) ?_ (fun wS hSw => ?_) ?_
            rotate_left
            · kernel_rfl
            · (try dsimp only at hSw); go_simp; (try with_reducible rfl)
            try simp only [Act.put, List.setIfInBounds_toArray, List.set_cons_zero, List.set_cons_succ]
            refine Reg.G_on (o := { dst := some 105, op := Op.move (Operand.tmp 104), type := 4, pos := "law.go:52", after := #[{ on := 35, ground := Ground.data }, { on := 32, ground := Ground.chain }], guard := Option.none }) (v := ?_) (by rfl) ?_ (fun wS hSw => ?_) ?_
            rotate_left
            · kernel_rfl
            · (try dsimp only at hSw); go_simp; (try with_reducible rfl)
            try simp only [Act.put, List.setIfInBounds_toArray, List.set_cons_zero, List.set_cons_succ]
            have H2 := Lib.hid (bstep H1.out h2_)
            refine Reg.G_step (o := { dst := some 106, op := Op.call { callee := Callee.value (Operand.func 18), args := #[], argTypes := #[] }, type := 4, pos := "law.go:52", after := #[{ on := 36, ground := Ground.chain }, { on := 36, ground := Ground.guard }], guard := some (36, true) }) (by rfl) ?_ (fun K hK => ?_)
            · kernel_rfl
            go_simp
            refine (HAW _).mono ?_
            rintro e w' ⟨rfl, h3_⟩
            refine hK.out _ _ ?_ (fun hHeld => ?_)
            · exact HK8.out _ (bstep H2.out h3_)
            clear hK K
            try simp only [Act.put, List.setIfInBounds_toArray, List.set_cons_zero, List.set_cons_succ]
            refine Reg.G_on (o := { dst := some 107, op := Op.pick (Operand.tmp 105) (Operand.tmp 106) (Operand.const (Value.bool false)), type := 4, pos := "law.go:52", after := #[{ on := 36, ground := Ground.data }, { on := 37, ground := Ground.data }], guard := Option.none }) (v := ?_) (by rfl) ?_ (fun wS hSw => ?_) ?_
            rotate_left
            · kernel_rfl
            · (try dsimp only at hSw); go_simp; (try with_reducible rfl)
            try simp only [Act.put, List.setIfInBounds_toArray, List.set_cons_zero, List.set_cons_succ]
            refine Reg.G_on (o := { dst := some 4, op := Op.assign (Operand.tmp 107), type := 4, pos := "law.go:52", after := #[{ on := 38, ground := Ground.data }, { on := 37, ground := Ground.chain }, { on := 0, ground := Ground.phase }, { on := 1, ground := Ground.phase }, { on := 2, ground := Ground.phase }, { on := 3, ground := Ground.phase }, { on := 4, ground := Ground.phase }, { on := 5, ground := Ground.phase }, { on := 6, ground := Ground.phase }, { on := 7, ground := Ground.phase }, { on := 8, ground := Ground.phase }, { on := 9, ground := Ground.phase }, { on := 10, ground := Ground.phase }, { on := 11, ground := Ground.phase }, { on := 12, ground := Ground.phase }, { on := 13, ground := Ground.phase }, { on := 14, ground := Ground.phase }, { on := 15, ground := Ground.phase }, { on := 16, ground := Ground.phase }, { on := 17, ground := Ground.phase }, { on := 18, ground := Ground.phase }, { on := 19, ground := Ground.phase }, { on := 20, ground := Ground.phase }, { on := 21, ground := Ground.phase }, { on := 22, ground := Ground.phase }, { on := 23, ground := Ground.phase }, { on := 24, ground := Ground.phase }, { on := 25, ground := Ground.phase }, { on := 26, ground := Ground.phase }, { on := 27, ground := Ground.phase }, { on := 28, ground := Ground.phase }, { on := 29, ground := Ground.phase }, { on := 30, ground := Ground.phase }, { on := 31, ground := Ground.phase }, { on := 32, ground := Ground.phase }, { on := 33, ground := Ground.phase }, { on := 34, ground := Ground.phase }, { on := 35, ground := Ground.phase }, { on := 36, ground := Ground.phase }, { on := 37, ground := Ground.phase }, { on := 38, ground := Ground.phase }], guard := Option.none }) (v := ?_) (by rfl) ?_ (fun wS hSw => ?_) ?_
            rotate_left
            · kernel_rfl
            · (try dsimp only at hSw); go_simp; (try with_reducible rfl)
            try simp only [Act.put, List.setIfInBounds_toArray, List.set_cons_zero, List.set_cons_succ]
            refine Reg.G_done ?_
            have H3 := Lib.hid (bstep H2.out h3_)
            clear hHeld h1_ h2_ h3_
            go_wp2
            go_ret
            exact ⟨rfl, bstep HBL.out H3.out⟩
          · have hxn := hxv (by omega)
            clear hxv
            refine Reg.wp_plan (S := fun W => (W.cell? ⟨d6, 0, none⟩ = some (.int .i64 x1) ∧ W.cell? ⟨d6, 1, none⟩ = some (.bool x2) ∧ W.cell? ⟨d6, 2, none⟩ = some (.int .u64 x3) ∧ W.cell? ⟨d6, 3, none⟩ = some (.string ⟨#[]⟩)) ∧ (W.cell? ⟨d7, 0, none⟩ = some (.int .i64 y1) ∧ W.cell? ⟨d7, 1, none⟩ = some (.bool y2) ∧ W.cell? ⟨d7, 2, none⟩ = some (.int .u64 y3) ∧ W.cell? ⟨d7, 3, none⟩ = some (.string ⟨#[]⟩)) ∧ (W.cell? ⟨g6, 0, none⟩ = some (.int .i64 u1) ∧ W.cell? ⟨g6, 1, none⟩ = some (.bool u2) ∧ W.cell? ⟨g6, 2, none⟩ = some (.int .u64 u3) ∧ W.cell? ⟨g6, 3, none⟩ = some (.string ⟨#[]⟩)) ∧ (W.cell? ⟨g7, 0, none⟩ = some (.int .i64 v1) ∧ W.cell? ⟨g7, 1, none⟩ = some (.bool v2) ∧ W.cell? ⟨g7, 2, none⟩ = some (.int .u64 v3) ∧ W.cell? ⟨g7, 3, none⟩ = some (.string ⟨#[]⟩)) ∧ W.cell? ⟨w.heap.size + 1, 0, none⟩ = some (.int .u64 n0) ∧ W.cell? ⟨w.heap.size + 1, 1, none⟩ = some (.int .u64 n1) ∧ W.cell? ⟨w.heap.size + 1, 2, none⟩ = some (.int .u64 n2)) 40 (.fl 0 (.fl 1 (.fl 4 (.fl 5 (.fl 6 (.fl 7 (.fl 8 (.fl 9 (.fl 10 (.one 2 (.fl 3 (.fl 11 (.fl 12 (.fl 13 (.fl 14 (.fl 17 (.fl 18 (.fl 19 (.fl 20 (.fl 21 (.one 15 (.fl 16 (.fl 22 (.fl 23 (.fl 24 (.fl 25 (.fl 26 (.fl 27 (.fl 28 (.fl 29 (.fl 30 (.fl 31 (.one 32 (.fl 33 (.fl 34 (.fl 35 (.fl 36 (.one 37 (.fl 38 (.fl 39 .done)))))))))))))))))))))))))))))))))))))))) (by kernel_rfl) (by kernel_rfl) (by kernel_rfl) (by kernel_rfl) (fun _ _ _ d _ h => by cases d <;> exact h) ?_ (fun hHeld => ?_)
            · exact HK8.out _ (below_dr wl)
            refine Reg.G_on (o := { dst := some 69, op := Op.load 29 (Operand.tmp 8), type := 29, pos := "law.go:52", after := #[], guard := Option.none }) (v := ?_) (by rfl) ?_ (fun wS hSw => ?_) ?_
            rotate_left
            · kernel_rfl
            · (try dsimp only at hSw); go_simp; (try with_reducible rfl)
            try simp only [Act.put, List.setIfInBounds_toArray, List.set_cons_zero, List.set_cons_succ]
            refine Reg.G_on (o := { dst := some 70, op := Op.load 29 (Operand.tmp 9), type := 29, pos := "law.go:52", after := #[], guard := Option.none }) (v := ?_) (by rfl) ?_ (fun wS hSw => ?_) ?_
            rotate_left
            · kernel_rfl
            · (try dsimp only at hSw); go_simp; (try with_reducible rfl)
            try simp only [Act.put, List.setIfInBounds_toArray, List.set_cons_zero, List.set_cons_succ]
            refine Reg.G_on (o := { dst := some 73, op := Op.indexAddr 37 (Operand.tmp 3) (Operand.const (Value.int IntKind.i64 0)), type := 0, pos := "law.go:52", after := #[], guard := Option.none }) (v := ?_) (by rfl) ?_ (fun wS hSw => ?_) ?_
            rotate_left
            · kernel_rfl
            · (try dsimp only at hSw); go_simp; (try with_reducible rfl)
            try simp only [Act.put, List.setIfInBounds_toArray, List.set_cons_zero, List.set_cons_succ]
            refine Reg.G_on (o := { dst := some 74, op := Op.load 22 (Operand.tmp 73), type := 22, pos := "law.go:52", after := #[{ on := 4, ground := Ground.data }], guard := Option.none }) (v := ?_) (by rfl) ?_ (fun wS hSw => ?_) ?_
            rotate_left
            · kernel_rfl
            · (try dsimp only at hSw); go_simp; (try with_reducible rfl)
            try simp only [Act.put, List.setIfInBounds_toArray, List.set_cons_zero, List.set_cons_succ]
            refine Reg.G_on (o := { dst := some 75, op := Op.convert 22 2 (Operand.tmp 74), type := 2, pos := "law.go:52", after := #[{ on := 5, ground := Ground.data }], guard := Option.none }) (v := .int .i64 m0) (by rfl) ?_ (fun wS hSw => ?_) ?_
            · kernel_rfl
            · (go_simp; first | exact HW0.out | rfl)
            try simp only [Act.put, List.setIfInBounds_toArray, List.set_cons_zero, List.set_cons_succ]
            refine Reg.G_on (o := { dst := some 76, op := Op.indexAddr 37 (Operand.tmp 3) (Operand.const (Value.int IntKind.i64 1)), type := 0, pos := "law.go:52", after := #[], guard := Option.none }) (v := ?_) (by rfl) ?_ (fun wS hSw => ?_) ?_
            rotate_left
            · kernel_rfl
            · (try dsimp only at hSw); go_simp; (try with_reducible rfl)
            try simp only [Act.put, List.setIfInBounds_toArray, List.set_cons_zero, List.set_cons_succ]
            refine Reg.G_on (o := { dst := some 77, op := Op.load 22 (Operand.tmp 76), type := 22, pos := "law.go:52", after := #[{ on := 7, ground := Ground.data }], guard := Option.none }) (v := ?_) (by rfl) ?_ (fun wS hSw => ?_) ?_
            rotate_left
            · kernel_rfl
            · (try dsimp only at hSw); go_simp; (try with_reducible rfl)
            try simp only [Act.put, List.setIfInBounds_toArray, List.set_cons_zero, List.set_cons_succ]
            refine Reg.G_on (o := { dst := some 78, op := Op.convert 22 2 (Operand.tmp 77), type := 2, pos := "law.go:52", after := #[{ on := 8, ground := Ground.data }], guard := Option.none }) (v := .int .i64 m1) (by rfl) ?_ (fun wS hSw => ?_) ?_
            · kernel_rfl
            · (go_simp; first | exact HW1b.out | rfl)
            try simp only [Act.put, List.setIfInBounds_toArray, List.set_cons_zero, List.set_cons_succ]
            refine Reg.G_on (o := { dst := some 79, op := Op.binOp BinOp.lss 2 (Operand.tmp 75) (Operand.tmp 78) 2, type := 4, pos := "law.go:52", after := #[{ on := 6, ground := Ground.data }, { on := 9, ground := Ground.data }], guard := Option.none }) (v := ?_) (by rfl) ?_ (fun wS hSw => ?_) ?_
            rotate_left
            · kernel_rfl
            · (try dsimp only at hSw); go_simp; (try with_reducible rfl)
            try simp only [Act.put, List.setIfInBounds_toArray, List.set_cons_zero, List.set_cons_succ]
            refine Reg.G_step (o := { dst := some 71, op := Op.call { callee := Callee.value (Operand.func 23), args := #[Operand.tmp 69, Operand.tmp 70], argTypes := #[29, 29] }, type := 3, pos := "law.go:52", after := #[{ on := 0, ground := Ground.data }, { on := 1, ground := Ground.data }], guard := Option.none }) (by rfl) ?_ (fun K hK => ?_)
            · kernel_rfl
            go_simp
            refine (HXY _).mono ?_
            rintro e w' ⟨rfl, h1_⟩
            refine hK.out _ _ ?_ (fun hHeld => ?_)
            · exact HK8.out _ (bstep (below_dr wl) h1_)
            clear hK K
            try simp only [Act.put, List.setIfInBounds_toArray, List.set_cons_zero, List.set_cons_succ]
            refine Reg.G_on (o := { dst := some 72, op := Op.binOp BinOp.lss 3 (Operand.tmp 71) (Operand.const (Value.int IntKind.i64 0)) 3, type := 4, pos := "law.go:52", after := #[{ on := 2, ground := Ground.data }], guard := Option.none }) (v := ?_) (by rfl) ?_ (fun wS hSw => ?_) ?_
            rotate_left
            · kernel_rfl
            · (try dsimp only at hSw); go_simp; (try with_reducible rfl)
            try simp only [Act.put, List.setIfInBounds_toArray, List.set_cons_zero, List.set_cons_succ]
            refine Reg.G_on (o := { dst := some 80, op := Op.binOp BinOp.eql 4 (Operand.tmp 72) (Operand.tmp 79) 4, type := 4, pos := "law.go:52", after := #[{ on := 3, ground := Ground.data }, { on := 10, ground := Ground.data }], guard := Option.none }) (v := ?_) (by rfl) ?_ (fun wS hSw => ?_) ?_
            rotate_left
            · kernel_rfl
            · (try dsimp only at hSw); go_simp; (try with_reducible rfl)
            try simp only [Act.put, List.setIfInBounds_toArray, List.set_cons_zero, List.set_cons_succ]
            refine Reg.G_on (o := { dst := some 81, op := Op.move (Operand.tmp 80), type := 4, pos := "law.go:52", after := #[{ on := 11, ground := Ground.data }, { on := 2, ground := Ground.chain }], guard := Option.none }) (v := ?_) (by rfl) ?_ (fun wS hSw => ?_) ?_
            rotate_left
            · kernel_rfl
            · (try dsimp only at hSw); go_simp; (try with_reducible rfl)
            try simp only [Act.put, List.setIfInBounds_toArray, List.set_cons_zero, List.set_cons_succ]
            refine Reg.G_on (o := { dst := some 82, op := Op.load 29 (Operand.tmp 10), type := 29, pos := "law.go:52", after := #[{ on := 12, ground := Ground.guard }], guard := some (12, true) }) (v := ?_) (by rfl) ?_ (fun wS hSw => ?_) ?_
            rotate_left
            · kernel_rfl
            · (try dsimp only at hSw); go_simp; (try with_reducible rfl)
            try simp only [Act.put, List.setIfInBounds_toArray, List.set_cons_zero, List.set_cons_succ]
            refine Reg.G_on (o := { dst := some 83, op := Op.load 29 (Operand.tmp 11), type := 29, pos := "law.go:52", after := #[{ on := 12, ground := Ground.guard }], guard := some (12, true) }) (v := ?_) (by rfl) ?_ (fun wS hSw => ?_) ?_
            rotate_left
            · kernel_rfl
            · (try dsimp only at hSw); go_simp; (try with_reducible rfl)
            try simp only [Act.put, List.setIfInBounds_toArray, List.set_cons_zero, List.set_cons_succ]
            refine Reg.G_on (o := { dst := some 86, op := Op.indexAddr 37 (Operand.tmp 3) (Operand.const (Value.int IntKind.i64 0)), type := 0, pos := "law.go:52", after := #[{ on := 12, ground := Ground.guard }], guard := some (12, true) }) (v := ?_) (by rfl) ?_ (fun wS hSw => ?_) ?_
            rotate_left
            · kernel_rfl
            · (try dsimp only at hSw); go_simp; (try with_reducible rfl)
            try simp only [Act.put, List.setIfInBounds_toArray, List.set_cons_zero, List.set_cons_succ]
            refine Reg.G_on (o := { dst := some 87, op := Op.load 22 (Operand.tmp 86), type := 22, pos := "law.go:52", after := #[{ on := 17, ground := Ground.data }, { on := 12, ground := Ground.guard }], guard := some (12, true) }) (v := ?_) (by rfl) ?_ (fun wS hSw => ?_) ?_
            rotate_left
            · kernel_rfl
            · (try dsimp only at hSw); go_simp; (try with_reducible rfl)
            try simp only [Act.put, List.setIfInBounds_toArray, List.set_cons_zero, List.set_cons_succ]
            refine Reg.G_on (o := { dst := some 88, op := Op.indexAddr 37 (Operand.tmp 3) (Operand.const (Value.int IntKind.i64 1)), type := 0, pos := "law.go:52", after := #[{ on := 12, ground := Ground.guard }], guard := some (12, true) }) (v := ?_) (by rfl) ?_ (fun wS hSw => ?_) ?_
            rotate_left
            · kernel_rfl
            · (try dsimp only at hSw); go_simp; (try with_reducible rfl)
            try simp only [Act.put, List.setIfInBounds_toArray, List.set_cons_zero, List.set_cons_succ]
            refine Reg.G_on (o := { dst := some 89, op := Op.load 22 (Operand.tmp 88), type := 22, pos := "law.go:52", after := #[{ on := 19, ground := Ground.data }, { on := 12, ground := Ground.guard }], guard := some (12, true) }) (v := ?_) (by rfl) ?_ (fun wS hSw => ?_) ?_
            rotate_left
            · kernel_rfl
            · (try dsimp only at hSw); go_simp; (try with_reducible rfl)
            try simp only [Act.put, List.setIfInBounds_toArray, List.set_cons_zero, List.set_cons_succ]
            refine Reg.G_on (o := { dst := some 90, op := Op.binOp BinOp.lss 22 (Operand.tmp 87) (Operand.tmp 89) 22, type := 4, pos := "law.go:52", after := #[{ on := 18, ground := Ground.data }, { on := 20, ground := Ground.data }, { on := 12, ground := Ground.guard }], guard := some (12, true) }) (v := ?_) (by rfl) ?_ (fun wS hSw => ?_) ?_
            rotate_left
            · kernel_rfl
            · (try dsimp only at hSw); go_simp; (try with_reducible rfl)
            try simp only [Act.put, List.setIfInBounds_toArray, List.set_cons_zero, List.set_cons_succ]
            have H1 := Lib.hid (bstep (below_dr wl) h1_)
            refine Reg.G_step (o := { dst := some 84, op := Op.call { callee := Callee.value (Operand.func 23), args := #[Operand.tmp 82, Operand.tmp 83], argTypes := #[29, 29] }, type := 3, pos := "law.go:52", after := #[{ on := 13, ground := Ground.data }, { on := 14, ground := Ground.data }, { on := 12, ground := Ground.chain }, { on := 12, ground := Ground.guard }], guard := some (12, true) }) (by rfl) ?_ (fun K hK => ?_)
            · kernel_rfl
            go_simp
            refine (HUV _).mono ?_
            rintro e w' ⟨rfl, h2_⟩
            refine hK.out _ _ ?_ (fun hHeld => ?_)
            · exact HK8.out _ (bstep H1.out h2_)
            clear hK K
            try simp only [Act.put, List.setIfInBounds_toArray, List.set_cons_zero, List.set_cons_succ]
            refine Reg.G_on (o := { dst := some 85, op := Op.binOp BinOp.lss 3 (Operand.tmp 84) (Operand.const (Value.int IntKind.i64 0)) 3, type := 4, pos := "law.go:52", after := #[{ on := 15, ground := Ground.data }, { on := 12, ground := Ground.guard }], guard := some (12, true) }) (v := ?_) (by rfl) ?_ (fun wS hSw => ?_) ?_
            rotate_left
            · kernel_rfl
            · (try dsimp only at hSw); go_simp; (try with_reducible rfl)
            try simp only [Act.put, List.setIfInBounds_toArray, List.set_cons_zero, List.set_cons_succ]
            refine Reg.G_on (o := { dst := some 91, op := Op.binOp BinOp.eql 4 (Operand.tmp 85) (Operand.tmp 90) 4, type := 4, pos := "law.go:52", after := #[{ on := 16, ground := Ground.data }, { on := 21, ground := Ground.data }, { on := 12, ground := Ground.guard }], guard := some (12, true) }) (v := ?_) (by rfl) ?_ (fun wS hSw => ?_) ?_
            rotate_left
            · kernel_rfl
            · (try dsimp only at hSw); go_simp; (try with_reducible rfl)
            try simp only [Act.put, List.setIfInBounds_toArray, List.set_cons_zero, List.set_cons_succ]
            refine Reg.G_on (o := { dst := some 92, op := Op.pick (Operand.tmp 81) (Operand.tmp 91) (Operand.const (Value.bool false)), type := 4, pos := "law.go:52", after := #[{ on := 12, ground := Ground.data }, { on := 22, ground := Ground.data }], guard := Option.none }) (v := ?_) (by rfl) ?_ (fun wS hSw => ?_) ?_
            rotate_left
            · kernel_rfl
            · (try dsimp only at hSw); go_simp; (try with_reducible rfl)
            try simp only [Act.put, List.setIfInBounds_toArray, List.set_cons_zero, List.set_cons_succ]
            refine Reg.G_on (o := { dst := some 93, op := Op.move (Operand.tmp 92), type := 4, pos := "law.go:52", after := #[{ on := 23, ground := Ground.data }, { on := 15, ground := Ground.chain }], guard := Option.none }) (v := ?_) (by rfl) ?_ (fun wS hSw => ?_) ?_
            rotate_left
            · kernel_rfl
            · (try dsimp only at hSw); go_simp; (try with_reducible rfl)
            try simp only [Act.put, List.setIfInBounds_toArray, List.set_cons_zero, List.set_cons_succ]
            refine Reg.G_on (o := { dst := some 94, op := Op.indexAddr 37 (Operand.tmp 3) (Operand.const (Value.int IntKind.i64 0)), type := 0, pos := "law.go:52", after := #[{ on := 24, ground := Ground.guard }], guard := some (24, true) }) (v := ?_) (by rfl) ?_ (fun wS hSw => ?_) ?_
            rotate_left
            · kernel_rfl
            · (try dsimp only at hSw); go_simp; (try with_reducible rfl)
            try simp only [Act.put, List.setIfInBounds_toArray, List.set_cons_zero, List.set_cons_succ]
            refine Reg.G_on (o := { dst := some 95, op := Op.load 22 (Operand.tmp 94), type := 22, pos := "law.go:52", after := #[{ on := 25, ground := Ground.data }, { on := 24, ground := Ground.guard }], guard := some (24, true) }) (v := ?_) (by rfl) ?_ (fun wS hSw => ?_) ?_
            rotate_left
            · kernel_rfl
            · (try dsimp only at hSw); go_simp; (try with_reducible rfl)
            try simp only [Act.put, List.setIfInBounds_toArray, List.set_cons_zero, List.set_cons_succ]
            refine Reg.G_on (o := { dst := some 96, op := Op.convert 22 2 (Operand.tmp 95), type := 2, pos := "law.go:52", after := #[{ on := 26, ground := Ground.data }, { on := 24, ground := Ground.guard }], guard := some (24, true) }) (v := .int .i64 m0) (by rfl) ?_ (fun wS hSw => ?_) ?_
            · kernel_rfl
            · (go_simp; first | exact HW0.out | rfl)
            try simp only [Act.put, List.setIfInBounds_toArray, List.set_cons_zero, List.set_cons_succ]
            refine Reg.G_on (o := { dst := some 97, op := Op.binOp BinOp.geq 2 (Operand.tmp 96) (Operand.const (Value.int IntKind.i64 0)) 2, type := 4, pos := "law.go:52", after := #[{ on := 27, ground := Ground.data }, { on := 24, ground := Ground.guard }], guard := some (24, true) }) (v := ?_) (by rfl) ?_ (fun wS hSw => ?_) ?_
            rotate_left
            · kernel_rfl
            · (try dsimp only at hSw); go_simp; (try with_reducible rfl)
            try simp only [Act.put, List.setIfInBounds_toArray, List.set_cons_zero, List.set_cons_succ]
            refine Reg.G_on (o := { dst := some 98, op := Op.move (Operand.tmp 97), type := 4, pos := "law.go:52", after := #[{ on := 28, ground := Ground.data }, { on := 24, ground := Ground.chain }, { on := 24, ground := Ground.guard }], guard := some (24, true) }) (v := ?_) (by rfl) ?_ (fun wS hSw => ?_) ?_
            rotate_left
            · kernel_rfl
            · (try dsimp only at hSw); go_simp; (try with_reducible rfl)
            try simp only [Act.put, List.setIfInBounds_toArray, List.set_cons_zero, List.set_cons_succ]
            refine Reg.G_on (o := { dst := some 99, op := Op.load 29 (Operand.tmp 8), type := 29, pos := "law.go:52", after := #[{ on := 29, ground := Ground.guard }], guard := some (29, false) }) (v := ?_) (by rfl) ?_ (fun wS hSw => ?_) ?_
            rotate_left
            · kernel_rfl
            · (try dsimp only at hSw); go_simp; (try with_reducible rfl)
            try simp only [Act.put, List.setIfInBounds_toArray, List.set_cons_zero, List.set_cons_succ]
            refine Reg.G_on (o := { dst := some 100, op := Op.load 29 (Operand.tmp 11), type := 29, pos := "law.go:52", after := #[{ on := 29, ground := Ground.guard }], guard := some (29, false) }) (v := ?_) (by rfl) ?_ (fun wS hSw => ?_) ?_
            rotate_left
            · kernel_rfl
            · (try dsimp only at hSw); go_simp; (try with_reducible rfl)
            try simp only [Act.put, List.setIfInBounds_toArray, List.set_cons_zero, List.set_cons_succ]
            have H2 := Lib.hid (bstep H1.out h2_)
            refine Reg.G_step (o := { dst := some 101, op := Op.call { callee := Callee.value (Operand.func 23), args := #[Operand.tmp 99, Operand.tmp 100], argTypes := #[29, 29] }, type := 3, pos := "law.go:52", after := #[{ on := 30, ground := Ground.data }, { on := 31, ground := Ground.data }, { on := 29, ground := Ground.chain }, { on := 29, ground := Ground.guard }], guard := some (29, false) }) (by rfl) ?_ (fun K hK => ?_)
            · kernel_rfl
            go_simp
            refine (HXV _).mono ?_
            rintro e w' ⟨rfl, h3_⟩
            refine hK.out _ _ ?_ (fun hHeld => ?_)
            · exact HK8.out _ (bstep H2.out h3_)
            clear hK K
            try simp only [Act.put, List.setIfInBounds_toArray, List.set_cons_zero, List.set_cons_succ]
            refine Reg.G_on (o := { dst := some 102, op := Op.binOp BinOp.lss 3 (Operand.tmp 101) (Operand.const (Value.int IntKind.i64 0)) 3, type := 4, pos := "law.go:52", after := #[{ on := 32, ground := Ground.data }, { on := 29, ground := Ground.guard }], guard := some (29, false) }) (v := ?_) (by rfl) ?_ (fun wS hSw => ?_) ?_
            rotate_left
            · kernel_rfl
            · (try dsimp only at hSw); go_simp; (try with_reducible rfl)
            try simp only [Act.put, List.setIfInBounds_toArray, List.set_cons_zero, List.set_cons_succ]
            refine Reg.G_on (o := { dst := some 103, op := Op.pick (Operand.tmp 98) (Operand.const (Value.bool true)) (Operand.tmp 102), type := 4, pos := "law.go:52", after := #[{ on := 29, ground := Ground.data }, { on := 33, ground := Ground.data }, { on := 24, ground := Ground.guard }], guard := some (24, true) }) (v := ?_) (by rfl) ?_ (fun wS hSw => ?_) ?_
            rotate_left
            · kernel_rfl
            · (try dsimp only at hSw); go_simp; (try with_reducible rfl)
            try simp only [Act.put, List.setIfInBounds_toArray, List.set_cons_zero, List.set_cons_succ]
            refine Reg.G_on (o := { dst := some 104, op := Op.pick (Operand.tmp 93) (Operand.tmp 103) (Operand.const (Value.bool false)), type := 4, pos := "law.go:52", after := #[{ on := 24, ground := Ground.data }, { on := 34, ground := Ground.data }], guard := Option.none }) (v := ?_) (by rfl) ?_ (fun wS hSw => ?_) ?_
            rotate_left
            · kernel_rfl
            · (try dsimp only at hSw); go_simp; (try with_reducible rfl)
            try simp only [Act.put, List.setIfInBounds_toArray, List.set_cons_zero, List.set_cons_succ]
            refine Reg.G_on (o := { dst := some 105, op := Op.move (Operand.tmp 104), type := 4, pos := "law.go:52", after := #[{ on := 35, ground := Ground.data }, { on := 32, ground := Ground.chain }], guard := Option.none }) (v := ?_) (by rfl) ?_ (fun wS hSw => ?_) ?_
            rotate_left
            · kernel_rfl
            · (try dsimp only at hSw); go_simp; (try with_reducible rfl)
            try simp only [Act.put, List.setIfInBounds_toArray, List.set_cons_zero, List.set_cons_succ]
            have H3 := Lib.hid (bstep H2.out h3_)
            refine Reg.G_step (o := { dst := some 106, op := Op.call { callee := Callee.value (Operand.func 18), args := #[], argTypes := #[] }, type := 4, pos := "law.go:52", after := #[{ on := 36, ground := Ground.chain }, { on := 36, ground := Ground.guard }], guard := some (36, true) }) (by rfl) ?_ (fun K hK => ?_)
            · kernel_rfl
            go_simp
            refine (HAW _).mono ?_
            rintro e w' ⟨rfl, h4_⟩
            refine hK.out _ _ ?_ (fun hHeld => ?_)
            · exact HK8.out _ (bstep H3.out h4_)
            clear hK K
            try simp only [Act.put, List.setIfInBounds_toArray, List.set_cons_zero, List.set_cons_succ]
            refine Reg.G_on (o := { dst := some 107, op := Op.pick (Operand.tmp 105) (Operand.tmp 106) (Operand.const (Value.bool false)), type := 4, pos := "law.go:52", after := #[{ on := 36, ground := Ground.data }, { on := 37, ground := Ground.data }], guard := Option.none }) (v := ?_) (by rfl) ?_ (fun wS hSw => ?_) ?_
            rotate_left
            · kernel_rfl
            · (try dsimp only at hSw); go_simp; (try with_reducible rfl)
            try simp only [Act.put, List.setIfInBounds_toArray, List.set_cons_zero, List.set_cons_succ]
            refine Reg.G_on (o := { dst := some 4, op := Op.assign (Operand.tmp 107), type := 4, pos := "law.go:52", after := #[{ on := 38, ground := Ground.data }, { on := 37, ground := Ground.chain }, { on := 0, ground := Ground.phase }, { on := 1, ground := Ground.phase }, { on := 2, ground := Ground.phase }, { on := 3, ground := Ground.phase }, { on := 4, ground := Ground.phase }, { on := 5, ground := Ground.phase }, { on := 6, ground := Ground.phase }, { on := 7, ground := Ground.phase }, { on := 8, ground := Ground.phase }, { on := 9, ground := Ground.phase }, { on := 10, ground := Ground.phase }, { on := 11, ground := Ground.phase }, { on := 12, ground := Ground.phase }, { on := 13, ground := Ground.phase }, { on := 14, ground := Ground.phase }, { on := 15, ground := Ground.phase }, { on := 16, ground := Ground.phase }, { on := 17, ground := Ground.phase }, { on := 18, ground := Ground.phase }, { on := 19, ground := Ground.phase }, { on := 20, ground := Ground.phase }, { on := 21, ground := Ground.phase }, { on := 22, ground := Ground.phase }, { on := 23, ground := Ground.phase }, { on := 24, ground := Ground.phase }, { on := 25, ground := Ground.phase }, { on := 26, ground := Ground.phase }, { on := 27, ground := Ground.phase }, { on := 28, ground := Ground.phase }, { on := 29, ground := Ground.phase }, { on := 30, ground := Ground.phase }, { on := 31, ground := Ground.phase }, { on := 32, ground := Ground.phase }, { on := 33, ground := Ground.phase }, { on := 34, ground := Ground.phase }, { on := 35, ground := Ground.phase }, { on := 36, ground := Ground.phase }, { on := 37, ground := Ground.phase }, { on := 38, ground := Ground.phase }], guard := Option.none }) (v := ?_) (by rfl) ?_ (fun wS hSw => ?_) ?_
            rotate_left
            · kernel_rfl
            · (try dsimp only at hSw); go_simp; (try with_reducible rfl)
            try simp only [Act.put, List.setIfInBounds_toArray, List.set_cons_zero, List.set_cons_succ]
            refine Reg.G_done ?_
            have H4 := Lib.hid (bstep H3.out h4_)
            clear hHeld h1_ h2_ h3_ h4_
            go_wp2
            go_ret
            exact ⟨rfl, bstep HBL.out H4.out⟩
        have HKH_2_5_6_7 := Lib.hid H_2_5_6_7
        clear H_2_5_6_7
        have H_2_5_6 : ∀ (g6 : Nat) (w9 : World), Below wg.drew.heap.size wg.drew w9 → (w9.heap[g6]? = some (.cells #[.int .i64 0, .bool false, .int .u64 0, .string ⟨#[]⟩] 29 (0, 0)) ∧ wg.drew.heap.size ≤ g6) → WN (.alt 7 (.alt 8 (.alt 9 .done .none) .none) .none) { tmps := (upU a0.tmps.toList (.pointer (some ⟨g6, 0, none⟩)) (undef) (.agg #[.int .i64 u1, .bool u2, .int .u64 u3, .string ⟨#[]⟩]) (.agg #[.int .i64 v1, .bool v2, .int .u64 v3, .string ⟨#[]⟩])).toArray, defers := a0.defers } w9 := by
          intro g6 w9 hb f6
          rw [HWN.out, HA0.out]
          simp only [upU, List.take_succ_cons, List.take_zero, List.drop_succ_cons, List.drop_zero, List.cons_append, List.nil_append]
          refine Reg.N_step (o := { dst := some 11, op := Op.alloc 29, type := 0, pos := "law.go:51", after := #[], guard := Option.none }) (by rfl) ?_ (fun K hK => ?_) ?_
          · kernel_rfl
          · go_simp
            refine hK.out _ _ (HN7.out _ (hb.alloc hb.size _)) (fun _ => ?_)
            clear hK
            try simp only [Act.put, List.setIfInBounds_toArray, List.set_cons_zero, List.set_cons_succ]
            have HH := HKH_2_5_6_7.out g6 w9.heap.size _ (hb.alloc hb.size _) ⟨blk_alloc f6.1 _, f6.2⟩ ⟨heap_alloc_new _ _, hb.size⟩ (Nat.ne_of_lt (blk_lt f6.1))
            rw [HWN.out, HA0.out] at HH
            simp only [upU, List.take_succ_cons, List.take_zero, List.drop_succ_cons, List.drop_zero, List.cons_append, List.nil_append] at HH
            exact HH
          exact Reg.N_none
        have HKH_2_5_6 := Lib.hid H_2_5_6
        clear H_2_5_6
        have H_2_5_7 : ∀ (g7 : Nat) (w9 : World), Below wg.drew.heap.size wg.drew w9 → (w9.heap[g7]? = some (.cells #[.int .i64 0, .bool false, .int .u64 0, .string ⟨#[]⟩] 29 (0, 0)) ∧ wg.drew.heap.size ≤ g7) → WN (.alt 6 (.alt 8 (.alt 9 .done .none) .none) .none) { tmps := (upU a0.tmps.toList (undef) (.pointer (some ⟨g7, 0, none⟩)) (.agg #[.int .i64 u1, .bool u2, .int .u64 u3, .string ⟨#[]⟩]) (.agg #[.int .i64 v1, .bool v2, .int .u64 v3, .string ⟨#[]⟩])).toArray, defers := a0.defers } w9 := by
          intro g7 w9 hb f7
          rw [HWN.out, HA0.out]
          simp only [upU, List.take_succ_cons, List.take_zero, List.drop_succ_cons, List.drop_zero, List.cons_append, List.nil_append]
          refine Reg.N_step (o := { dst := some 10, op := Op.alloc 29, type := 0, pos := "law.go:51", after := #[], guard := Option.none }) (by rfl) ?_ (fun K hK => ?_) ?_
          · kernel_rfl
          · go_simp
            refine hK.out _ _ (HN7.out _ (hb.alloc hb.size _)) (fun _ => ?_)
            clear hK
            try simp only [Act.put, List.setIfInBounds_toArray, List.set_cons_zero, List.set_cons_succ]
            have HH := HKH_2_5_6_7.out w9.heap.size g7 _ (hb.alloc hb.size _) ⟨heap_alloc_new _ _, hb.size⟩ ⟨blk_alloc f7.1 _, f7.2⟩ (Nat.ne_of_gt (blk_lt f7.1))
            rw [HWN.out, HA0.out] at HH
            simp only [upU, List.take_succ_cons, List.take_zero, List.drop_succ_cons, List.drop_zero, List.cons_append, List.nil_append] at HH
            exact HH
          exact Reg.N_none
        have HKH_2_5_7 := Lib.hid H_2_5_7
        clear H_2_5_7
        have H_2_5 : ∀ (w9 : World), Below wg.drew.heap.size wg.drew w9 → WN (.alt 6 (.alt 7 (.alt 8 (.alt 9 .done .none) .none) .none) (.alt 7 (.alt 6 (.alt 8 (.alt 9 .done .none) .none) .none) .none)) { tmps := (upU a0.tmps.toList (undef) (undef) (.agg #[.int .i64 u1, .bool u2, .int .u64 u3, .string ⟨#[]⟩]) (.agg #[.int .i64 v1, .bool v2, .int .u64 v3, .string ⟨#[]⟩])).toArray, defers := a0.defers } w9 := by
          intro w9 hb
          rw [HWN.out, HA0.out]
          simp only [upU, List.take_succ_cons, List.take_zero, List.drop_succ_cons, List.drop_zero, List.cons_append, List.nil_append]
          refine Reg.N_step (o := { dst := some 10, op := Op.alloc 29, type := 0, pos := "law.go:51", after := #[], guard := Option.none }) (by rfl) ?_ (fun K hK => ?_) ?_
          · kernel_rfl
          · go_simp
            refine hK.out _ _ (HN7.out _ (hb.alloc hb.size _)) (fun _ => ?_)
            clear hK
            try simp only [Act.put, List.setIfInBounds_toArray, List.set_cons_zero, List.set_cons_succ]
            have HH := HKH_2_5_6.out w9.heap.size _ (hb.alloc hb.size _) ⟨heap_alloc_new _ _, hb.size⟩
            rw [HWN.out, HA0.out] at HH
            simp only [upU, List.take_succ_cons, List.take_zero, List.drop_succ_cons, List.drop_zero, List.cons_append, List.nil_append] at HH
            exact HH
          refine Reg.N_step (o := { dst := some 11, op := Op.alloc 29, type := 0, pos := "law.go:51", after := #[], guard := Option.none }) (by rfl) ?_ (fun K hK => ?_) ?_
          · kernel_rfl
          · go_simp
            refine hK.out _ _ (HN7.out _ (hb.alloc hb.size _)) (fun _ => ?_)
            clear hK
            try simp only [Act.put, List.setIfInBounds_toArray, List.set_cons_zero, List.set_cons_succ]
            have HH := HKH_2_5_7.out w9.heap.size _ (hb.alloc hb.size _) ⟨heap_alloc_new _ _, hb.size⟩
            rw [HWN.out, HA0.out] at HH
            simp only [upU, List.take_succ_cons, List.take_zero, List.drop_succ_cons, List.drop_zero, List.cons_append, List.nil_append] at HH
            exact HH
          exact Reg.N_none
        have HKH_2_5 := Lib.hid H_2_5
        clear H_2_5
        have H_2_6_7 : ∀ (g6 g7 : Nat) (w9 : World), Below wg.drew.heap.size wg.drew w9 → (w9.heap[g6]? = some (.cells #[.int .i64 0, .bool false, .int .u64 0, .string ⟨#[]⟩] 29 (0, 0)) ∧ wg.drew.heap.size ≤ g6) → (w9.heap[g7]? = some (.cells #[.int .i64 0, .bool false, .int .u64 0, .string ⟨#[]⟩] 29 (0, 0)) ∧ wg.drew.heap.size ≤ g7) → g6 ≠ g7 → WN (.alt 5 (.alt 8 (.alt 9 .done .none) .none) .none) { tmps := (upU a0.tmps.toList (.pointer (some ⟨g6, 0, none⟩)) (.pointer (some ⟨g7, 0, none⟩)) (.agg #[.int .i64 u1, .bool u2, .int .u64 u3, .string ⟨#[]⟩]) (undef)).toArray, defers := a0.defers } w9 := by
          intro g6 g7 w9 hb f6 f7 n6_7
          rw [HWN.out, HA0.out]
          simp only [upU, List.take_succ_cons, List.take_zero, List.drop_succ_cons, List.drop_zero, List.cons_append, List.nil_append]
          refine Reg.N_step (o := { dst := some 68, op := Op.call { callee := Callee.value (Operand.func 21), args := #[Operand.const (Value.int IntKind.i64 8), Operand.tmp 67], argTypes := #[3, 22] }, type := 29, pos := "law.go:51", after := #[{ on := 4, ground := Ground.data }, { on := 2, ground := Ground.chain }], guard := Option.none }) (by rfl) ?_ (fun K hK => ?_) ?_
          · kernel_rfl
          · go_simp
            refine (HV _).mono ?_
            rintro e w10 ⟨rfl, b10⟩
            refine hK.out _ _ (HN7.out _ (bstep hb b10)) (fun _ => ?_)
            clear hK
            try simp only [Act.put, List.setIfInBounds_toArray, List.set_cons_zero, List.set_cons_succ]
            have HH := HKH_2_5_6_7.out g6 g7 w10 (bstep hb b10) ⟨blk_below f6.1 b10, f6.2⟩ ⟨blk_below f7.1 b10, f7.2⟩ n6_7
            rw [HWN.out, HA0.out] at HH
            simp only [upU, List.take_succ_cons, List.take_zero, List.drop_succ_cons, List.drop_zero, List.cons_append, List.nil_append] at HH
            exact HH
          exact Reg.N_none
        have HKH_2_6_7 := Lib.hid H_2_6_7
        clear H_2_6_7
        have H_2_6 : ∀ (g6 : Nat) (w9 : World), Below wg.drew.heap.size wg.drew w9 → (w9.heap[g6]? = some (.cells #[.int .i64 0, .bool false, .int .u64 0, .string ⟨#[]⟩] 29 (0, 0)) ∧ wg.drew.heap.size ≤ g6) → WN (.alt 5 (.alt 7 (.alt 8 (.alt 9 .done .none) .none) .none) (.alt 7 (.alt 5 (.alt 8 (.alt 9 .done .none) .none) .none) .none)) { tmps := (upU a0.tmps.toList (.pointer (some ⟨g6, 0, none⟩)) (undef) (.agg #[.int .i64 u1, .bool u2, .int .u64 u3, .string ⟨#[]⟩]) (undef)).toArray, defers := a0.defers } w9 := by
          intro g6 w9 hb f6
          rw [HWN.out, HA0.out]
          simp only [upU, List.take_succ_cons, List.take_zero, List.drop_succ_cons, List.drop_zero, List.cons_append, List.nil_append]
          refine Reg.N_step (o := { dst := some 68, op := Op.call { callee := Callee.value (Operand.func 21), args := #[Operand.const (Value.int IntKind.i64 8), Operand.tmp 67], argTypes := #[3, 22] }, type := 29, pos := "law.go:51", after := #[{ on := 4, ground := Ground.data }, { on := 2, ground := Ground.chain }], guard := Option.none }) (by rfl) ?_ (fun K hK => ?_) ?_
          · kernel_rfl
          · go_simp
            refine (HV _).mono ?_
            rintro e w10 ⟨rfl, b10⟩
            refine hK.out _ _ (HN7.out _ (bstep hb b10)) (fun _ => ?_)
            clear hK
            try simp only [Act.put, List.setIfInBounds_toArray, List.set_cons_zero, List.set_cons_succ]
            have HH := HKH_2_5_6.out g6 w10 (bstep hb b10) ⟨blk_below f6.1 b10, f6.2⟩
            rw [HWN.out, HA0.out] at HH
            simp only [upU, List.take_succ_cons, List.take_zero, List.drop_succ_cons, List.drop_zero, List.cons_append, List.nil_append] at HH
            exact HH
          refine Reg.N_step (o := { dst := some 11, op := Op.alloc 29, type := 0, pos := "law.go:51", after := #[], guard := Option.none }) (by rfl) ?_ (fun K hK => ?_) ?_
          · kernel_rfl
          · go_simp
            refine hK.out _ _ (HN7.out _ (hb.alloc hb.size _)) (fun _ => ?_)
            clear hK
            try simp only [Act.put, List.setIfInBounds_toArray, List.set_cons_zero, List.set_cons_succ]
            have HH := HKH_2_6_7.out g6 w9.heap.size _ (hb.alloc hb.size _) ⟨blk_alloc f6.1 _, f6.2⟩ ⟨heap_alloc_new _ _, hb.size⟩ (Nat.ne_of_lt (blk_lt f6.1))
            rw [HWN.out, HA0.out] at HH
            simp only [upU, List.take_succ_cons, List.take_zero, List.drop_succ_cons, List.drop_zero, List.cons_append, List.nil_append] at HH
            exact HH
          exact Reg.N_none
        have HKH_2_6 := Lib.hid H_2_6
        clear H_2_6
        have H_2_7 : ∀ (g7 : Nat) (w9 : World), Below wg.drew.heap.size wg.drew w9 → (w9.heap[g7]? = some (.cells #[.int .i64 0, .bool false, .int .u64 0, .string ⟨#[]⟩] 29 (0, 0)) ∧ wg.drew.heap.size ≤ g7) → WN (.alt 5 (.alt 6 (.alt 8 (.alt 9 .done .none) .none) .none) (.alt 6 (.alt 5 (.alt 8 (.alt 9 .done .none) .none) .none) .none)) { tmps := (upU a0.tmps.toList (undef) (.pointer (some ⟨g7, 0, none⟩)) (.agg #[.int .i64 u1, .bool u2, .int .u64 u3, .string ⟨#[]⟩]) (undef)).toArray, defers := a0.defers } w9 := by
          intro g7 w9 hb f7
          rw [HWN.out, HA0.out]
          simp only [upU, List.take_succ_cons, List.take_zero, List.drop_succ_cons, List.drop_zero, List.cons_append, List.nil_append]
          refine Reg.N_step (o := { dst := some 68, op := Op.call { callee := Callee.value (Operand.func 21), args := #[Operand.const (Value.int IntKind.i64 8), Operand.tmp 67], argTypes := #[3, 22] }, type := 29, pos := "law.go:51", after := #[{ on := 4, ground := Ground.data }, { on := 2, ground := Ground.chain }], guard := Option.none }) (by rfl) ?_ (fun K hK => ?_) ?_
          · kernel_rfl
          · go_simp
            refine (HV _).mono ?_
            rintro e w10 ⟨rfl, b10⟩
            refine hK.out _ _ (HN7.out _ (bstep hb b10)) (fun _ => ?_)
            clear hK
            try simp only [Act.put, List.setIfInBounds_toArray, List.set_cons_zero, List.set_cons_succ]
            have HH := HKH_2_5_7.out g7 w10 (bstep hb b10) ⟨blk_below f7.1 b10, f7.2⟩
            rw [HWN.out, HA0.out] at HH
            simp only [upU, List.take_succ_cons, List.take_zero, List.drop_succ_cons, List.drop_zero, List.cons_append, List.nil_append] at HH
            exact HH
          refine Reg.N_step (o := { dst := some 10, op := Op.alloc 29, type := 0, pos := "law.go:51", after := #[], guard := Option.none }) (by rfl) ?_ (fun K hK => ?_) ?_
          · kernel_rfl
          · go_simp
            refine hK.out _ _ (HN7.out _ (hb.alloc hb.size _)) (fun _ => ?_)
            clear hK
            try simp only [Act.put, List.setIfInBounds_toArray, List.set_cons_zero, List.set_cons_succ]
            have HH := HKH_2_6_7.out w9.heap.size g7 _ (hb.alloc hb.size _) ⟨heap_alloc_new _ _, hb.size⟩ ⟨blk_alloc f7.1 _, f7.2⟩ (Nat.ne_of_gt (blk_lt f7.1))
            rw [HWN.out, HA0.out] at HH
            simp only [upU, List.take_succ_cons, List.take_zero, List.drop_succ_cons, List.drop_zero, List.cons_append, List.nil_append] at HH
            exact HH
          exact Reg.N_none
        have HKH_2_7 := Lib.hid H_2_7
        clear H_2_7
        have H_2 : ∀ (w9 : World), Below wg.drew.heap.size wg.drew w9 → WN (.alt 5 (.alt 6 (.alt 7 (.alt 8 (.alt 9 .done .none) .none) .none) (.alt 7 (.alt 6 (.alt 8 (.alt 9 .done .none) .none) .none) .none)) (.alt 6 (.alt 5 (.alt 7 (.alt 8 (.alt 9 .done .none) .none) .none) (.alt 7 (.alt 5 (.alt 8 (.alt 9 .done .none) .none) .none) .none)) (.alt 7 (.alt 5 (.alt 6 (.alt 8 (.alt 9 .done .none) .none) .none) (.alt 6 (.alt 5 (.alt 8 (.alt 9 .done .none) .none) .none) .none)) .none))) { tmps := (upU a0.tmps.toList (undef) (undef) (.agg #[.int .i64 u1, .bool u2, .int .u64 u3, .string ⟨#[]⟩]) (undef)).toArray, defers := a0.defers } w9 := by
          intro w9 hb
          rw [HWN.out, HA0.out]
          simp only [upU, List.take_succ_cons, List.take_zero, List.drop_succ_cons, List.drop_zero, List.cons_append, List.nil_append]
          refine Reg.N_step (o := { dst := some 68, op := Op.call { callee := Callee.value (Operand.func 21), args := #[Operand.const (Value.int IntKind.i64 8), Operand.tmp 67], argTypes := #[3, 22] }, type := 29, pos := "law.go:51", after := #[{ on := 4, ground := Ground.data }, { on := 2, ground := Ground.chain }], guard := Option.none }) (by rfl) ?_ (fun K hK => ?_) ?_
          · kernel_rfl
          · go_simp
            refine (HV _).mono ?_
            rintro e w10 ⟨rfl, b10⟩
            refine hK.out _ _ (HN7.out _ (bstep hb b10)) (fun _ => ?_)
            clear hK
            try simp only [Act.put, List.setIfInBounds_toArray, List.set_cons_zero, List.set_cons_succ]
            have HH := HKH_2_5.out w10 (bstep hb b10)
            rw [HWN.out, HA0.out] at HH
            simp only [upU, List.take_succ_cons, List.take_zero, List.drop_succ_cons, List.drop_zero, List.cons_append, List.nil_append] at HH
            exact HH
          refine Reg.N_step (o := { dst := some 10, op := Op.alloc 29, type := 0, pos := "law.go:51", after := #[], guard := Option.none }) (by rfl) ?_ (fun K hK => ?_) ?_
          · kernel_rfl
          · go_simp
            refine hK.out _ _ (HN7.out _ (hb.alloc hb.size _)) (fun _ => ?_)
            clear hK
            try simp only [Act.put, List.setIfInBounds_toArray, List.set_cons_zero, List.set_cons_succ]
            have HH := HKH_2_6.out w9.heap.size _ (hb.alloc hb.size _) ⟨heap_alloc_new _ _, hb.size⟩
            rw [HWN.out, HA0.out] at HH
            simp only [upU, List.take_succ_cons, List.take_zero, List.drop_succ_cons, List.drop_zero, List.cons_append, List.nil_append] at HH
            exact HH
          refine Reg.N_step (o := { dst := some 11, op := Op.alloc 29, type := 0, pos := "law.go:51", after := #[], guard := Option.none }) (by rfl) ?_ (fun K hK => ?_) ?_
          · kernel_rfl
          · go_simp
            refine hK.out _ _ (HN7.out _ (hb.alloc hb.size _)) (fun _ => ?_)
            clear hK
            try simp only [Act.put, List.setIfInBounds_toArray, List.set_cons_zero, List.set_cons_succ]
            have HH := HKH_2_7.out w9.heap.size _ (hb.alloc hb.size _) ⟨heap_alloc_new _ _, hb.size⟩
            rw [HWN.out, HA0.out] at HH
            simp only [upU, List.take_succ_cons, List.take_zero, List.drop_succ_cons, List.drop_zero, List.cons_append, List.nil_append] at HH
            exact HH
          exact Reg.N_none
        have HKH_2 := Lib.hid H_2
        clear H_2
        have H_6_7 : ∀ (g6 g7 : Nat) (w9 : World), Below wg.drew.heap.size wg.drew w9 → (w9.heap[g6]? = some (.cells #[.int .i64 0, .bool false, .int .u64 0, .string ⟨#[]⟩] 29 (0, 0)) ∧ wg.drew.heap.size ≤ g6) → (w9.heap[g7]? = some (.cells #[.int .i64 0, .bool false, .int .u64 0, .string ⟨#[]⟩] 29 (0, 0)) ∧ wg.drew.heap.size ≤ g7) → g6 ≠ g7 → WN (.alt 2 (.alt 5 (.alt 8 (.alt 9 .done .none) .none) .none) .none) { tmps := (upU a0.tmps.toList (.pointer (some ⟨g6, 0, none⟩)) (.pointer (some ⟨g7, 0, none⟩)) (undef) (undef)).toArray, defers := a0.defers } w9 := by
          intro g6 g7 w9 hb f6 f7 n6_7
          rw [HWN.out, HA0.out]
          simp only [upU, List.take_succ_cons, List.take_zero, List.drop_succ_cons, List.drop_zero, List.cons_append, List.nil_append]
          refine Reg.N_step (o := { dst := some 65, op := Op.call { callee := Callee.value (Operand.func 21), args := #[Operand.const (Value.int IntKind.i64 8), Operand.tmp 64], argTypes := #[3, 22] }, type := 29, pos := "law.go:51", after := #[{ on := 1, ground := Ground.data }], guard := Option.none }) (by rfl) ?_ (fun K hK => ?_) ?_
          · kernel_rfl
          · go_simp
            refine (HU _).mono ?_
            rintro e w10 ⟨rfl, b10⟩
            refine hK.out _ _ (HN7.out _ (bstep hb b10)) (fun _ => ?_)
            clear hK
            try simp only [Act.put, List.setIfInBounds_toArray, List.set_cons_zero, List.set_cons_succ]
            have HH := HKH_2_6_7.out g6 g7 w10 (bstep hb b10) ⟨blk_below f6.1 b10, f6.2⟩ ⟨blk_below f7.1 b10, f7.2⟩ n6_7
            rw [HWN.out, HA0.out] at HH
            simp only [upU, List.take_succ_cons, List.take_zero, List.drop_succ_cons, List.drop_zero, List.cons_append, List.nil_append] at HH
            exact HH
          exact Reg.N_none
        have HKH_6_7 := Lib.hid H_6_7
        clear H_6_7
        have H_6 : ∀ (g6 : Nat) (w9 : World), Below wg.drew.heap.size wg.drew w9 → (w9.heap[g6]? = some (.cells #[.int .i64 0, .bool false, .int .u64 0, .string ⟨#[]⟩] 29 (0, 0)) ∧ wg.drew.heap.size ≤ g6) → WN (.alt 2 (.alt 5 (.alt 7 (.alt 8 (.alt 9 .done .none) .none) .none) (.alt 7 (.alt 5 (.alt 8 (.alt 9 .done .none) .none) .none) .none)) (.alt 7 (.alt 2 (.alt 5 (.alt 8 (.alt 9 .done .none) .none) .none) .none) .none)) { tmps := (upU a0.tmps.toList (.pointer (some ⟨g6, 0, none⟩)) (undef) (undef) (undef)).toArray, defers := a0.defers } w9 := by
          intro g6 w9 hb f6
          rw [HWN.out, HA0.out]
          simp only [upU, List.take_succ_cons, List.take_zero, List.drop_succ_cons, List.drop_zero, List.cons_append, List.nil_append]
          refine Reg.N_step (o := { dst := some 65, op := Op.call { callee := Callee.value (Operand.func 21), args := #[Operand.const (Value.int IntKind.i64 8), Operand.tmp 64], argTypes := #[3, 22] }, type := 29, pos := "law.go:51", after := #[{ on := 1, ground := Ground.data }], guard := Option.none }) (by rfl) ?_ (fun K hK => ?_) ?_
          · kernel_rfl
          · go_simp
            refine (HU _).mono ?_
            rintro e w10 ⟨rfl, b10⟩
            refine hK.out _ _ (HN7.out _ (bstep hb b10)) (fun _ => ?_)
            clear hK
            try simp only [Act.put, List.setIfInBounds_toArray, List.set_cons_zero, List.set_cons_succ]
            have HH := HKH_2_6.out g6 w10 (bstep hb b10) ⟨blk_below f6.1 b10, f6.2⟩
            rw [HWN.out, HA0.out] at HH
            simp only [upU, List.take_succ_cons, List.take_zero, List.drop_succ_cons, List.drop_zero, List.cons_append, List.nil_append] at HH
            exact HH
          refine Reg.N_step (o := { dst := some 11, op := Op.alloc 29, type := 0, pos := "law.go:51", after := #[], guard := Option.none }) (by rfl) ?_ (fun K hK => ?_) ?_
          · kernel_rfl
          · go_simp
            refine hK.out _ _ (HN7.out _ (hb.alloc hb.size _)) (fun _ => ?_)
            clear hK
            try simp only [Act.put, List.setIfInBounds_toArray, List.set_cons_zero, List.set_cons_succ]
            have HH := HKH_6_7.out g6 w9.heap.size _ (hb.alloc hb.size _) ⟨blk_alloc f6.1 _, f6.2⟩ ⟨heap_alloc_new _ _, hb.size⟩ (Nat.ne_of_lt (blk_lt f6.1))
            rw [HWN.out, HA0.out] at HH
            simp only [upU, List.take_succ_cons, List.take_zero, List.drop_succ_cons, List.drop_zero, List.cons_append, List.nil_append] at HH
            exact HH
          exact Reg.N_none
        have HKH_6 := Lib.hid H_6
        clear H_6
        have H_7 : ∀ (g7 : Nat) (w9 : World), Below wg.drew.heap.size wg.drew w9 → (w9.heap[g7]? = some (.cells #[.int .i64 0, .bool false, .int .u64 0, .string ⟨#[]⟩] 29 (0, 0)) ∧ wg.drew.heap.size ≤ g7) → WN (.alt 2 (.alt 5 (.alt 6 (.alt 8 (.alt 9 .done .none) .none) .none) (.alt 6 (.alt 5 (.alt 8 (.alt 9 .done .none) .none) .none) .none)) (.alt 6 (.alt 2 (.alt 5 (.alt 8 (.alt 9 .done .none) .none) .none) .none) .none)) { tmps := (upU a0.tmps.toList (undef) (.pointer (some ⟨g7, 0, none⟩)) (undef) (undef)).toArray, defers := a0.defers } w9 := by
          intro g7 w9 hb f7
          rw [HWN.out, HA0.out]
          simp only [upU, List.take_succ_cons, List.take_zero, List.drop_succ_cons, List.drop_zero, List.cons_append, List.nil_append]
          refine Reg.N_step (o := { dst := some 65, op := Op.call { callee := Callee.value (Operand.func 21), args := #[Operand.const (Value.int IntKind.i64 8), Operand.tmp 64], argTypes := #[3, 22] }, type := 29, pos := "law.go:51", after := #[{ on := 1, ground := Ground.data }], guard := Option.none }) (by rfl) ?_ (fun K hK => ?_) ?_
          · kernel_rfl
          · go_simp
            refine (HU _).mono ?_
            rintro e w10 ⟨rfl, b10⟩
            refine hK.out _ _ (HN7.out _ (bstep hb b10)) (fun _ => ?_)
            clear hK
            try simp only [Act.put, List.setIfInBounds_toArray, List.set_cons_zero, List.set_cons_succ]
            have HH := HKH_2_7.out g7 w10 (bstep hb b10) ⟨blk_below f7.1 b10, f7.2⟩
            rw [HWN.out, HA0.out] at HH
            simp only [upU, List.take_succ_cons, List.take_zero, List.drop_succ_cons, List.drop_zero, List.cons_append, List.nil_append] at HH
            exact HH
          refine Reg.N_step (o := { dst := some 10, op := Op.alloc 29, type := 0, pos := "law.go:51", after := #[], guard := Option.none }) (by rfl) ?_ (fun K hK => ?_) ?_
          · kernel_rfl
          · go_simp
            refine hK.out _ _ (HN7.out _ (hb.alloc hb.size _)) (fun _ => ?_)
            clear hK
            try simp only [Act.put, List.setIfInBounds_toArray, List.set_cons_zero, List.set_cons_succ]
            have HH := HKH_6_7.out w9.heap.size g7 _ (hb.alloc hb.size _) ⟨heap_alloc_new _ _, hb.size⟩ ⟨blk_alloc f7.1 _, f7.2⟩ (Nat.ne_of_gt (blk_lt f7.1))
            rw [HWN.out, HA0.out] at HH
            simp only [upU, List.take_succ_cons, List.take_zero, List.drop_succ_cons, List.drop_zero, List.cons_append, List.nil_append] at HH
            exact HH
          exact Reg.N_none
        have HKH_7 := Lib.hid H_7
        clear H_7
        have H_0 : ∀ (w9 : World), Below wg.drew.heap.size wg.drew w9 → WN (.alt 2 (.alt 5 (.alt 6 (.alt 7 (.alt 8 (.alt 9 .done .none) .none) .none) (.alt 7 (.alt 6 (.alt 8 (.alt 9 .done .none) .none) .none) .none)) (.alt 6 (.alt 5 (.alt 7 (.alt 8 (.alt 9 .done .none) .none) .none) (.alt 7 (.alt 5 (.alt 8 (.alt 9 .done .none) .none) .none) .none)) (.alt 7 (.alt 5 (.alt 6 (.alt 8 (.alt 9 .done .none) .none) .none) (.alt 6 (.alt 5 (.alt 8 (.alt 9 .done .none) .none) .none) .none)) .none))) (.alt 6 (.alt 2 (.alt 5 (.alt 7 (.alt 8 (.alt 9 .done .none) .none) .none) (.alt 7 (.alt 5 (.alt 8 (.alt 9 .done .none) .none) .none) .none)) (.alt 7 (.alt 2 (.alt 5 (.alt 8 (.alt 9 .done .none) .none) .none) .none) .none)) (.alt 7 (.alt 2 (.alt 5 (.alt 6 (.alt 8 (.alt 9 .done .none) .none) .none) (.alt 6 (.alt 5 (.alt 8 (.alt 9 .done .none) .none) .none) .none)) (.alt 6 (.alt 2 (.alt 5 (.alt 8 (.alt 9 .done .none) .none) .none) .none) .none)) .none))) { tmps := (upU a0.tmps.toList (undef) (undef) (undef) (undef)).toArray, defers := a0.defers } w9 := by
          intro w9 hb
          rw [HWN.out, HA0.out]
          simp only [upU, List.take_succ_cons, List.take_zero, List.drop_succ_cons, List.drop_zero, List.cons_append, List.nil_append]
          refine Reg.N_step (o := { dst := some 65, op := Op.call { callee := Callee.value (Operand.func 21), args := #[Operand.const (Value.int IntKind.i64 8), Operand.tmp 64], argTypes := #[3, 22] }, type := 29, pos := "law.go:51", after := #[{ on := 1, ground := Ground.data }], guard := Option.none }) (by rfl) ?_ (fun K hK => ?_) ?_
          · kernel_rfl
          · go_simp
            refine (HU _).mono ?_
            rintro e w10 ⟨rfl, b10⟩
            refine hK.out _ _ (HN7.out _ (bstep hb b10)) (fun _ => ?_)
            clear hK
            try simp only [Act.put, List.setIfInBounds_toArray, List.set_cons_zero, List.set_cons_succ]
            have HH := HKH_2.out w10 (bstep hb b10)
            rw [HWN.out, HA0.out] at HH
            simp only [upU, List.take_succ_cons, List.take_zero, List.drop_succ_cons, List.drop_zero, List.cons_append, List.nil_append] at HH
            exact HH
          refine Reg.N_step (o := { dst := some 10, op := Op.alloc 29, type := 0, pos := "law.go:51", after := #[], guard := Option.none }) (by rfl) ?_ (fun K hK => ?_) ?_
          · kernel_rfl
          · go_simp
            refine hK.out _ _ (HN7.out _ (hb.alloc hb.size _)) (fun _ => ?_)
            clear hK
            try simp only [Act.put, List.setIfInBounds_toArray, List.set_cons_zero, List.set_cons_succ]
            have HH := HKH_6.out w9.heap.size _ (hb.alloc hb.size _) ⟨heap_alloc_new _ _, hb.size⟩
            rw [HWN.out, HA0.out] at HH
            simp only [upU, List.take_succ_cons, List.take_zero, List.drop_succ_cons, List.drop_zero, List.cons_append, List.nil_append] at HH
            exact HH
          refine Reg.N_step (o := { dst := some 11, op := Op.alloc 29, type := 0, pos := "law.go:51", after := #[], guard := Option.none }) (by rfl) ?_ (fun K hK => ?_) ?_
          · kernel_rfl
          · go_simp
            refine hK.out _ _ (HN7.out _ (hb.alloc hb.size _)) (fun _ => ?_)
            clear hK
            try simp only [Act.put, List.setIfInBounds_toArray, List.set_cons_zero, List.set_cons_succ]
            have HH := HKH_7.out w9.heap.size _ (hb.alloc hb.size _) ⟨heap_alloc_new _ _, hb.size⟩
            rw [HWN.out, HA0.out] at HH
            simp only [upU, List.take_succ_cons, List.take_zero, List.drop_succ_cons, List.drop_zero, List.cons_append, List.nil_append] at HH
            exact HH
          exact Reg.N_none
        have HKH_0 := Lib.hid H_0
        clear H_0
        have HH := HKH_0.out _ (Below.refl _ _)
        rw [HA0.out] at HH
        simp only [upU, List.take_succ_cons, List.take_zero, List.drop_succ_cons, List.drop_zero, List.cons_append, List.nil_append] at HH
        rw [HA0.out]
        exact HH
      have HKH_2_5_6_7 := Lib.hid H_2_5_6_7
      clear H_2_5_6_7
      have H_2_5_6 : ∀ (d6 : Nat) (w9 : World), Below we.drew.heap.size we.drew w9 → (w9.heap[d6]? = some (.cells #[.int .i64 0, .bool false, .int .u64 0, .string ⟨#[]⟩] 29 (0, 0)) ∧ we.drew.heap.size ≤ d6) → WN (.alt 7 (.alt 8 (.alt 9 .done .none) .none) .none) { tmps := (upX a0.tmps.toList (.pointer (some ⟨d6, 0, none⟩)) (undef) (.agg #[.int .i64 x1, .bool x2, .int .u64 x3, .string ⟨#[]⟩]) (.agg #[.int .i64 y1, .bool y2, .int .u64 y3, .string ⟨#[]⟩])).toArray, defers := a0.defers } w9 := by
        intro d6 w9 hb f6
        rw [HWN.out, HA0.out]
        simp only [upX, List.take_succ_cons, List.take_zero, List.drop_succ_cons, List.drop_zero, List.cons_append, List.nil_append]
        refine Reg.N_step (o := { dst := some 9, op := Op.alloc 29, type := 0, pos := "law.go:50", after := #[], guard := Option.none }) (by rfl) ?_ (fun K hK => ?_) ?_
        · kernel_rfl
        · go_simp
          refine hK.out _ _ (HN6.out _ (hb.alloc hb.size _)) (fun _ => ?_)
          clear hK
          try simp only [Act.put, List.setIfInBounds_toArray, List.set_cons_zero, List.set_cons_succ]
          have HH := HKH_2_5_6_7.out d6 w9.heap.size _ (hb.alloc hb.size _) ⟨blk_alloc f6.1 _, f6.2⟩ ⟨heap_alloc_new _ _, hb.size⟩ (Nat.ne_of_lt (blk_lt f6.1))
          rw [HWN.out, HA0.out] at HH
          simp only [upX, List.take_succ_cons, List.take_zero, List.drop_succ_cons, List.drop_zero, List.cons_append, List.nil_append] at HH
          exact HH
        exact Reg.N_none
      have HKH_2_5_6 := Lib.hid H_2_5_6
      clear H_2_5_6
      have H_2_5_7 : ∀ (d7 : Nat) (w9 : World), Below we.drew.heap.size we.drew w9 → (w9.heap[d7]? = some (.cells #[.int .i64 0, .bool false, .int .u64 0, .string ⟨#[]⟩] 29 (0, 0)) ∧ we.drew.heap.size ≤ d7) → WN (.alt 6 (.alt 8 (.alt 9 .done .none) .none) .none) { tmps := (upX a0.tmps.toList (undef) (.pointer (some ⟨d7, 0, none⟩)) (.agg #[.int .i64 x1, .bool x2, .int .u64 x3, .string ⟨#[]⟩]) (.agg #[.int .i64 y1, .bool y2, .int .u64 y3, .string ⟨#[]⟩])).toArray, defers := a0.defers } w9 := by
        intro d7 w9 hb f7
        rw [HWN.out, HA0.out]
        simp only [upX, List.take_succ_cons, List.take_zero, List.drop_succ_cons, List.drop_zero, List.cons_append, List.nil_append]
        refine Reg.N_step (o := { dst := some 8, op := Op.alloc 29, type := 0, pos := "law.go:50", after := #[], guard := Option.none }) (by rfl) ?_ (fun K hK => ?_) ?_
        · kernel_rfl
        · go_simp
          refine hK.out _ _ (HN6.out _ (hb.alloc hb.size _)) (fun _ => ?_)
          clear hK
          try simp only [Act.put, List.setIfInBounds_toArray, List.set_cons_zero, List.set_cons_succ]
          have HH := HKH_2_5_6_7.out w9.heap.size d7 _ (hb.alloc hb.size _) ⟨heap_alloc_new _ _, hb.size⟩ ⟨blk_alloc f7.1 _, f7.2⟩ (Nat.ne_of_gt (blk_lt f7.1))
          rw [HWN.out, HA0.out] at HH
          simp only [upX, List.take_succ_cons, List.take_zero, List.drop_succ_cons, List.drop_zero, List.cons_append, List.nil_append] at HH
          exact HH
        exact Reg.N_none
      have HKH_2_5_7 := Lib.hid H_2_5_7
      clear H_2_5_7
      have H_2_5 : ∀ (w9 : World), Below we.drew.heap.size we.drew w9 → WN (.alt 6 (.alt 7 (.alt 8 (.alt 9 .done .none) .none) .none) (.alt 7 (.alt 6 (.alt 8 (.alt 9 .done .none) .none) .none) .none)) { tmps := (upX a0.tmps.toList (undef) (undef) (.agg #[.int .i64 x1, .bool x2, .int .u64 x3, .string ⟨#[]⟩]) (.agg #[.int .i64 y1, .bool y2, .int .u64 y3, .string ⟨#[]⟩])).toArray, defers := a0.defers } w9 := by
        intro w9 hb
        rw [HWN.out, HA0.out]
        simp only [upX, List.take_succ_cons, List.take_zero, List.drop_succ_cons, List.drop_zero, List.cons_append, List.nil_append]
        refine Reg.N_step (o := { dst := some 8, op := Op.alloc 29, type := 0, pos := "law.go:50", after := #[], guard := Option.none }) (by rfl) ?_ (fun K hK => ?_) ?_
        · kernel_rfl
        · go_simp
          refine hK.out _ _ (HN6.out _ (hb.alloc hb.size _)) (fun _ => ?_)
          clear hK
          try simp only [Act.put, List.setIfInBounds_toArray, List.set_cons_zero, List.set_cons_succ]
          have HH := HKH_2_5_6.out w9.heap.size _ (hb.alloc hb.size _) ⟨heap_alloc_new _ _, hb.size⟩
          rw [HWN.out, HA0.out] at HH
          simp only [upX, List.take_succ_cons, List.take_zero, List.drop_succ_cons, List.drop_zero, List.cons_append, List.nil_append] at HH
          exact HH
        refine Reg.N_step (o := { dst := some 9, op := Op.alloc 29, type := 0, pos := "law.go:50", after := #[], guard := Option.none }) (by rfl) ?_ (fun K hK => ?_) ?_
        · kernel_rfl
        · go_simp
          refine hK.out _ _ (HN6.out _ (hb.alloc hb.size _)) (fun _ => ?_)
          clear hK
          try simp only [Act.put, List.setIfInBounds_toArray, List.set_cons_zero, List.set_cons_succ]
          have HH := HKH_2_5_7.out w9.heap.size _ (hb.alloc hb.size _) ⟨heap_alloc_new _ _, hb.size⟩
          rw [HWN.out, HA0.out] at HH
          simp only [upX, List.take_succ_cons, List.take_zero, List.drop_succ_cons, List.drop_zero, List.cons_append, List.nil_append] at HH
          exact HH
        exact Reg.N_none
      have HKH_2_5 := Lib.hid H_2_5
      clear H_2_5
      have H_2_6_7 : ∀ (d6 d7 : Nat) (w9 : World), Below we.drew.heap.size we.drew w9 → (w9.heap[d6]? = some (.cells #[.int .i64 0, .bool false, .int .u64 0, .string ⟨#[]⟩] 29 (0, 0)) ∧ we.drew.heap.size ≤ d6) → (w9.heap[d7]? = some (.cells #[.int .i64 0, .bool false, .int .u64 0, .string ⟨#[]⟩] 29 (0, 0)) ∧ we.drew.heap.size ≤ d7) → d6 ≠ d7 → WN (.alt 5 (.alt 8 (.alt 9 .done .none) .none) .none) { tmps := (upX a0.tmps.toList (.pointer (some ⟨d6, 0, none⟩)) (.pointer (some ⟨d7, 0, none⟩)) (.agg #[.int .i64 x1, .bool x2, .int .u64 x3, .string ⟨#[]⟩]) (undef)).toArray, defers := a0.defers } w9 := by
        intro d6 d7 w9 hb f6 f7 n6_7
        rw [HWN.out, HA0.out]
        simp only [upX, List.take_succ_cons, List.take_zero, List.drop_succ_cons, List.drop_zero, List.cons_append, List.nil_append]
        refine Reg.N_step (o := { dst := some 62, op := Op.call { callee := Callee.value (Operand.func 21), args := #[Operand.const (Value.int IntKind.i64 7), Operand.tmp 61], argTypes := #[3, 22] }, type := 29, pos := "law.go:50", after := #[{ on := 4, ground := Ground.data }, { on := 2, ground := Ground.chain }], guard := Option.none }) (by rfl) ?_ (fun K hK => ?_) ?_
        · kernel_rfl
        · go_simp
          refine (HY _).mono ?_
          rintro e w10 ⟨rfl, b10⟩
          refine hK.out _ _ (HN6.out _ (bstep hb b10)) (fun _ => ?_)
          clear hK
          try simp only [Act.put, List.setIfInBounds_toArray, List.set_cons_zero, List.set_cons_succ]
          have HH := HKH_2_5_6_7.out d6 d7 w10 (bstep hb b10) ⟨blk_below f6.1 b10, f6.2⟩ ⟨blk_below f7.1 b10, f7.2⟩ n6_7
          rw [HWN.out, HA0.out] at HH
          simp only [upX, List.take_succ_cons, List.take_zero, List.drop_succ_cons, List.drop_zero, List.cons_append, List.nil_append] at HH
          exact HH
        exact Reg.N_none
      have HKH_2_6_7 := Lib.hid H_2_6_7
      clear H_2_6_7
      have H_2_6 : ∀ (d6 : Nat) (w9 : World), Below we.drew.heap.size we.drew w9 → (w9.heap[d6]? = some (.cells #[.int .i64 0, .bool false, .int .u64 0, .string ⟨#[]⟩] 29 (0, 0)) ∧ we.drew.heap.size ≤ d6) → WN (.alt 5 (.alt 7 (.alt 8 (.alt 9 .done .none) .none) .none) (.alt 7 (.alt 5 (.alt 8 (.alt 9 .done .none) .none) .none) .none)) { tmps := (upX a0.tmps.toList (.pointer (some ⟨d6, 0, none⟩)) (undef) (.agg #[.int .i64 x1, .bool x2, .int .u64 x3, .string ⟨#[]⟩]) (undef)).toArray, defers := a0.defers } w9 := by
        intro d6 w9 hb f6
        rw [HWN.out, HA0.out]
        simp only [upX, List.take_succ_cons, List.take_zero, List.drop_succ_cons, List.drop_zero, List.cons_append, List.nil_append]
        refine Reg.N_step (o := { dst := some 62, op := Op.call { callee := Callee.value (Operand.func 21), args := #[Operand.const (Value.int IntKind.i64 7), Operand.tmp 61], argTypes := #[3, 22] }, type := 29, pos := "law.go:50", after := #[{ on := 4, ground := Ground.data }, { on := 2, ground := Ground.chain }], guard := Option.none }) (by rfl) ?_ (fun K hK => ?_) ?_
        · kernel_rfl
        · go_simp
          refine (HY _).mono ?_
          rintro e w10 ⟨rfl, b10⟩
          refine hK.out _ _ (HN6.out _ (bstep hb b10)) (fun _ => ?_)
          clear hK
          try simp only [Act.put, List.setIfInBounds_toArray, List.set_cons_zero, List.set_cons_succ]
          have HH := HKH_2_5_6.out d6 w10 (bstep hb b10) ⟨blk_below f6.1 b10, f6.2⟩
          rw [HWN.out, HA0.out] at HH
          simp only [upX, List.take_succ_cons, List.take_zero, List.drop_succ_cons, List.drop_zero, List.cons_append, List.nil_append] at HH
          exact HH
        refine Reg.N_step (o := { dst := some 9, op := Op.alloc 29, type := 0, pos := "law.go:50", after := #[], guard := Option.none }) (by rfl) ?_ (fun K hK => ?_) ?_
        · kernel_rfl
        · go_simp
          refine hK.out _ _ (HN6.out _ (hb.alloc hb.size _)) (fun _ => ?_)
          clear hK
          try simp only [Act.put, List.setIfInBounds_toArray, List.set_cons_zero, List.set_cons_succ]
          have HH := HKH_2_6_7.out d6 w9.heap.size _ (hb.alloc hb.size _) ⟨blk_alloc f6.1 _, f6.2⟩ ⟨heap_alloc_new _ _, hb.size⟩ (Nat.ne_of_lt (blk_lt f6.1))
          rw [HWN.out, HA0.out] at HH
          simp only [upX, List.take_succ_cons, List.take_zero, List.drop_succ_cons, List.drop_zero, List.cons_append, List.nil_append] at HH
          exact HH
        exact Reg.N_none
      have HKH_2_6 := Lib.hid H_2_6
      clear H_2_6
      have H_2_7 : ∀ (d7 : Nat) (w9 : World), Below we.drew.heap.size we.drew w9 → (w9.heap[d7]? = some (.cells #[.int .i64 0, .bool false, .int .u64 0, .string ⟨#[]⟩] 29 (0, 0)) ∧ we.drew.heap.size ≤ d7) → WN (.alt 5 (.alt 6 (.alt 8 (.alt 9 .done .none) .none) .none) (.alt 6 (.alt 5 (.alt 8 (.alt 9 .done .none) .none) .none) .none)) { tmps := (upX a0.tmps.toList (undef) (.pointer (some ⟨d7, 0, none⟩)) (.agg #[.int .i64 x1, .bool x2, .int .u64 x3, .string ⟨#[]⟩]) (undef)).toArray, defers := a0.defers } w9 := by
        intro d7 w9 hb f7
        rw [HWN.out, HA0.out]
        simp only [upX, List.take_succ_cons, List.take_zero, List.drop_succ_cons, List.drop_zero, List.cons_append, List.nil_append]
        refine Reg.N_step (o := { dst := some 62, op := Op.call { callee := Callee.value (Operand.func 21), args := #[Operand.const (Value.int IntKind.i64 7), Operand.tmp 61], argTypes := #[3, 22] }, type := 29, pos := "law.go:50", after := #[{ on := 4, ground := Ground.data }, { on := 2, ground := Ground.chain }], guard := Option.none }) (by rfl) ?_ (fun K hK => ?_) ?_
        · kernel_rfl
        · go_simp
          refine (HY _).mono ?_
          rintro e w10 ⟨rfl, b10⟩
          refine hK.out _ _ (HN6.out _ (bstep hb b10)) (fun _ => ?_)
          clear hK
          try simp only [Act.put, List.setIfInBounds_toArray, List.set_cons_zero, List.set_cons_succ]
          have HH := HKH_2_5_7.out d7 w10 (bstep hb b10) ⟨blk_below f7.1 b10, f7.2⟩
          rw [HWN.out, HA0.out] at HH
          simp only [upX, List.take_succ_cons, List.take_zero, List.drop_succ_cons, List.drop_zero, List.cons_append, List.nil_append] at HH
          exact HH
        refine Reg.N_step (o := { dst := some 8, op := Op.alloc 29, type := 0, pos := "law.go:50", after := #[], guard := Option.none }) (by rfl) ?_ (fun K hK => ?_) ?_
        · kernel_rfl
        · go_simp
          refine hK.out _ _ (HN6.out _ (hb.alloc hb.size _)) (fun _ => ?_)
          clear hK
          try simp only [Act.put, List.setIfInBounds_toArray, List.set_cons_zero, List.set_cons_succ]
          have HH := HKH_2_6_7.out w9.heap.size d7 _ (hb.alloc hb.size _) ⟨heap_alloc_new _ _, hb.size⟩ ⟨blk_alloc f7.1 _, f7.2⟩ (Nat.ne_of_gt (blk_lt f7.1))
          rw [HWN.out, HA0.out] at HH
          simp only [upX, List.take_succ_cons, List.take_zero, List.drop_succ_cons, List.drop_zero, List.cons_append, List.nil_append] at HH
          exact HH
        exact Reg.N_none
      have HKH_2_7 := Lib.hid H_2_7
      clear H_2_7
      have H_2 : ∀ (w9 : World), Below we.drew.heap.size we.drew w9 → WN (.alt 5 (.alt 6 (.alt 7 (.alt 8 (.alt 9 .done .none) .none) .none) (.alt 7 (.alt 6 (.alt 8 (.alt 9 .done .none) .none) .none) .none)) (.alt 6 (.alt 5 (.alt 7 (.alt 8 (.alt 9 .done .none) .none) .none) (.alt 7 (.alt 5 (.alt 8 (.alt 9 .done .none) .none) .none) .none)) (.alt 7 (.alt 5 (.alt 6 (.alt 8 (.alt 9 .done .none) .none) .none) (.alt 6 (.alt 5 (.alt 8 (.alt 9 .done .none) .none) .none) .none)) .none))) { tmps := (upX a0.tmps.toList (undef) (undef) (.agg #[.int .i64 x1, .bool x2, .int .u64 x3, .string ⟨#[]⟩]) (undef)).toArray, defers := a0.defers } w9 := by
        intro w9 hb
        rw [HWN.out, HA0.out]
        simp only [upX, List.take_succ_cons, List.take_zero, List.drop_succ_cons, List.drop_zero, List.cons_append, List.nil_append]
        refine Reg.N_step (o := { dst := some 62, op := Op.call { callee := Callee.value (Operand.func 21), args := #[Operand.const (Value.int IntKind.i64 7), Operand.tmp 61], argTypes := #[3, 22] }, type := 29, pos := "law.go:50", after := #[{ on := 4, ground := Ground.data }, { on := 2, ground := Ground.chain }], guard := Option.none }) (by rfl) ?_ (fun K hK => ?_) ?_
        · kernel_rfl
        · go_simp
          refine (HY _).mono ?_
          rintro e w10 ⟨rfl, b10⟩
          refine hK.out _ _ (HN6.out _ (bstep hb b10)) (fun _ => ?_)
          clear hK
          try simp only [Act.put, List.setIfInBounds_toArray, List.set_cons_zero, List.set_cons_succ]
          have HH := HKH_2_5.out w10 (bstep hb b10)
          rw [HWN.out, HA0.out] at HH
          simp only [upX, List.take_succ_cons, List.take_zero, List.drop_succ_cons, List.drop_zero, List.cons_append, List.nil_append] at HH
          exact HH
        refine Reg.N_step (o := { dst := some 8, op := Op.alloc 29, type := 0, pos := "law.go:50", after := #[], guard := Option.none }) (by rfl) ?_ (fun K hK => ?_) ?_
        · kernel_rfl
        · go_simp
          refine hK.out _ _ (HN6.out _ (hb.alloc hb.size _)) (fun _ => ?_)
          clear hK
          try simp only [Act.put, List.setIfInBounds_toArray, List.set_cons_zero, List.set_cons_succ]
          have HH := HKH_2_6.out w9.heap.size _ (hb.alloc hb.size _) ⟨heap_alloc_new _ _, hb.size⟩
          rw [HWN.out, HA0.out] at HH
          simp only [upX, List.take_succ_cons, List.take_zero, List.drop_succ_cons, List.drop_zero, List.cons_append, List.nil_append] at HH
          exact HH
        refine Reg.N_step (o := { dst := some 9, op := Op.alloc 29, type := 0, pos := "law.go:50", after := #[], guard := Option.none }) (by rfl) ?_ (fun K hK => ?_) ?_
        · kernel_rfl
        · go_simp
          refine hK.out _ _ (HN6.out _ (hb.alloc hb.size _)) (fun _ => ?_)
          clear hK
          try simp only [Act.put, List.setIfInBounds_toArray, List.set_cons_zero, List.set_cons_succ]
          have HH := HKH_2_7.out w9.heap.size _ (hb.alloc hb.size _) ⟨heap_alloc_new _ _, hb.size⟩
          rw [HWN.out, HA0.out] at HH
          simp only [upX, List.take_succ_cons, List.take_zero, List.drop_succ_cons, List.drop_zero, List.cons_append, List.nil_append] at HH
          exact HH
        exact Reg.N_none
      have HKH_2 := Lib.hid H_2
      clear H_2
      have H_6_7 : ∀ (d6 d7 : Nat) (w9 : World), Below we.drew.heap.size we.drew w9 → (w9.heap[d6]? = some (.cells #[.int .i64 0, .bool false, .int .u64 0, .string ⟨#[]⟩] 29 (0, 0)) ∧ we.drew.heap.size ≤ d6) → (w9.heap[d7]? = some (.cells #[.int .i64 0, .bool false, .int .u64 0, .string ⟨#[]⟩] 29 (0, 0)) ∧ we.drew.heap.size ≤ d7) → d6 ≠ d7 → WN (.alt 2 (.alt 5 (.alt 8 (.alt 9 .done .none) .none) .none) .none) { tmps := (upX a0.tmps.toList (.pointer (some ⟨d6, 0, none⟩)) (.pointer (some ⟨d7, 0, none⟩)) (undef) (undef)).toArray, defers := a0.defers } w9 := by
        intro d6 d7 w9 hb f6 f7 n6_7
        rw [HWN.out, HA0.out]
        simp only [upX, List.take_succ_cons, List.take_zero, List.drop_succ_cons, List.drop_zero, List.cons_append, List.nil_append]
        refine Reg.N_step (o := { dst := some 59, op := Op.call { callee := Callee.value (Operand.func 21), args := #[Operand.const (Value.int IntKind.i64 7), Operand.tmp 58], argTypes := #[3, 22] }, type := 29, pos := "law.go:50", after := #[{ on := 1, ground := Ground.data }], guard := Option.none }) (by rfl) ?_ (fun K hK => ?_) ?_
        · kernel_rfl
        · go_simp
          refine (HX _).mono ?_
          rintro e w10 ⟨rfl, b10⟩
          refine hK.out _ _ (HN6.out _ (bstep hb b10)) (fun _ => ?_)
          clear hK
          try simp only [Act.put, List.setIfInBounds_toArray, List.set_cons_zero, List.set_cons_succ]
          have HH := HKH_2_6_7.out d6 d7 w10 (bstep hb b10) ⟨blk_below f6.1 b10, f6.2⟩ ⟨blk_below f7.1 b10, f7.2⟩ n6_7
          rw [HWN.out, HA0.out] at HH
          simp only [upX, List.take_succ_cons, List.take_zero, List.drop_succ_cons, List.drop_zero, List.cons_append, List.nil_append] at HH
          exact HH
        exact Reg.N_none
      have HKH_6_7 := Lib.hid H_6_7
      clear H_6_7
      have H_6 : ∀ (d6 : Nat) (w9 : World), Below we.drew.heap.size we.drew w9 → (w9.heap[d6]? = some (.cells #[.int .i64 0, .bool false, .int .u64 0, .string ⟨#[]⟩] 29 (0, 0)) ∧ we.drew.heap.size ≤ d6) → WN (.alt 2 (.alt 5 (.alt 7 (.alt 8 (.alt 9 .done .none) .none) .none) (.alt 7 (.alt 5 (.alt 8 (.alt 9 .done .none) .none) .none) .none)) (.alt 7 (.alt 2 (.alt 5 (.alt 8 (.alt 9 .done .none) .none) .none) .none) .none)) { tmps := (upX a0.tmps.toList (.pointer (some ⟨d6, 0, none⟩)) (undef) (undef) (undef)).toArray, defers := a0.defers } w9 := by
        intro d6 w9 hb f6
        rw [HWN.out, HA0.out]
        simp only [upX, List.take_succ_cons, List.take_zero, List.drop_succ_cons, List.drop_zero, List.cons_append, List.nil_append]
        refine Reg.N_step (o := { dst := some 59, op := Op.call { callee := Callee.value (Operand.func 21), args := #[Operand.const (Value.int IntKind.i64 7), Operand.tmp 58], argTypes := #[3, 22] }, type := 29, pos := "law.go:50", after := #[{ on := 1, ground := Ground.data }], guard := Option.none }) (by rfl) ?_ (fun K hK => ?_) ?_
        · kernel_rfl
        · go_simp
          refine (HX _).mono ?_
          rintro e w10 ⟨rfl, b10⟩
          refine hK.out _ _ (HN6.out _ (bstep hb b10)) (fun _ => ?_)
          clear hK
          try simp only [Act.put, List.setIfInBounds_toArray, List.set_cons_zero, List.set_cons_succ]
          have HH := HKH_2_6.out d6 w10 (bstep hb b10) ⟨blk_below f6.1 b10, f6.2⟩
          rw [HWN.out, HA0.out] at HH
          simp only [upX, List.take_succ_cons, List.take_zero, List.drop_succ_cons, List.drop_zero, List.cons_append, List.nil_append] at HH
          exact HH
        refine Reg.N_step (o := { dst := some 9, op := Op.alloc 29, type := 0, pos := "law.go:50", after := #[], guard := Option.none }) (by rfl) ?_ (fun K hK => ?_) ?_
        · kernel_rfl
        · go_simp
          refine hK.out _ _ (HN6.out _ (hb.alloc hb.size _)) (fun _ => ?_)
          clear hK
          try simp only [Act.put, List.setIfInBounds_toArray, List.set_cons_zero, List.set_cons_succ]
          have HH := HKH_6_7.out d6 w9.heap.size _ (hb.alloc hb.size _) ⟨blk_alloc f6.1 _, f6.2⟩ ⟨heap_alloc_new _ _, hb.size⟩ (Nat.ne_of_lt (blk_lt f6.1))
          rw [HWN.out, HA0.out] at HH
          simp only [upX, List.take_succ_cons, List.take_zero, List.drop_succ_cons, List.drop_zero, List.cons_append, List.nil_append] at HH
          exact HH
        exact Reg.N_none
      have HKH_6 := Lib.hid H_6
      clear H_6
      have H_7 : ∀ (d7 : Nat) (w9 : World), Below we.drew.heap.size we.drew w9 → (w9.heap[d7]? = some (.cells #[.int .i64 0, .bool false, .int .u64 0, .string ⟨#[]⟩] 29 (0, 0)) ∧ we.drew.heap.size ≤ d7) → WN (.alt 2 (.alt 5 (.alt 6 (.alt 8 (.alt 9 .done .none) .none) .none) (.alt 6 (.alt 5 (.alt 8 (.alt 9 .done .none) .none) .none) .none)) (.alt 6 (.alt 2 (.alt 5 (.alt 8 (.alt 9 .done .none) .none) .none) .none) .none)) { tmps := (upX a0.tmps.toList (undef) (.pointer (some ⟨d7, 0, none⟩)) (undef) (undef)).toArray, defers := a0.defers } w9 := by
        intro d7 w9 hb f7
        rw [HWN.out, HA0.out]
        simp only [upX, List.take_succ_cons, List.take_zero, List.drop_succ_cons, List.drop_zero, List.cons_append, List.nil_append]
        refine Reg.N_step (o := { dst := some 59, op := Op.call { callee := Callee.value (Operand.func 21), args := #[Operand.const (Value.int IntKind.i64 7), Operand.tmp 58], argTypes := #[3, 22] }, type := 29, pos := "law.go:50", after := #[{ on := 1, ground := Ground.data }], guard := Option.none }) (by rfl) ?_ (fun K hK => ?_) ?_
        · kernel_rfl
        · go_simp
          refine (HX _).mono ?_
          rintro e w10 ⟨rfl, b10⟩
          refine hK.out _ _ (HN6.out _ (bstep hb b10)) (fun _ => ?_)
          clear hK
          try simp only [Act.put, List.setIfInBounds_toArray, List.set_cons_zero, List.set_cons_succ]
          have HH := HKH_2_7.out d7 w10 (bstep hb b10) ⟨blk_below f7.1 b10, f7.2⟩
          rw [HWN.out, HA0.out] at HH
          simp only [upX, List.take_succ_cons, List.take_zero, List.drop_succ_cons, List.drop_zero, List.cons_append, List.nil_append] at HH
          exact HH
        refine Reg.N_step (o := { dst := some 8, op := Op.alloc 29, type := 0, pos := "law.go:50", after := #[], guard := Option.none }) (by rfl) ?_ (fun K hK => ?_) ?_
        · kernel_rfl
        · go_simp
          refine hK.out _ _ (HN6.out _ (hb.alloc hb.size _)) (fun _ => ?_)
          clear hK
          try simp only [Act.put, List.setIfInBounds_toArray, List.set_cons_zero, List.set_cons_succ]
          have HH := HKH_6_7.out w9.heap.size d7 _ (hb.alloc hb.size _) ⟨heap_alloc_new _ _, hb.size⟩ ⟨blk_alloc f7.1 _, f7.2⟩ (Nat.ne_of_gt (blk_lt f7.1))
          rw [HWN.out, HA0.out] at HH
          simp only [upX, List.take_succ_cons, List.take_zero, List.drop_succ_cons, List.drop_zero, List.cons_append, List.nil_append] at HH
          exact HH
        exact Reg.N_none
      have HKH_7 := Lib.hid H_7
      clear H_7
      have H_0 : ∀ (w9 : World), Below we.drew.heap.size we.drew w9 → WN (.alt 2 (.alt 5 (.alt 6 (.alt 7 (.alt 8 (.alt 9 .done .none) .none) .none) (.alt 7 (.alt 6 (.alt 8 (.alt 9 .done .none) .none) .none) .none)) (.alt 6 (.alt 5 (.alt 7 (.alt 8 (.alt 9 .done .none) .none) .none) (.alt 7 (.alt 5 (.alt 8 (.alt 9 .done .none) .none) .none) .none)) (.alt 7 (.alt 5 (.alt 6 (.alt 8 (.alt 9 .done .none) .none) .none) (.alt 6 (.alt 5 (.alt 8 (.alt 9 .done .none) .none) .none) .none)) .none))) (.alt 6 (.alt 2 (.alt 5 (.alt 7 (.alt 8 (.alt 9 .done .none) .none) .none) (.alt 7 (.alt 5 (.alt 8 (.alt 9 .done .none) .none) .none) .none)) (.alt 7 (.alt 2 (.alt 5 (.alt 8 (.alt 9 .done .none) .none) .none) .none) .none)) (.alt 7 (.alt 2 (.alt 5 (.alt 6 (.alt 8 (.alt 9 .done .none) .none) .none) (.alt 6 (.alt 5 (.alt 8 (.alt 9 .done .none) .none) .none) .none)) (.alt 6 (.alt 2 (.alt 5 (.alt 8 (.alt 9 .done .none) .none) .none) .none) .none)) .none))) { tmps := (upX a0.tmps.toList (undef) (undef) (undef) (undef)).toArray, defers := a0.defers } w9 := by
        intro w9 hb
        rw [HWN.out, HA0.out]
        simp only [upX, List.take_succ_cons, List.take_zero, List.drop_succ_cons, List.drop_zero, List.cons_append, List.nil_append]
        refine Reg.N_step (o := { dst := some 59, op := Op.call { callee := Callee.value (Operand.func 21), args := #[Operand.const (Value.int IntKind.i64 7), Operand.tmp 58], argTypes := #[3, 22] }, type := 29, pos := "law.go:50", after := #[{ on := 1, ground := Ground.data }], guard := Option.none }) (by rfl) ?_ (fun K hK => ?_) ?_
        · kernel_rfl
        · go_simp
          refine (HX _).mono ?_
          rintro e w10 ⟨rfl, b10⟩
          refine hK.out _ _ (HN6.out _ (bstep hb b10)) (fun _ => ?_)
          clear hK
          try simp only [Act.put, List.setIfInBounds_toArray, List.set_cons_zero, List.set_cons_succ]
          have HH := HKH_2.out w10 (bstep hb b10)
          rw [HWN.out, HA0.out] at HH
          simp only [upX, List.take_succ_cons, List.take_zero, List.drop_succ_cons, List.drop_zero, List.cons_append, List.nil_append] at HH
          exact HH
        refine Reg.N_step (o := { dst := some 8, op := Op.alloc 29, type := 0, pos := "law.go:50", after := #[], guard := Option.none }) (by rfl) ?_ (fun K hK => ?_) ?_
        · kernel_rfl
        · go_simp
          refine hK.out _ _ (HN6.out _ (hb.alloc hb.size _)) (fun _ => ?_)
          clear hK
          try simp only [Act.put, List.setIfInBounds_toArray, List.set_cons_zero, List.set_cons_succ]
          have HH := HKH_6.out w9.heap.size _ (hb.alloc hb.size _) ⟨heap_alloc_new _ _, hb.size⟩
          rw [HWN.out, HA0.out] at HH
          simp only [upX, List.take_succ_cons, List.take_zero, List.drop_succ_cons, List.drop_zero, List.cons_append, List.nil_append] at HH
          exact HH
        refine Reg.N_step (o := { dst := some 9, op := Op.alloc 29, type := 0, pos := "law.go:50", after := #[], guard := Option.none }) (by rfl) ?_ (fun K hK => ?_) ?_
        · kernel_rfl
        · go_simp
          refine hK.out _ _ (HN6.out _ (hb.alloc hb.size _)) (fun _ => ?_)
          clear hK
          try simp only [Act.put, List.setIfInBounds_toArray, List.set_cons_zero, List.set_cons_succ]
          have HH := HKH_7.out w9.heap.size _ (hb.alloc hb.size _) ⟨heap_alloc_new _ _, hb.size⟩
          rw [HWN.out, HA0.out] at HH
          simp only [upX, List.take_succ_cons, List.take_zero, List.drop_succ_cons, List.drop_zero, List.cons_append, List.nil_append] at HH
          exact HH
        exact Reg.N_none
      have HKH_0 := Lib.hid H_0
      clear H_0
      have HH := HKH_0.out _ (Below.refl _ _)
      rw [HA0.out] at HH
      simp only [upX, List.take_succ_cons, List.take_zero, List.drop_succ_cons, List.drop_zero, List.cons_append, List.nil_append] at HH
      rw [HA0.out]
      exact HH
    · intro TAIL
      simp only [upP, List.take_succ_cons, List.take_zero, List.drop_succ_cons, List.drop_zero, List.cons_append, List.nil_append] at TAIL
      have hT := Lib.hid TAIL
      clear TAIL hK4
      have htr := HN.out.2.1
      by_cases h1 : ab ≤ 0
      · by_cases h2 : bc ≤ 0
        · have h3 := htr h1 h2
          clear htr
          go_wp2_with fail
          refine (HAB _).mono ?_
          rintro e w5 ⟨rfl, h5⟩
          have B5 := bstep H3.out h5
          clear ea0 ea1 ea2 ea3 eb0 eb1 eb2 eb3 ec0 ec1 ec2 ec3
          obtain ⟨⟨ea0, ea1, ea2, ea3⟩, ⟨eb0, eb1, eb2, eb3⟩, ec0, ec1, ec2, ec3⟩ := HKA.out w5 B5
          go_wp2_with fail
          refine (HBC _).mono ?_
          rintro e w6 ⟨rfl, h6⟩
          have B6 := bstep B5 h6
          clear ea0 ea1 ea2 ea3 eb0 eb1 eb2 eb3 ec0 ec1 ec2 ec3
          obtain ⟨⟨ea0, ea1, ea2, ea3⟩, ⟨eb0, eb1, eb2, eb3⟩, ec0, ec1, ec2, ec3⟩ := HKA.out w6 B6
          go_wp2_with fail
          refine (HAC _).mono ?_
          rintro e w7 ⟨rfl, h7⟩
          have B7 := Lib.hid (bstep B6 h7)
          clear ea0 ea1 ea2 ea3 eb0 eb1 eb2 eb3 ec0 ec1 ec2 ec3
          clear h5 h6 h7 B5 B6
          go_wp2
          exact hT.out _ _ _ _ _ _ _ _ _ _ _ _ _ _ _ _ _ B7.out
        · clear htr
          go_wp2_with fail
          refine (HAB _).mono ?_
          rintro e w5 ⟨rfl, h5⟩
          have B5 := bstep H3.out h5
          clear ea0 ea1 ea2 ea3 eb0 eb1 eb2 eb3 ec0 ec1 ec2 ec3
          obtain ⟨⟨ea0, ea1, ea2, ea3⟩, ⟨eb0, eb1, eb2, eb3⟩, ec0, ec1, ec2, ec3⟩ := HKA.out w5 B5
          go_wp2_with fail
          refine (HBC _).mono ?_
          rintro e w6 ⟨rfl, h6⟩
          have B6 := Lib.hid (bstep B5 h6)
          clear ea0 ea1 ea2 ea3 eb0 eb1 eb2 eb3 ec0 ec1 ec2 ec3
          clear h5 h6 B5
          go_wp2
          exact hT.out _ _ _ _ _ _ _ _ _ _ _ _ _ _ _ _ _ B6.out
      · clear htr
        go_wp2_with fail
        refine (HAB _).mono ?_
        rintro e w5 ⟨rfl, h5⟩
        have B5 := Lib.hid (bstep H3.out h5)
        clear ea0 ea1 ea2 ea3 eb0 eb1 eb2 eb3 ec0 ec1 ec2 ec3
        clear h5
        go_wp2
        exact hT.out _ _ _ _ _ _ _ _ _ _ _ _ _ _ _ _ _ B5.out
  have HKH_4_9_14_15_16_17 := Lib.hid H_4_9_14_15_16_17
  clear H_4_9_14_15_16_17
  have H_4_9_14_15_16 : ∀ (b15 b16 : Nat) (w9 : World), Below W1.drew.heap.size W1.drew w9 → (w9.heap[b15]? = some (.cells #[.int .i64 0, .bool false, .int .u64 0, .string ⟨#[]⟩] 29 (0, 0)) ∧ W1.drew.heap.size ≤ b15) → (w9.heap[b16]? = some (.cells #[.int .i64 0, .bool false, .int .u64 0, .string ⟨#[]⟩] 29 (0, 0)) ∧ W1.drew.heap.size ≤ b16) → b15 ≠ b16 → WN (.alt 17 (.alt 18 (.alt 19 (.alt 20 .done .none) .none) .none) .none) { tmps := (upA a0.tmps.toList (.pointer (some ⟨b15, 0, none⟩)) (.pointer (some ⟨b16, 0, none⟩)) (undef) (.agg #[.int .i64 a1, .bool a2, .int .u64 a3, .string ⟨#[]⟩]) (.agg #[.int .i64 b1, .bool b2, .int .u64 b3, .string ⟨#[]⟩]) (.agg #[.int .i64 c1, .bool c2, .int .u64 c3, .string ⟨#[]⟩])).toArray, defers := a0.defers } w9 := by
    intro b15 b16 w9 hb f15 f16 n15_16
    rw [HWN.out, HA0.out]
    simp only [upA, List.take_succ_cons, List.take_zero, List.drop_succ_cons, List.drop_zero, List.cons_append, List.nil_append]
    refine Reg.N_step (o := { dst := some 7, op := Op.alloc 29, type := 0, pos := "law.go:43", after := #[], guard := Option.none }) (by rfl) ?_ (fun K hK => ?_) ?_
    · kernel_rfl
    · go_simp
      refine hK.out _ _ (HS.out _ (hb.alloc hb.size _)) (fun _ => ?_)
      clear hK
      try simp only [Act.put, List.setIfInBounds_toArray, List.set_cons_zero, List.set_cons_succ]
      have HH := HKH_4_9_14_15_16_17.out b15 b16 w9.heap.size _ (hb.alloc hb.size _) ⟨blk_alloc f15.1 _, f15.2⟩ ⟨blk_alloc f16.1 _, f16.2⟩ ⟨heap_alloc_new _ _, hb.size⟩ n15_16 (Nat.ne_of_lt (blk_lt f15.1)) (Nat.ne_of_lt (blk_lt f16.1))
      rw [HWN.out, HA0.out] at HH
      simp only [upA, List.take_succ_cons, List.take_zero, List.drop_succ_cons, List.drop_zero, List.cons_append, List.nil_append] at HH
      exact HH
    exact Reg.N_none
  have HKH_4_9_14_15_16 := Lib.hid H_4_9_14_15_16
  clear H_4_9_14_15_16
  have H_4_9_14_15_17 : ∀ (b15 b17 : Nat) (w9 : World), Below W1.drew.heap.size W1.drew w9 → (w9.heap[b15]? = some (.cells #[.int .i64 0, .bool false, .int .u64 0, .string ⟨#[]⟩] 29 (0, 0)) ∧ W1.drew.heap.size ≤ b15) → (w9.heap[b17]? = some (.cells #[.int .i64 0, .bool false, .int .u64 0, .string ⟨#[]⟩] 29 (0, 0)) ∧ W1.drew.heap.size ≤ b17) → b15 ≠ b17 → WN (.alt 16 (.alt 18 (.alt 19 (.alt 20 .done .none) .none) .none) .none) { tmps := (upA a0.tmps.toList (.pointer (some ⟨b15, 0, none⟩)) (undef) (.pointer (some ⟨b17, 0, none⟩)) (.agg #[.int .i64 a1, .bool a2, .int .u64 a3, .string ⟨#[]⟩]) (.agg #[.int .i64 b1, .bool b2, .int .u64 b3, .string ⟨#[]⟩]) (.agg #[.int .i64 c1, .bool c2, .int .u64 c3, .string ⟨#[]⟩])).toArray, defers := a0.defers } w9 := by
    intro b15 b17 w9 hb f15 f17 n15_17
    rw [HWN.out, HA0.out]
    simp only [upA, List.take_succ_cons, List.take_zero, List.drop_succ_cons, List.drop_zero, List.cons_append, List.nil_append]
    refine Reg.N_step (o := { dst := some 6, op := Op.alloc 29, type := 0, pos := "law.go:43", after := #[], guard := Option.none }) (by rfl) ?_ (fun K hK => ?_) ?_
    · kernel_rfl
    · go_simp
      refine hK.out _ _ (HS.out _ (hb.alloc hb.size _)) (fun _ => ?_)
      clear hK
      try simp only [Act.put, List.setIfInBounds_toArray, List.set_cons_zero, List.set_cons_succ]
      have HH := HKH_4_9_14_15_16_17.out b15 w9.heap.size b17 _ (hb.alloc hb.size _) ⟨blk_alloc f15.1 _, f15.2⟩ ⟨heap_alloc_new _ _, hb.size⟩ ⟨blk_alloc f17.1 _, f17.2⟩ (Nat.ne_of_lt (blk_lt f15.1)) n15_17 (Nat.ne_of_gt (blk_lt f17.1))
      rw [HWN.out, HA0.out] at HH
      simp only [upA, List.take_succ_cons, List.take_zero, List.drop_succ_cons, List.drop_zero, List.cons_append, List.nil_append] at HH
      exact HH
    exact Reg.N_none
  have HKH_4_9_14_15_17 := Lib.hid H_4_9_14_15_17
  clear H_4_9_14_15_17
  have H_4_9_14_15 : ∀ (b15 : Nat) (w9 : World), Below W1.drew.heap.size W1.drew w9 → (w9.heap[b15]? = some (.cells #[.int .i64 0, .bool false, .int .u64 0, .string ⟨#[]⟩] 29 (0, 0)) ∧ W1.drew.heap.size ≤ b15) → WN (.alt 16 (.alt 17 (.alt 18 (.alt 19 (.alt 20 .done .none) .none) .none) .none) (.alt 17 (.alt 16 (.alt 18 (.alt 19 (.alt 20 .done .none) .none) .none) .none) .none)) { tmps := (upA a0.tmps.toList (.pointer (some ⟨b15, 0, none⟩)) (undef) (undef) (.agg #[.int .i64 a1, .bool a2, .int .u64 a3, .string ⟨#[]⟩]) (.agg #[.int .i64 b1, .bool b2, .int .u64 b3, .string ⟨#[]⟩]) (.agg #[.int .i64 c1, .bool c2, .int .u64 c3, .string ⟨#[]⟩])).toArray, defers := a0.defers } w9 := by
    intro b15 w9 hb f15
    rw [HWN.out, HA0.out]
    simp only [upA, List.take_succ_cons, List.take_zero, List.drop_succ_cons, List.drop_zero, List.cons_append, List.nil_append]
    refine Reg.N_step (o := { dst := some 6, op := Op.alloc 29, type := 0, pos := "law.go:43", after := #[], guard := Option.none }) (by rfl) ?_ (fun K hK => ?_) ?_
    · kernel_rfl
    · go_simp
      refine hK.out _ _ (HS.out _ (hb.alloc hb.size _)) (fun _ => ?_)
      clear hK
      try simp only [Act.put, List.setIfInBounds_toArray, List.set_cons_zero, List.set_cons_succ]
      have HH := HKH_4_9_14_15_16.out b15 w9.heap.size _ (hb.alloc hb.size _) ⟨blk_alloc f15.1 _, f15.2⟩ ⟨heap_alloc_new _ _, hb.size⟩ (Nat.ne_of_lt (blk_lt f15.1))
      rw [HWN.out, HA0.out] at HH
      simp only [upA, List.take_succ_cons, List.take_zero, List.drop_succ_cons, List.drop_zero, List.cons_append, List.nil_append] at HH
      exact HH
    refine Reg.N_step (o := { dst := some 7, op := Op.alloc 29, type := 0, pos := "law.go:43", after := #[], guard := Option.none }) (by rfl) ?_ (fun K hK => ?_) ?_
    · kernel_rfl
    · go_simp
      refine hK.out _ _ (HS.out _ (hb.alloc hb.size _)) (fun _ => ?_)
      clear hK
      try simp only [Act.put, List.setIfInBounds_toArray, List.set_cons_zero, List.set_cons_succ]
      have HH := HKH_4_9_14_15_17.out b15 w9.heap.size _ (hb.alloc hb.size _) ⟨blk_alloc f15.1 _, f15.2⟩ ⟨heap_alloc_new _ _, hb.size⟩ (Nat.ne_of_lt (blk_lt f15.1))
      rw [HWN.out, HA0.out] at HH
      simp only [upA, List.take_succ_cons, List.take_zero, List.drop_succ_cons, List.drop_zero, List.cons_append, List.nil_append] at HH
      exact HH
    exact Reg.N_none
  have HKH_4_9_14_15 := Lib.hid H_4_9_14_15
  clear H_4_9_14_15
  have H_4_9_14_16_17 : ∀ (b16 b17 : Nat) (w9 : World), Below W1.drew.heap.size W1.drew w9 → (w9.heap[b16]? = some (.cells #[.int .i64 0, .bool false, .int .u64 0, .string ⟨#[]⟩] 29 (0, 0)) ∧ W1.drew.heap.size ≤ b16) → (w9.heap[b17]? = some (.cells #[.int .i64 0, .bool false, .int .u64 0, .string ⟨#[]⟩] 29 (0, 0)) ∧ W1.drew.heap.size ≤ b17) → b16 ≠ b17 → WN (.alt 15 (.alt 18 (.alt 19 (.alt 20 .done .none) .none) .none) .none) { tmps := (upA a0.tmps.toList (undef) (.pointer (some ⟨b16, 0, none⟩)) (.pointer (some ⟨b17, 0, none⟩)) (.agg #[.int .i64 a1, .bool a2, .int .u64 a3, .string ⟨#[]⟩]) (.agg #[.int .i64 b1, .bool b2, .int .u64 b3, .string ⟨#[]⟩]) (.agg #[.int .i64 c1, .bool c2, .int .u64 c3, .string ⟨#[]⟩])).toArray, defers := a0.defers } w9 := by
    intro b16 b17 w9 hb f16 f17 n16_17
    rw [HWN.out, HA0.out]
    simp only [upA, List.take_succ_cons, List.take_zero, List.drop_succ_cons, List.drop_zero, List.cons_append, List.nil_append]
    refine Reg.N_step (o := { dst := some 5, op := Op.alloc 29, type := 0, pos := "law.go:43", after := #[], guard := Option.none }) (by rfl) ?_ (fun K hK => ?_) ?_
    · kernel_rfl
    · go_simp
      refine hK.out _ _ (HS.out _ (hb.alloc hb.size _)) (fun _ => ?_)
      clear hK
      try simp only [Act.put, List.setIfInBounds_toArray, List.set_cons_zero, List.set_cons_succ]
      have HH := HKH_4_9_14_15_16_17.out w9.heap.size b16 b17 _ (hb.alloc hb.size _) ⟨heap_alloc_new _ _, hb.size⟩ ⟨blk_alloc f16.1 _, f16.2⟩ ⟨blk_alloc f17.1 _, f17.2⟩ (Nat.ne_of_gt (blk_lt f16.1)) (Nat.ne_of_gt (blk_lt f17.1)) n16_17
      rw [HWN.out, HA0.out] at HH
      simp only [upA, List.take_succ_cons, List.take_zero, List.drop_succ_cons, List.drop_zero, List.cons_append, List.nil_append] at HH
      exact HH
    exact Reg.N_none
  have HKH_4_9_14_16_17 := Lib.hid H_4_9_14_16_17
  clear H_4_9_14_16_17
  have H_4_9_14_16 : ∀ (b16 : Nat) (w9 : World), Below W1.drew.heap.size W1.drew w9 → (w9.heap[b16]? = some (.cells #[.int .i64 0, .bool false, .int .u64 0, .string ⟨#[]⟩] 29 (0, 0)) ∧ W1.drew.heap.size ≤ b16) → WN (.alt 15 (.alt 17 (.alt 18 (.alt 19 (.alt 20 .done .none) .none) .none) .none) (.alt 17 (.alt 15 (.alt 18 (.alt 19 (.alt 20 .done .none) .none) .none) .none) .none)) { tmps := (upA a0.tmps.toList (undef) (.pointer (some ⟨b16, 0, none⟩)) (undef) (.agg #[.int .i64 a1, .bool a2, .int .u64 a3, .string ⟨#[]⟩]) (.agg #[.int .i64 b1, .bool b2, .int .u64 b3, .string ⟨#[]⟩]) (.agg #[.int .i64 c1, .bool c2, .int .u64 c3, .string ⟨#[]⟩])).toArray, defers := a0.defers } w9 := by
    intro b16 w9 hb f16
    rw [HWN.out, HA0.out]
    simp only [upA, List.take_succ_cons, List.take_zero, List.drop_succ_cons, List.drop_zero, List.cons_append, List.nil_append]
    refine Reg.N_step (o := { dst := some 5, op := Op.alloc 29, type := 0, pos := "law.go:43", after := #[], guard := Option.none }) (by rfl) ?_ (fun K hK => ?_) ?_
    · kernel_rfl
    · go_simp
      refine hK.out _ _ (HS.out _ (hb.alloc hb.size _)) (fun _ => ?_)
      clear hK
      try simp only [Act.put, List.setIfInBounds_toArray, List.set_cons_zero, List.set_cons_succ]
      have HH := HKH_4_9_14_15_16.out w9.heap.size b16 _ (hb.alloc hb.size _) ⟨heap_alloc_new _ _, hb.size⟩ ⟨blk_alloc f16.1 _, f16.2⟩ (Nat.ne_of_gt (blk_lt f16.1))
      rw [HWN.out, HA0.out] at HH
      simp only [upA, List.take_succ_cons, List.take_zero, List.drop_succ_cons, List.drop_zero, List.cons_append, List.nil_append] at HH
      exact HH
    refine Reg.N_step (o := { dst := some 7, op := Op.alloc 29, type := 0, pos := "law.go:43", after := #[], guard := Option.none }) (by rfl) ?_ (fun K hK => ?_) ?_
    · kernel_rfl
    · go_simp
      refine hK.out _ _ (HS.out _ (hb.alloc hb.size _)) (fun _ => ?_)
      clear hK
      try simp only [Act.put, List.setIfInBounds_toArray, List.set_cons_zero, List.set_cons_succ]
      have HH := HKH_4_9_14_16_17.out b16 w9.heap.size _ (hb.alloc hb.size _) ⟨blk_alloc f16.1 _, f16.2⟩ ⟨heap_alloc_new _ _, hb.size⟩ (Nat.ne_of_lt (blk_lt f16.1))
      rw [HWN.out, HA0.out] at HH
      simp only [upA, List.take_succ_cons, List.take_zero, List.drop_succ_cons, List.drop_zero, List.cons_append, List.nil_append] at HH
      exact HH
    exact Reg.N_none
  have HKH_4_9_14_16 := Lib.hid H_4_9_14_16
  clear H_4_9_14_16
  have H_4_9_14_17 : ∀ (b17 : Nat) (w9 : World), Below W1.drew.heap.size W1.drew w9 → (w9.heap[b17]? = some (.cells #[.int .i64 0, .bool false, .int .u64 0, .string ⟨#[]⟩] 29 (0, 0)) ∧ W1.drew.heap.size ≤ b17) → WN (.alt 15 (.alt 16 (.alt 18 (.alt 19 (.alt 20 .done .none) .none) .none) .none) (.alt 16 (.alt 15 (.alt 18 (.alt 19 (.alt 20 .done .none) .none) .none) .none) .none)) { tmps := (upA a0.tmps.toList (undef) (undef) (.pointer (some ⟨b17, 0, none⟩)) (.agg #[.int .i64 a1, .bool a2, .int .u64 a3, .string ⟨#[]⟩]) (.agg #[.int .i64 b1, .bool b2, .int .u64 b3, .string ⟨#[]⟩]) (.agg #[.int .i64 c1, .bool c2, .int .u64 c3, .string ⟨#[]⟩])).toArray, defers := a0.defers } w9 := by
    intro b17 w9 hb f17
    rw [HWN.out, HA0.out]
    simp only [upA, List.take_succ_cons, List.take_zero, List.drop_succ_cons, List.drop_zero, List.cons_append, List.nil_append]
    refine Reg.N_step (o := { dst := some 5, op := Op.alloc 29, type := 0, pos := "law.go:43", after := #[], guard := Option.none }) (by rfl) ?_ (fun K hK => ?_) ?_
    · kernel_rfl
    · go_simp
      refine hK.out _ _ (HS.out _ (hb.alloc hb.size _)) (fun _ => ?_)
      clear hK
      try simp only [Act.put, List.setIfInBounds_toArray, List.set_cons_zero, List.set_cons_succ]
      have HH := HKH_4_9_14_15_17.out w9.heap.size b17 _ (hb.alloc hb.size _) ⟨heap_alloc_new _ _, hb.size⟩ ⟨blk_alloc f17.1 _, f17.2⟩ (Nat.ne_of_gt (blk_lt f17.1))
      rw [HWN.out, HA0.out] at HH
      simp only [upA, List.take_succ_cons, List.take_zero, List.drop_succ_cons, List.drop_zero, List.cons_append, List.nil_append] at HH
      exact HH
    refine Reg.N_step (o := { dst := some 6, op := Op.alloc 29, type := 0, pos := "law.go:43", after := #[], guard := Option.none }) (by rfl) ?_ (fun K hK => ?_) ?_
    · kernel_rfl
    · go_simp
      refine hK.out _ _ (HS.out _ (hb.alloc hb.size _)) (fun _ => ?_)
      clear hK
      try simp only [Act.put, List.setIfInBounds_toArray, List.set_cons_zero, List.set_cons_succ]
      have HH := HKH_4_9_14_16_17.out w9.heap.size b17 _ (hb.alloc hb.size _) ⟨heap_alloc_new _ _, hb.size⟩ ⟨blk_alloc f17.1 _, f17.2⟩ (Nat.ne_of_gt (blk_lt f17.1))
      rw [HWN.out, HA0.out] at HH
      simp only [upA, List.take_succ_cons, List.take_zero, List.drop_succ_cons, List.drop_zero, List.cons_append, List.nil_append] at HH
      exact HH
    exact Reg.N_none
  have HKH_4_9_14_17 := Lib.hid H_4_9_14_17
  clear H_4_9_14_17
  have H_4_9_14 : ∀ (w9 : World), Below W1.drew.heap.size W1.drew w9 → WN (.alt 15 (.alt 16 (.alt 17 (.alt 18 (.alt 19 (.alt 20 .done .none) .none) .none) .none) (.alt 17 (.alt 16 (.alt 18 (.alt 19 (.alt 20 .done .none) .none) .none) .none) .none)) (.alt 16 (.alt 15 (.alt 17 (.alt 18 (.alt 19 (.alt 20 .done .none) .none) .none) .none) (.alt 17 (.alt 15 (.alt 18 (.alt 19 (.alt 20 .done .none) .none) .none) .none) .none)) (.alt 17 (.alt 15 (.alt 16 (.alt 18 (.alt 19 (.alt 20 .done .none) .none) .none) .none) (.alt 16 (.alt 15 (.alt 18 (.alt 19 (.alt 20 .done .none) .none) .none) .none) .none)) .none))) { tmps := (upA a0.tmps.toList (undef) (undef) (undef) (.agg #[.int .i64 a1, .bool a2, .int .u64 a3, .string ⟨#[]⟩]) (.agg #[.int .i64 b1, .bool b2, .int .u64 b3, .string ⟨#[]⟩]) (.agg #[.int .i64 c1, .bool c2, .int .u64 c3, .string ⟨#[]⟩])).toArray, defers := a0.defers } w9 := by
    intro w9 hb
    rw [HWN.out, HA0.out]
    simp only [upA, List.take_succ_cons, List.take_zero, List.drop_succ_cons, List.drop_zero, List.cons_append, List.nil_append]
    refine Reg.N_step (o := { dst := some 5, op := Op.alloc 29, type := 0, pos := "law.go:43", after := #[], guard := Option.none }) (by rfl) ?_ (fun K hK => ?_) ?_
    · kernel_rfl
    · go_simp
      refine hK.out _ _ (HS.out _ (hb.alloc hb.size _)) (fun _ => ?_)
      clear hK
      try simp only [Act.put, List.setIfInBounds_toArray, List.set_cons_zero, List.set_cons_succ]
      have HH := HKH_4_9_14_15.out w9.heap.size _ (hb.alloc hb.size _) ⟨heap_alloc_new _ _, hb.size⟩
      rw [HWN.out, HA0.out] at HH
      simp only [upA, List.take_succ_cons, List.take_zero, List.drop_succ_cons, List.drop_zero, List.cons_append, List.nil_append] at HH
      exact HH
    refine Reg.N_step (o := { dst := some 6, op := Op.alloc 29, type := 0, pos := "law.go:43", after := #[], guard := Option.none }) (by rfl) ?_ (fun K hK => ?_) ?_
    · kernel_rfl
    · go_simp
      refine hK.out _ _ (HS.out _ (hb.alloc hb.size _)) (fun _ => ?_)
      clear hK
      try simp only [Act.put, List.setIfInBounds_toArray, List.set_cons_zero, List.set_cons_succ]
      have HH := HKH_4_9_14_16.out w9.heap.size _ (hb.alloc hb.size _) ⟨heap_alloc_new _ _, hb.size⟩
      rw [HWN.out, HA0.out] at HH
      simp only [upA, List.take_succ_cons, List.take_zero, List.drop_succ_cons, List.drop_zero, List.cons_append, List.nil_append] at HH
      exact HH
    refine Reg.N_step (o := { dst := some 7, op := Op.alloc 29, type := 0, pos := "law.go:43", after := #[], guard := Option.none }) (by rfl) ?_ (fun K hK => ?_) ?_
    · kernel_rfl
    · go_simp
      refine hK.out _ _ (HS.out _ (hb.alloc hb.size _)) (fun _ => ?_)
      clear hK
      try simp only [Act.put, List.setIfInBounds_toArray, List.set_cons_zero, List.set_cons_succ]
      have HH := HKH_4_9_14_17.out w9.heap.size _ (hb.alloc hb.size _) ⟨heap_alloc_new _ _, hb.size⟩
      rw [HWN.out, HA0.out] at HH
      simp only [upA, List.take_succ_cons, List.take_zero, List.drop_succ_cons, List.drop_zero, List.cons_append, List.nil_append] at HH
      exact HH
    exact Reg.N_none
  have HKH_4_9_14 := Lib.hid H_4_9_14
  clear H_4_9_14
  have H_4_9_15_16_17 : ∀ (b15 b16 b17 : Nat) (w9 : World), Below W1.drew.heap.size W1.drew w9 → (w9.heap[b15]? = some (.cells #[.int .i64 0, .bool false, .int .u64 0, .string ⟨#[]⟩] 29 (0, 0)) ∧ W1.drew.heap.size ≤ b15) → (w9.heap[b16]? = some (.cells #[.int .i64 0, .bool false, .int .u64 0, .string ⟨#[]⟩] 29 (0, 0)) ∧ W1.drew.heap.size ≤ b16) → (w9.heap[b17]? = some (.cells #[.int .i64 0, .bool false, .int .u64 0, .string ⟨#[]⟩] 29 (0, 0)) ∧ W1.drew.heap.size ≤ b17) → b15 ≠ b16 → b15 ≠ b17 → b16 ≠ b17 → WN (.alt 14 (.alt 18 (.alt 19 (.alt 20 .done .none) .none) .none) .none) { tmps := (upA a0.tmps.toList (.pointer (some ⟨b15, 0, none⟩)) (.pointer (some ⟨b16, 0, none⟩)) (.pointer (some ⟨b17, 0, none⟩)) (.agg #[.int .i64 a1, .bool a2, .int .u64 a3, .string ⟨#[]⟩]) (.agg #[.int .i64 b1, .bool b2, .int .u64 b3, .string ⟨#[]⟩]) (undef)).toArray, defers := a0.defers } w9 := by
    intro b15 b16 b17 w9 hb f15 f16 f17 n15_16 n15_17 n16_17
    rw [HWN.out, HA0.out]
    simp only [upA, List.take_succ_cons, List.take_zero, List.drop_succ_cons, List.drop_zero, List.cons_append, List.nil_append]
    refine Reg.N_step (o := { dst := some 26, op := Op.call { callee := Callee.value (Operand.func 21), args := #[Operand.tmp 23, Operand.tmp 25], argTypes := #[3, 22] }, type := 29, pos := "law.go:43", after := #[{ on := 11, ground := Ground.data }, { on := 13, ground := Ground.data }, { on := 9, ground := Ground.chain }], guard := Option.none }) (by rfl) ?_ (fun K hK => ?_) ?_
    · kernel_rfl
    · go_simp
      refine (HC _).mono ?_
      rintro e w10 ⟨rfl, b10⟩
      refine hK.out _ _ (HS.out _ (bstep hb b10)) (fun _ => ?_)
      clear hK
      try simp only [Act.put, List.setIfInBounds_toArray, List.set_cons_zero, List.set_cons_succ]
      have HH := HKH_4_9_14_15_16_17.out b15 b16 b17 w10 (bstep hb b10) ⟨blk_below f15.1 b10, f15.2⟩ ⟨blk_below f16.1 b10, f16.2⟩ ⟨blk_below f17.1 b10, f17.2⟩ n15_16 n15_17 n16_17
      rw [HWN.out, HA0.out] at HH
      simp only [upA, List.take_succ_cons, List.take_zero, List.drop_succ_cons, List.drop_zero, List.cons_append, List.nil_append] at HH
      exact HH
    exact Reg.N_none
  have HKH_4_9_15_16_17 := Lib.hid H_4_9_15_16_17
  clear H_4_9_15_16_17
  have H_4_9_15_16 : ∀ (b15 b16 : Nat) (w9 : World), Below W1.drew.heap.size W1.drew w9 → (w9.heap[b15]? = some (.cells #[.int .i64 0, .bool false, .int .u64 0, .string ⟨#[]⟩] 29 (0, 0)) ∧ W1.drew.heap.size ≤ b15) → (w9.heap[b16]? = some (.cells #[.int .i64 0, .bool false, .int .u64 0, .string ⟨#[]⟩] 29 (0, 0)) ∧ W1.drew.heap.size ≤ b16) → b15 ≠ b16 → WN (.alt 14 (.alt 17 (.alt 18 (.alt 19 (.alt 20 .done .none) .none) .none) .none) (.alt 17 (.alt 14 (.alt 18 (.alt 19 (.alt 20 .done .none) .none) .none) .none) .none)) { tmps := (upA a0.tmps.toList (.pointer (some ⟨b15, 0, none⟩)) (.pointer (some ⟨b16, 0, none⟩)) (undef) (.agg #[.int .i64 a1, .bool a2, .int .u64 a3, .string ⟨#[]⟩]) (.agg #[.int .i64 b1, .bool b2, .int .u64 b3, .string ⟨#[]⟩]) (undef)).toArray, defers := a0.defers } w9 := by
    intro b15 b16 w9 hb f15 f16 n15_16
    rw [HWN.out, HA0.out]
    simp only [upA, List.take_succ_cons, List.take_zero, List.drop_succ_cons, List.drop_zero, List.cons_append, List.nil_append]
    refine Reg.N_step (o := { dst := some 26, op := Op.call { callee := Callee.value (Operand.func 21), args := #[Operand.tmp 23, Operand.tmp 25], argTypes := #[3, 22] }, type := 29, pos := "law.go:43", after := #[{ on := 11, ground := Ground.data }, { on := 13, ground := Ground.data }, { on := 9, ground := Ground.chain }], guard := Option.none }) (by rfl) ?_ (fun K hK => ?_) ?_
    · kernel_rfl
    · go_simp
      refine (HC _).mono ?_
      rintro e w10 ⟨rfl, b10⟩
      refine hK.out _ _ (HS.out _ (bstep hb b10)) (fun _ => ?_)
      clear hK
      try simp only [Act.put, List.setIfInBounds_toArray, List.set_cons_zero, List.set_cons_succ]
      have HH := HKH_4_9_14_15_16.out b15 b16 w10 (bstep hb b10) ⟨blk_below f15.1 b10, f15.2⟩ ⟨blk_below f16.1 b10, f16.2⟩ n15_16
      rw [HWN.out, HA0.out] at HH
      simp only [upA, List.take_succ_cons, List.take_zero, List.drop_succ_cons, List.drop_zero, List.cons_append, List.nil_append] at HH
      exact HH
    refine Reg.N_step (o := { dst := some 7, op := Op.alloc 29, type := 0, pos := "law.go:43", after := #[], guard := Option.none }) (by rfl) ?_ (fun K hK => ?_) ?_
    · kernel_rfl
    · go_simp
      refine hK.out _ _ (HS.out _ (hb.alloc hb.size _)) (fun _ => ?_)
      clear hK
      try simp only [Act.put, List.setIfInBounds_toArray, List.set_cons_zero, List.set_cons_succ]
      have HH := HKH_4_9_15_16_17.out b15 b16 w9.heap.size _ (hb.alloc hb.size _) ⟨blk_alloc f15.1 _, f15.2⟩ ⟨blk_alloc f16.1 _, f16.2⟩ ⟨heap_alloc_new _ _, hb.size⟩ n15_16 (Nat.ne_of_lt (blk_lt f15.1)) (Nat.ne_of_lt (blk_lt f16.1))
      rw [HWN.out, HA0.out] at HH
      simp only [upA, List.take_succ_cons, List.take_zero, List.drop_succ_cons, List.drop_zero, List.cons_append, List.nil_append] at HH
      exact HH
    exact Reg.N_none
  have HKH_4_9_15_16 := Lib.hid H_4_9_15_16
  clear H_4_9_15_16
  have H_4_9_15_17 : ∀ (b15 b17 : Nat) (w9 : World), Below W1.drew.heap.size W1.drew w9 → (w9.heap[b15]? = some (.cells #[.int .i64 0, .bool false, .int .u64 0, .string ⟨#[]⟩] 29 (0, 0)) ∧ W1.drew.heap.size ≤ b15) → (w9.heap[b17]? = some (.cells #[.int .i64 0, .bool false, .int .u64 0, .string ⟨#[]⟩] 29 (0, 0)) ∧ W1.drew.heap.size ≤ b17) → b15 ≠ b17 → WN (.alt 14 (.alt 16 (.alt 18 (.alt 19 (.alt 20 .done .none) .none) .none) .none) (.alt 16 (.alt 14 (.alt 18 (.alt 19 (.alt 20 .done .none) .none) .none) .none) .none)) { tmps := (upA a0.tmps.toList (.pointer (some ⟨b15, 0, none⟩)) (undef) (.pointer (some ⟨b17, 0, none⟩)) (.agg #[.int .i64 a1, .bool a2, .int .u64 a3, .string ⟨#[]⟩]) (.agg #[.int .i64 b1, .bool b2, .int .u64 b3, .string ⟨#[]⟩]) (undef)).toArray, defers := a0.defers } w9 := by
    intro b15 b17 w9 hb f15 f17 n15_17
    rw [HWN.out, HA0.out]
    simp only [upA, List.take_succ_cons, List.take_zero, List.drop_succ_cons, List.drop_zero, List.cons_append, List.nil_append]
    refine Reg.N_step (o := { dst := some 26, op := Op.call { callee := Callee.value (Operand.func 21), args := #[Operand.tmp 23, Operand.tmp 25], argTypes := #[3, 22] }, type := 29, pos := "law.go:43", after := #[{ on := 11, ground := Ground.data }, { on := 13, ground := Ground.data }, { on := 9, ground := Ground.chain }], guard := Option.none }) (by rfl) ?_ (fun K hK => ?_) ?_
    · kernel_rfl
    · go_simp
      refine (HC _).mono ?_
      rintro e w10 ⟨rfl, b10⟩
      refine hK.out _ _ (HS.out _ (bstep hb b10)) (fun _ => ?_)
      clear hK
      try simp only [Act.put, List.setIfInBounds_toArray, List.set_cons_zero, List.set_cons_succ]
      have HH := HKH_4_9_14_15_17.out b15 b17 w10 (bstep hb b10) ⟨blk_below f15.1 b10, f15.2⟩ ⟨blk_below f17.1 b10, f17.2⟩ n15_17
      rw [HWN.out, HA0.out] at HH
      simp only [upA, List.take_succ_cons, List.take_zero, List.drop_succ_cons, List.drop_zero, List.cons_append, List.nil_append] at HH
      exact HH
    refine Reg.N_step (o := { dst := some 6, op := Op.alloc 29, type := 0, pos := "law.go:43", after := #[], guard := Option.none }) (by rfl) ?_ (fun K hK => ?_) ?_
    · kernel_rfl
    · go_simp
      refine hK.out _ _ (HS.out _ (hb.alloc hb.size _)) (fun _ => ?_)
      clear hK
      try simp only [Act.put, List.setIfInBounds_toArray, List.set_cons_zero, List.set_cons_succ]
      have HH := HKH_4_9_15_16_17.out b15 w9.heap.size b17 _ (hb.alloc hb.size _) ⟨blk_alloc f15.1 _, f15.2⟩ ⟨heap_alloc_new _ _, hb.size⟩ ⟨blk_alloc f17.1 _, f17.2⟩ (Nat.ne_of_lt (blk_lt f15.1)) n15_17 (Nat.ne_of_gt (blk_lt f17.1))
      rw [HWN.out, HA0.out] at HH
      simp only [upA, List.take_succ_cons, List.take_zero, List.drop_succ_cons, List.drop_zero, List.cons_append, List.nil_append] at HH
      exact HH
    exact Reg.N_none
  have HKH_4_9_15_17 := Lib.hid H_4_9_15_17
  clear H_4_9_15_17
  have H_4_9_15 : ∀ (b15 : Nat) (w9 : World), Below W1.drew.heap.size W1.drew w9 → (w9.heap[b15]? = some (.cells #[.int .i64 0, .bool false, .int .u64 0, .string ⟨#[]⟩] 29 (0, 0)) ∧ W1.drew.heap.size ≤ b15) → WN (.alt 14 (.alt 16 (.alt 17 (.alt 18 (.alt 19 (.alt 20 .done .none) .none) .none) .none) (.alt 17 (.alt 16 (.alt 18 (.alt 19 (.alt 20 .done .none) .none) .none) .none) .none)) (.alt 16 (.alt 14 (.alt 17 (.alt 18 (.alt 19 (.alt 20 .done .none) .none) .none) .none) (.alt 17 (.alt 14 (.alt 18 (.alt 19 (.alt 20 .done .none) .none) .none) .none) .none)) (.alt 17 (.alt 14 (.alt 16 (.alt 18 (.alt 19 (.alt 20 .done .none) .none) .none) .none) (.alt 16 (.alt 14 (.alt 18 (.alt 19 (.alt 20 .done .none) .none) .none) .none) .none)) .none))) { tmps := (upA a0.tmps.toList (.pointer (some ⟨b15, 0, none⟩)) (undef) (undef) (.agg #[.int .i64 a1, .bool a2, .int .u64 a3, .string ⟨#[]⟩]) (.agg #[.int .i64 b1, .bool b2, .int .u64 b3, .string ⟨#[]⟩]) (undef)).toArray, defers := a0.defers } w9 := by
    intro b15 w9 hb f15
    rw [HWN.out, HA0.out]
    simp only [upA, List.take_succ_cons, List.take_zero, List.drop_succ_cons, List.drop_zero, List.cons_append, List.nil_append]
    refine Reg.N_step (o := { dst := some 26, op := Op.call { callee := Callee.value (Operand.func 21), args := #[Operand.tmp 23, Operand.tmp 25], argTypes := #[3, 22] }, type := 29, pos := "law.go:43", after := #[{ on := 11, ground := Ground.data }, { on := 13, ground := Ground.data }, { on := 9, ground := Ground.chain }], guard := Option.none }) (by rfl) ?_ (fun K hK => ?_) ?_
    · kernel_rfl
    · go_simp
      refine (HC _).mono ?_
      rintro e w10 ⟨rfl, b10⟩
      refine hK.out _ _ (HS.out _ (bstep hb b10)) (fun _ => ?_)
      clear hK
      try simp only [Act.put, List.setIfInBounds_toArray, List.set_cons_zero, List.set_cons_succ]
      have HH := HKH_4_9_14_15.out b15 w10 (bstep hb b10) ⟨blk_below f15.1 b10, f15.2⟩
      rw [HWN.out, HA0.out] at HH
      simp only [upA, List.take_succ_cons, List.take_zero, List.drop_succ_cons, List.drop_zero, List.cons_append, List.nil_append] at HH
      exact HH
    refine Reg.N_step (o := { dst := some 6, op := Op.alloc 29, type := 0, pos := "law.go:43", after := #[], guard := Option.none }) (by rfl) ?_ (fun K hK => ?_) ?_
    · kernel_rfl
    · go_simp
      refine hK.out _ _ (HS.out _ (hb.alloc hb.size _)) (fun _ => ?_)
      clear hK
      try simp only [Act.put, List.setIfInBounds_toArray, List.set_cons_zero, List.set_cons_succ]
      have HH := HKH_4_9_15_16.out b15 w9.heap.size _ (hb.alloc hb.size _) ⟨blk_alloc f15.1 _, f15.2⟩ ⟨heap_alloc_new _ _, hb.size⟩ (Nat.ne_of_lt (blk_lt f15.1))
      rw [HWN.out, HA0.out] at HH
      simp only [upA, List.take_succ_cons, List.take_zero, List.drop_succ_cons, List.drop_zero, List.cons_append, List.nil_append] at HH
      exact HH
    refine Reg.N_step (o := { dst := some 7, op := Op.alloc 29, type := 0, pos := "law.go:43", after := #[], guard := Option.none }) (by rfl) ?_ (fun K hK => ?_) ?_
    · kernel_rfl
    · go_simp
      refine hK.out _ _ (HS.out _ (hb.alloc hb.size _)) (fun _ => ?_)
      clear hK
      try simp only [Act.put, List.setIfInBounds_toArray, List.set_cons_zero, List.set_cons_succ]
      have HH := HKH_4_9_15_17.out b15 w9.heap.size _ (hb.alloc hb.size _) ⟨blk_alloc f15.1 _, f15.2⟩ ⟨heap_alloc_new _ _, hb.size⟩ (Nat.ne_of_lt (blk_lt f15.1))
      rw [HWN.out, HA0.out] at HH
      simp only [upA, List.take_succ_cons, List.take_zero, List.drop_succ_cons, List.drop_zero, List.cons_append, List.nil_append] at HH
      exact HH
    exact Reg.N_none
  have HKH_4_9_15 := Lib.hid H_4_9_15
  clear H_4_9_15
  have H_4_9_16_17 : ∀ (b16 b17 : Nat) (w9 : World), Below W1.drew.heap.size W1.drew w9 → (w9.heap[b16]? = some (.cells #[.int .i64 0, .bool false, .int .u64 0, .string ⟨#[]⟩] 29 (0, 0)) ∧ W1.drew.heap.size ≤ b16) → (w9.heap[b17]? = some (.cells #[.int .i64 0, .bool false, .int .u64 0, .string ⟨#[]⟩] 29 (0, 0)) ∧ W1.drew.heap.size ≤ b17) → b16 ≠ b17 → WN (.alt 14 (.alt 15 (.alt 18 (.alt 19 (.alt 20 .done .none) .none) .none) .none) (.alt 15 (.alt 14 (.alt 18 (.alt 19 (.alt 20 .done .none) .none) .none) .none) .none)) { tmps := (upA a0.tmps.toList (undef) (.pointer (some ⟨b16, 0, none⟩)) (.pointer (some ⟨b17, 0, none⟩)) (.agg #[.int .i64 a1, .bool a2, .int .u64 a3, .string ⟨#[]⟩]) (.agg #[.int .i64 b1, .bool b2, .int .u64 b3, .string ⟨#[]⟩]) (undef)).toArray, defers := a0.defers } w9 := by
    intro b16 b17 w9 hb f16 f17 n16_17
    rw [HWN.out, HA0.out]
    simp only [upA, List.take_succ_cons, List.take_zero, List.drop_succ_cons, List.drop_zero, List.cons_append, List.nil_append]
    refine Reg.N_step (o := { dst := some 26, op := Op.call { callee := Callee.value (Operand.func 21), args := #[Operand.tmp 23, Operand.tmp 25], argTypes := #[3, 22] }, type := 29, pos := "law.go:43", after := #[{ on := 11, ground := Ground.data }, { on := 13, ground := Ground.data }, { on := 9, ground := Ground.chain }], guard := Option.none }) (by rfl) ?_ (fun K hK => ?_) ?_
    · kernel_rfl
    · go_simp
      refine (HC _).mono ?_
      rintro e w10 ⟨rfl, b10⟩
      refine hK.out _ _ (HS.out _ (bstep hb b10)) (fun _ => ?_)
      clear hK
      try simp only [Act.put, List.setIfInBounds_toArray, List.set_cons_zero, List.set_cons_succ]
      have HH := HKH_4_9_14_16_17.out b16 b17 w10 (bstep hb b10) ⟨blk_below f16.1 b10, f16.2⟩ ⟨blk_below f17.1 b10, f17.2⟩ n16_17
      rw [HWN.out, HA0.out] at HH
      simp only [upA, List.take_succ_cons, List.take_zero, List.drop_succ_cons, List.drop_zero, List.cons_append, List.nil_append] at HH
      exact HH
    refine Reg.N_step (o := { dst := some 5, op := Op.alloc 29, type := 0, pos := "law.go:43", after := #[], guard := Option.none }) (by rfl) ?_ (fun K hK => ?_) ?_
    · kernel_rfl
    · go_simp
      refine hK.out _ _ (HS.out _ (hb.alloc hb.size _)) (fun _ => ?_)
      clear hK
      try simp only [Act.put, List.setIfInBounds_toArray, List.set_cons_zero, List.set_cons_succ]
      have HH := HKH_4_9_15_16_17.out w9.heap.size b16 b17 _ (hb.alloc hb.size _) ⟨heap_alloc_new _ _, hb.size⟩ ⟨blk_alloc f16.1 _, f16.2⟩ ⟨blk_alloc f17.1 _, f17.2⟩ (Nat.ne_of_gt (blk_lt f16.1)) (Nat.ne_of_gt (blk_lt f17.1)) n16_17
      rw [HWN.out, HA0.out] at HH
      simp only [upA, List.take_succ_cons, List.take_zero, List.drop_succ_cons, List.drop_zero, List.cons_append, List.nil_append] at HH
      exact HH
    exact Reg.N_none
  have HKH_4_9_16_17 := Lib.hid H_4_9_16_17
  clear H_4_9_16_17
  have H_4_9_16 : ∀ (b16 : Nat) (w9 : World), Below W1.drew.heap.size W1.drew w9 → (w9.heap[b16]? = some (.cells #[.int .i64 0, .bool false, .int .u64 0, .string ⟨#[]⟩] 29 (0, 0)) ∧ W1.drew.heap.size ≤ b16) → WN (.alt 14 (.alt 15 (.alt 17 (.alt 18 (.alt 19 (.alt 20 .done .none) .none) .none) .none) (.alt 17 (.alt 15 (.alt 18 (.alt 19 (.alt 20 .done .none) .none) .none) .none) .none)) (.alt 15 (.alt 14 (.alt 17 (.alt 18 (.alt 19 (.alt 20 .done .none) .none) .none) .none) (.alt 17 (.alt 14 (.alt 18 (.alt 19 (.alt 20 .done .none) .none) .none) .none) .none)) (.alt 17 (.alt 14 (.alt 15 (.alt 18 (.alt 19 (.alt 20 .done .none) .none) .none) .none) (.alt 15 (.alt 14 (.alt 18 (.alt 19 (.alt 20 .done .none) .none) .none) .none) .none)) .none))) { tmps := (upA a0.tmps.toList (undef) (.pointer (some ⟨b16, 0, none⟩)) (undef) (.agg #[.int .i64 a1, .bool a2, .int .u64 a3, .string ⟨#[]⟩]) (.agg #[.int .i64 b1, .bool b2, .int .u64 b3, .string ⟨#[]⟩]) (undef)).toArray, defers := a0.defers } w9 := by
    intro b16 w9 hb f16
    rw [HWN.out, HA0.out]
    simp only [upA, List.take_succ_cons, List.take_zero, List.drop_succ_cons, List.drop_zero, List.cons_append, List.nil_append]
    refine Reg.N_step (o := { dst := some 26, op := Op.call { callee := Callee.value (Operand.func 21), args := #[Operand.tmp 23, Operand.tmp 25], argTypes := #[3, 22] }, type := 29, pos := "law.go:43", after := #[{ on := 11, ground := Ground.data }, { on := 13, ground := Ground.data }, { on := 9, ground := Ground.chain }], guard := Option.none }) (by rfl) ?_ (fun K hK => ?_) ?_
    · kernel_rfl
    · go_simp
      refine (HC _).mono ?_
      rintro e w10 ⟨rfl, b10⟩
      refine hK.out _ _ (HS.out _ (bstep hb b10)) (fun _ => ?_)
      clear hK
      try simp only [Act.put, List.setIfInBounds_toArray, List.set_cons_zero, List.set_cons_succ]
      have HH := HKH_4_9_14_16.out b16 w10 (bstep hb b10) ⟨blk_below f16.1 b10, f16.2⟩
      rw [HWN.out, HA0.out] at HH
      simp only [upA, List.take_succ_cons, List.take_zero, List.drop_succ_cons, List.drop_zero, List.cons_append, List.nil_append] at HH
      exact HH
    refine Reg.N_step (o := { dst := some 5, op := Op.alloc 29, type := 0, pos := "law.go:43", after := #[], guard := Option.none }) (by rfl) ?_ (fun K hK => ?_) ?_
    · kernel_rfl
    · go_simp
      refine hK.out _ _ (HS.out _ (hb.alloc hb.size _)) (fun _ => ?_)
      clear hK
      try simp only [Act.put, List.setIfInBounds_toArray, List.set_cons_zero, List.set_cons_succ]
      have HH := HKH_4_9_15_16.out w9.heap.size b16 _ (hb.alloc hb.size _) ⟨heap_alloc_new _ _, hb.size⟩ ⟨blk_alloc f16.1 _, f16.2⟩ (Nat.ne_of_gt (blk_lt f16.1))
      rw [HWN.out, HA0.out] at HH
      simp only [upA, List.take_succ_cons, List.take_zero, List.drop_succ_cons, List.drop_zero, List.cons_append, List.nil_append] at HH
      exact HH
    refine Reg.N_step (o := { dst := some 7, op := Op.alloc 29, type := 0, pos := "law.go:43", after := #[], guard := Option.none }) (by rfl) ?_ (fun K hK => ?_) ?_
    · kernel_rfl
    · go_simp
      refine hK.out _ _ (HS.out _ (hb.alloc hb.size _)) (fun _ => ?_)
      clear hK
      try simp only [Act.put, List.setIfInBounds_toArray, List.set_cons_zero, List.set_cons_succ]
      have HH := HKH_4_9_16_17.out b16 w9.heap.size _ (hb.alloc hb.size _) ⟨blk_alloc f16.1 _, f16.2⟩ ⟨heap_alloc_new _ _, hb.size⟩ (Nat.ne_of_lt (blk_lt f16.1))
      rw [HWN.out, HA0.out] at HH
      simp only [upA, List.take_succ_cons, List.take_zero, List.drop_succ_cons, List.drop_zero, List.cons_append, List.nil_append] at HH
      exact HH
    exact Reg.N_none
  have HKH_4_9_16 := Lib.hid H_4_9_16
  clear H_4_9_16
  have H_4_9_17 : ∀ (b17 : Nat) (w9 : World), Below W1.drew.heap.size W1.drew w9 → (w9.heap[b17]? = some (.cells #[.int .i64 0, .bool false, .int .u64 0, .string ⟨#[]⟩] 29 (0, 0)) ∧ W1.drew.heap.size ≤ b17) → WN (.alt 14 (.alt 15 (.alt 16 (.alt 18 (.alt 19 (.alt 20 .done .none) .none) .none) .none) (.alt 16 (.alt 15 (.alt 18 (.alt 19 (.alt 20 .done .none) .none) .none) .none) .none)) (.alt 15 (.alt 14 (.alt 16 (.alt 18 (.alt 19 (.alt 20 .done .none) .none) .none) .none) (.alt 16 (.alt 14 (.alt 18 (.alt 19 (.alt 20 .done .none) .none) .none) .none) .none)) (.alt 16 (.alt 14 (.alt 15 (.alt 18 (.alt 19 (.alt 20 .done .none) .none) .none) .none) (.alt 15 (.alt 14 (.alt 18 (.alt 19 (.alt 20 .done .none) .none) .none) .none) .none)) .none))) { tmps := (upA a0.tmps.toList (undef) (undef) (.pointer (some ⟨b17, 0, none⟩)) (.agg #[.int .i64 a1, .bool a2, .int .u64 a3, .string ⟨#[]⟩]) (.agg #[.int .i64 b1, .bool b2, .int .u64 b3, .string ⟨#[]⟩]) (undef)).toArray, defers := a0.defers } w9 := by
    intro b17 w9 hb f17
    rw [HWN.out, HA0.out]
    simp only [upA, List.take_succ_cons, List.take_zero, List.drop_succ_cons, List.drop_zero, List.cons_append, List.nil_append]
    refine Reg.N_step (o := { dst := some 26, op := Op.call { callee := Callee.value (Operand.func 21), args := #[Operand.tmp 23, Operand.tmp 25], argTypes := #[3, 22] }, type := 29, pos := "law.go:43", after := #[{ on := 11, ground := Ground.data }, { on := 13, ground := Ground.data }, { on := 9, ground := Ground.chain }], guard := Option.none }) (by rfl) ?_ (fun K hK => ?_) ?_
    · kernel_rfl
    · go_simp
      refine (HC _).mono ?_
      rintro e w10 ⟨rfl, b10⟩
      refine hK.out _ _ (HS.out _ (bstep hb b10)) (fun _ => ?_)
      clear hK
      try simp only [Act.put, List.setIfInBounds_toArray, List.set_cons_zero, List.set_cons_succ]
      have HH := HKH_4_9_14_17.out b17 w10 (bstep hb b10) ⟨blk_below f17.1 b10, f17.2⟩
      rw [HWN.out, HA0.out] at HH
      simp only [upA, List.take_succ_cons, List.take_zero, List.drop_succ_cons, List.drop_zero, List.cons_append, List.nil_append] at HH
      exact HH
    refine Reg.N_step (o := { dst := some 5, op := Op.alloc 29, type := 0, pos := "law.go:43", after := #[], guard := Option.none }) (by rfl) ?_ (fun K hK => ?_) ?_
    · kernel_rfl
    · go_simp
      refine hK.out _ _ (HS.out _ (hb.alloc hb.size _)) (fun _ => ?_)
      clear hK
      try simp only [Act.put, List.setIfInBounds_toArray, List.set_cons_zero, List.set_cons_succ]
      have HH := HKH_4_9_15_17.out w9.heap.size b17 _ (hb.alloc hb.size _) ⟨heap_alloc_new _ _, hb.size⟩ ⟨blk_alloc f17.1 _, f17.2⟩ (Nat.ne_of_gt (blk_lt f17.1))
      rw [HWN.out, HA0.out] at HH
      simp only [upA, List.take_succ_cons, List.take_zero, List.drop_succ_cons, List.drop_zero, List.cons_append, List.nil_append] at HH
      exact HH
    refine Reg.N_step (o := { dst := some 6, op := Op.alloc 29, type := 0, pos := "law.go:43", after := #[], guard := Option.none }) (by rfl) ?_ (fun K hK => ?_) ?_
    · kernel_rfl
    · go_simp
      refine hK.out _ _ (HS.out _ (hb.alloc hb.size _)) (fun _ => ?_)
      clear hK
      try simp only [Act.put, List.setIfInBounds_toArray, List.set_cons_zero, List.set_cons_succ]
      have HH := HKH_4_9_16_17.out w9.heap.size b17 _ (hb.alloc hb.size _) ⟨heap_alloc_new _ _, hb.size⟩ ⟨blk_alloc f17.1 _, f17.2⟩ (Nat.ne_of_gt (blk_lt f17.1))
      rw [HWN.out, HA0.out] at HH
      simp only [upA, List.take_succ_cons, List.take_zero, List.drop_succ_cons, List.drop_zero, List.cons_append, List.nil_append] at HH
      exact HH
    exact Reg.N_none
  have HKH_4_9_17 := Lib.hid H_4_9_17
  clear H_4_9_17
  have H_4_9 : ∀ (w9 : World), Below W1.drew.heap.size W1.drew w9 → WN (.alt 14 (.alt 15 (.alt 16 (.alt 17 (.alt 18 (.alt 19 (.alt 20 .done .none) .none) .none) .none) (.alt 17 (.alt 16 (.alt 18 (.alt 19 (.alt 20 .done .none) .none) .none) .none) .none)) (.alt 16 (.alt 15 (.alt 17 (.alt 18 (.alt 19 (.alt 20 .done .none) .none) .none) .none) (.alt 17 (.alt 15 (.alt 18 (.alt 19 (.alt 20 .done .none) .none) .none) .none) .none)) (.alt 17 (.alt 15 (.alt 16 (.alt 18 (.alt 19 (.alt 20 .done .none) .none) .none) .none) (.alt 16 (.alt 15 (.alt 18 (.alt 19 (.alt 20 .done .none) .none) .none) .none) .none)) .none))) (.alt 15 (.alt 14 (.alt 16 (.alt 17 (.alt 18 (.alt 19 (.alt 20 .done .none) .none) .none) .none) (.alt 17 (.alt 16 (.alt 18 (.alt 19 (.alt 20 .done .none) .none) .none) .none) .none)) (.alt 16 (.alt 14 (.alt 17 (.alt 18 (.alt 19 (.alt 20 .done .none) .none) .none) .none) (.alt 17 (.alt 14 (.alt 18 (.alt 19 (.alt 20 .done .none) .none) .none) .none) .none)) (.alt 17 (.alt 14 (.alt 16 (.alt 18 (.alt 19 (.alt 20 .done .none) .none) .none) .none) (.alt 16 (.alt 14 (.alt 18 (.alt 19 (.alt 20 .done .none) .none) .none) .none) .none)) .none))) (.alt 16 (.alt 14 (.alt 15 (.alt 17 (.alt 18 (.alt 19 (.alt 20 .done .none) .none) .none) .none) (.alt 17 (.alt 15 (.alt 18 (.alt 19 (.alt 20 .done .none) .none) .none) .none) .none)) (.alt 15 (.alt 14 (.alt 17 (.alt 18 (.alt 19 (.alt 20 .done .none) .none) .none) .none) (.alt 17 (.alt 14 (.alt 18 (.alt 19 (.alt 20 .done .none) .none) .none) .none) .none)) (.alt 17 (.alt 14 (.alt 15 (.alt 18 (.alt 19 (.alt 20 .done .none) .none) .none) .none) (.alt 15 (.alt 14 (.alt 18 (.alt 19 (.alt 20 .done .none) .none) .none) .none) .none)) .none))) (.alt 17 (.alt 14 (.alt 15 (.alt 16 (.alt 18 (.alt 19 (.alt 20 .done .none) .none) .none) .none) (.alt 16 (.alt 15 (.alt 18 (.alt 19 (.alt 20 .done .none) .none) .none) .none) .none)) (.alt 15 (.alt 14 (.alt 16 (.alt 18 (.alt 19 (.alt 20 .done .none) .none) .none) .none) (.alt 16 (.alt 14 (.alt 18 (.alt 19 (.alt 20 .done .none) .none) .none) .none) .none)) (.alt 16 (.alt 14 (.alt 15 (.alt 18 (.alt 19 (.alt 20 .done .none) .none) .none) .none) (.alt 15 (.alt 14 (.alt 18 (.alt 19 (.alt 20 .done .none) .none) .none) .none) .none)) .none))) .none)))) { tmps := (upA a0.tmps.toList (undef) (undef) (undef) (.agg #[.int .i64 a1, .bool a2, .int .u64 a3, .string ⟨#[]⟩]) (.agg #[.int .i64 b1, .bool b2, .int .u64 b3, .string ⟨#[]⟩]) (undef)).toArray, defers := a0.defers } w9 := by
    intro w9 hb
    rw [HWN.out, HA0.out]
    simp only [upA, List.take_succ_cons, List.take_zero, List.drop_succ_cons, List.drop_zero, List.cons_append, List.nil_append]
    refine Reg.N_step (o := { dst := some 26, op := Op.call { callee := Callee.value (Operand.func 21), args := #[Operand.tmp 23, Operand.tmp 25], argTypes := #[3, 22] }, type := 29, pos := "law.go:43", after := #[{ on := 11, ground := Ground.data }, { on := 13, ground := Ground.data }, { on := 9, ground := Ground.chain }], guard := Option.none }) (by rfl) ?_ (fun K hK => ?_) ?_
    · kernel_rfl
    · go_simp
      refine (HC _).mono ?_
      rintro e w10 ⟨rfl, b10⟩
      refine hK.out _ _ (HS.out _ (bstep hb b10)) (fun _ => ?_)
      clear hK
      try simp only [Act.put, List.setIfInBounds_toArray, List.set_cons_zero, List.set_cons_succ]
      have HH := HKH_4_9_14.out w10 (bstep hb b10)
      rw [HWN.out, HA0.out] at HH
      simp only [upA, List.take_succ_cons, List.take_zero, List.drop_succ_cons, List.drop_zero, List.cons_append, List.nil_append] at HH
      exact HH
    refine Reg.N_step (o := { dst := some 5, op := Op.alloc 29, type := 0, pos := "law.go:43", after := #[], guard := Option.none }) (by rfl) ?_ (fun K hK => ?_) ?_
    · kernel_rfl
    · go_simp
      refine hK.out _ _ (HS.out _ (hb.alloc hb.size _)) (fun _ => ?_)
      clear hK
      try simp only [Act.put, List.setIfInBounds_toArray, List.set_cons_zero, List.set_cons_succ]
      have HH := HKH_4_9_15.out w9.heap.size _ (hb.alloc hb.size _) ⟨heap_alloc_new _ _, hb.size⟩
      rw [HWN.out, HA0.out] at HH
      simp only [upA, List.take_succ_cons, List.take_zero, List.drop_succ_cons, List.drop_zero, List.cons_append, List.nil_append] at HH
      exact HH
    refine Reg.N_step (o := { dst := some 6, op := Op.alloc 29, type := 0, pos := "law.go:43", after := #[], guard := Option.none }) (by rfl) ?_ (fun K hK => ?_) ?_
    · kernel_rfl
    · go_simp
      refine hK.out _ _ (HS.out _ (hb.alloc hb.size _)) (fun _ => ?_)
      clear hK
      try simp only [Act.put, List.setIfInBounds_toArray, List.set_cons_zero, List.set_cons_succ]
      have HH := HKH_4_9_16.out w9.heap.size _ (hb.alloc hb.size _) ⟨heap_alloc_new _ _, hb.size⟩
      rw [HWN.out, HA0.out] at HH
      simp only [upA, List.take_succ_cons, List.take_zero, List.drop_succ_cons, List.drop_zero, List.cons_append, List.nil_append] at HH
      exact HH
    refine Reg.N_step (o := { dst := some 7, op := Op.alloc 29, type := 0, pos := "law.go:43", after := #[], guard := Option.none }) (by rfl) ?_ (fun K hK => ?_) ?_
    · kernel_rfl
    · go_simp
      refine hK.out _ _ (HS.out _ (hb.alloc hb.size _)) (fun _ => ?_)
      clear hK
      try simp only [Act.put, List.setIfInBounds_toArray, List.set_cons_zero, List.set_cons_succ]
      have HH := HKH_4_9_17.out w9.heap.size _ (hb.alloc hb.size _) ⟨heap_alloc_new _ _, hb.size⟩
      rw [HWN.out, HA0.out] at HH
      simp only [upA, List.take_succ_cons, List.take_zero, List.drop_succ_cons, List.drop_zero, List.cons_append, List.nil_append] at HH
      exact HH
    exact Reg.N_none
  have HKH_4_9 := Lib.hid H_4_9
  clear H_4_9
  have H_4_15_16_17 : ∀ (b15 b16 b17 : Nat) (w9 : World), Below W1.drew.heap.size W1.drew w9 → (w9.heap[b15]? = some (.cells #[.int .i64 0, .bool false, .int .u64 0, .string ⟨#[]⟩] 29 (0, 0)) ∧ W1.drew.heap.size ≤ b15) → (w9.heap[b16]? = some (.cells #[.int .i64 0, .bool false, .int .u64 0, .string ⟨#[]⟩] 29 (0, 0)) ∧ W1.drew.heap.size ≤ b16) → (w9.heap[b17]? = some (.cells #[.int .i64 0, .bool false, .int .u64 0, .string ⟨#[]⟩] 29 (0, 0)) ∧ W1.drew.heap.size ≤ b17) → b15 ≠ b16 → b15 ≠ b17 → b16 ≠ b17 → WN (.alt 9 (.alt 14 (.alt 18 (.alt 19 (.alt 20 .done .none) .none) .none) .none) .none) { tmps := (upA a0.tmps.toList (.pointer (some ⟨b15, 0, none⟩)) (.pointer (some ⟨b16, 0, none⟩)) (.pointer (some ⟨b17, 0, none⟩)) (.agg #[.int .i64 a1, .bool a2, .int .u64 a3, .string ⟨#[]⟩]) (undef) (undef)).toArray, defers := a0.defers } w9 := by
    intro b15 b16 b17 w9 hb f15 f16 f17 n15_16 n15_17 n16_17
    rw [HWN.out, HA0.out]
    simp only [upA, List.take_succ_cons, List.take_zero, List.drop_succ_cons, List.drop_zero, List.cons_append, List.nil_append]
    refine Reg.N_step (o := { dst := some 21, op := Op.call { callee := Callee.value (Operand.func 21), args := #[Operand.tmp 18, Operand.tmp 20], argTypes := #[3, 22] }, type := 29, pos := "law.go:43", after := #[{ on := 6, ground := Ground.data }, { on := 8, ground := Ground.data }, { on := 4, ground := Ground.chain }], guard := Option.none }) (by rfl) ?_ (fun K hK => ?_) ?_
    · kernel_rfl
    · go_simp
      refine (HB _).mono ?_
      rintro e w10 ⟨rfl, b10⟩
      refine hK.out _ _ (HS.out _ (bstep hb b10)) (fun _ => ?_)
      clear hK
      try simp only [Act.put, List.setIfInBounds_toArray, List.set_cons_zero, List.set_cons_succ]
      have HH := HKH_4_9_15_16_17.out b15 b16 b17 w10 (bstep hb b10) ⟨blk_below f15.1 b10, f15.2⟩ ⟨blk_below f16.1 b10, f16.2⟩ ⟨blk_below f17.1 b10, f17.2⟩ n15_16 n15_17 n16_17
      rw [HWN.out, HA0.out] at HH
      simp only [upA, List.take_succ_cons, List.take_zero, List.drop_succ_cons, List.drop_zero, List.cons_append, List.nil_append] at HH
      exact HH
    exact Reg.N_none
  have HKH_4_15_16_17 := Lib.hid H_4_15_16_17
  clear H_4_15_16_17
  have H_4_15_16 : ∀ (b15 b16 : Nat) (w9 : World), Below W1.drew.heap.size W1.drew w9 → (w9.heap[b15]? = some (.cells #[.int .i64 0, .bool false, .int .u64 0, .string ⟨#[]⟩] 29 (0, 0)) ∧ W1.drew.heap.size ≤ b15) → (w9.heap[b16]? = some (.cells #[.int .i64 0, .bool false, .int .u64 0, .string ⟨#[]⟩] 29 (0, 0)) ∧ W1.drew.heap.size ≤ b16) → b15 ≠ b16 → WN (.alt 9 (.alt 14 (.alt 17 (.alt 18 (.alt 19 (.alt 20 .done .none) .none) .none) .none) (.alt 17 (.alt 14 (.alt 18 (.alt 19 (.alt 20 .done .none) .none) .none) .none) .none)) (.alt 17 (.alt 9 (.alt 14 (.alt 18 (.alt 19 (.alt 20 .done .none) .none) .none) .none) .none) .none)) { tmps := (upA a0.tmps.toList (.pointer (some ⟨b15, 0, none⟩)) (.pointer (some ⟨b16, 0, none⟩)) (undef) (.agg #[.int .i64 a1, .bool a2, .int .u64 a3, .string ⟨#[]⟩]) (undef) (undef)).toArray, defers := a0.defers } w9 := by
    intro b15 b16 w9 hb f15 f16 n15_16
    rw [HWN.out, HA0.out]
    simp only [upA, List.take_succ_cons, List.take_zero, List.drop_succ_cons, List.drop_zero, List.cons_append, List.nil_append]
    refine Reg.N_step (o := { dst := some 21, op := Op.call { callee := Callee.value (Operand.func 21), args := #[Operand.tmp 18, Operand.tmp 20], argTypes := #[3, 22] }, type := 29, pos := "law.go:43", after := #[{ on := 6, ground := Ground.data }, { on := 8, ground := Ground.data }, { on := 4, ground := Ground.chain }], guard := Option.none }) (by rfl) ?_ (fun K hK => ?_) ?_
    · kernel_rfl
    · go_simp
      refine (HB _).mono ?_
      rintro e w10 ⟨rfl, b10⟩
      refine hK.out _ _ (HS.out _ (bstep hb b10)) (fun _ => ?_)
      clear hK
      try simp only [Act.put, List.setIfInBounds_toArray, List.set_cons_zero, List.set_cons_succ]
      have HH := HKH_4_9_15_16.out b15 b16 w10 (bstep hb b10) ⟨blk_below f15.1 b10, f15.2⟩ ⟨blk_below f16.1 b10, f16.2⟩ n15_16
      rw [HWN.out, HA0.out] at HH
      simp only [upA, List.take_succ_cons, List.take_zero, List.drop_succ_cons, List.drop_zero, List.cons_append, List.nil_append] at HH
      exact HH
    refine Reg.N_step (o := { dst := some 7, op := Op.alloc 29, type := 0, pos := "law.go:43", after := #[], guard := Option.none }) (by rfl) ?_ (fun K hK => ?_) ?_
    · kernel_rfl
    · go_simp
      refine hK.out _ _ (HS.out _ (hb.alloc hb.size _)) (fun _ => ?_)
      clear hK
      try simp only [Act.put, List.setIfInBounds_toArray, List.set_cons_zero, List.set_cons_succ]
      have HH := HKH_4_15_16_17.out b15 b16 w9.heap.size _ (hb.alloc hb.size _) ⟨blk_alloc f15.1 _, f15.2⟩ ⟨blk_alloc f16.1 _, f16.2⟩ ⟨heap_alloc_new _ _, hb.size⟩ n15_16 (Nat.ne_of_lt (blk_lt f15.1)) (Nat.ne_of_lt (blk_lt f16.1))
      rw [HWN.out, HA0.out] at HH
      simp only [upA, List.take_succ_cons, List.take_zero, List.drop_succ_cons, List.drop_zero, List.cons_append, List.nil_append] at HH
      exact HH
    exact Reg.N_none
  have HKH_4_15_16 := Lib.hid H_4_15_16
  clear H_4_15_16
  have H_4_15_17 : ∀ (b15 b17 : Nat) (w9 : World), Below W1.drew.heap.size W1.drew w9 → (w9.heap[b15]? = some (.cells #[.int .i64 0, .bool false, .int .u64 0, .string ⟨#[]⟩] 29 (0, 0)) ∧ W1.drew.heap.size ≤ b15) → (w9.heap[b17]? = some (.cells #[.int .i64 0, .bool false, .int .u64 0, .string ⟨#[]⟩] 29 (0, 0)) ∧ W1.drew.heap.size ≤ b17) → b15 ≠ b17 → WN (.alt 9 (.alt 14 (.alt 16 (.alt 18 (.alt 19 (.alt 20 .done .none) .none) .none) .none) (.alt 16 (.alt 14 (.alt 18 (.alt 19 (.alt 20 .done .none) .none) .none) .none) .none)) (.alt 16 (.alt 9 (.alt 14 (.alt 18 (.alt 19 (.alt 20 .done .none) .none) .none) .none) .none) .none)) { tmps := (upA a0.tmps.toList (.pointer (some ⟨b15, 0, none⟩)) (undef) (.pointer (some ⟨b17, 0, none⟩)) (.agg #[.int .i64 a1, .bool a2, .int .u64 a3, .string ⟨#[]⟩]) (undef) (undef)).toArray, defers := a0.defers } w9 := by
    intro b15 b17 w9 hb f15 f17 n15_17
    rw [HWN.out, HA0.out]
    simp only [upA, List.take_succ_cons, List.take_zero, List.drop_succ_cons, List.drop_zero, List.cons_append, List.nil_append]
    refine Reg.N_step (o := { dst := some 21, op := Op.call { callee := Callee.value (Operand.func 21), args := #[Operand.tmp 18, Operand.tmp 20], argTypes := #[3, 22] }, type := 29, pos := "law.go:43", after := #[{ on := 6, ground := Ground.data }, { on := 8, ground := Ground.data }, { on := 4, ground := Ground.chain }], guard := Option.none }) (by rfl) ?_ (fun K hK => ?_) ?_
    · kernel_rfl
    · go_simp
      refine (HB _).mono ?_
      rintro e w10 ⟨rfl, b10⟩
      refine hK.out _ _ (HS.out _ (bstep hb b10)) (fun _ => ?_)
      clear hK
      try simp only [Act.put, List.setIfInBounds_toArray, List.set_cons_zero, List.set_cons_succ]
      have HH := HKH_4_9_15_17.out b15 b17 w10 (bstep hb b10) ⟨blk_below f15.1 b10, f15.2⟩ ⟨blk_below f17.1 b10, f17.2⟩ n15_17
      rw [HWN.out, HA0.out] at HH
      simp only [upA, List.take_succ_cons, List.take_zero, List.drop_succ_cons, List.drop_zero, List.cons_append, List.nil_append] at HH
      exact HH
    refine Reg.N_step (o := { dst := some 6, op := Op.alloc 29, type := 0, pos := "law.go:43", after := #[], guard := Option.none }) (by rfl) ?_ (fun K hK => ?_) ?_
    · kernel_rfl
    · go_simp
      refine hK.out _ _ (HS.out _ (hb.alloc hb.size _)) (fun _ => ?_)
      clear hK
      try simp only [Act.put, List.setIfInBounds_toArray, List.set_cons_zero, List.set_cons_succ]
      have HH := HKH_4_15_16_17.out b15 w9.heap.size b17 _ (hb.alloc hb.size _) ⟨blk_alloc f15.1 _, f15.2⟩ ⟨heap_alloc_new _ _, hb.size⟩ ⟨blk_alloc f17.1 _, f17.2⟩ (Nat.ne_of_lt (blk_lt f15.1)) n15_17 (Nat.ne_of_gt (blk_lt f17.1))
      rw [HWN.out, HA0.out] at HH
      simp only [upA, List.take_succ_cons, List.take_zero, List.drop_succ_cons, List.drop_zero, List.cons_append, List.nil_append] at HH
      exact HH
    exact Reg.N_none
  have HKH_4_15_17 := Lib.hid H_4_15_17
  clear H_4_15_17
  have H_4_15 : ∀ (b15 : Nat) (w9 : World), Below W1.drew.heap.size W1.drew w9 → (w9.heap[b15]? = some (.cells #[.int .i64 0, .bool false, .int .u64 0, .string ⟨#[]⟩] 29 (0, 0)) ∧ W1.drew.heap.size ≤ b15) → WN (.alt 9 (.alt 14 (.alt 16 (.alt 17 (.alt 18 (.alt 19 (.alt 20 .done .none) .none) .none) .none) (.alt 17 (.alt 16 (.alt 18 (.alt 19 (.alt 20 .done .none) .none) .none) .none) .none)) (.alt 16 (.alt 14 (.alt 17 (.alt 18 (.alt 19 (.alt 20 .done .none) .none) .none) .none) (.alt 17 (.alt 14 (.alt 18 (.alt 19 (.alt 20 .done .none) .none) .none) .none) .none)) (.alt 17 (.alt 14 (.alt 16 (.alt 18 (.alt 19 (.alt 20 .done .none) .none) .none) .none) (.alt 16 (.alt 14 (.alt 18 (.alt 19 (.alt 20 .done .none) .none) .none) .none) .none)) .none))) (.alt 16 (.alt 9 (.alt 14 (.alt 17 (.alt 18 (.alt 19 (.alt 20 .done .none) .none) .none) .none) (.alt 17 (.alt 14 (.alt 18 (.alt 19 (.alt 20 .done .none) .none) .none) .none) .none)) (.alt 17 (.alt 9 (.alt 14 (.alt 18 (.alt 19 (.alt 20 .done .none) .none) .none) .none) .none) .none)) (.alt 17 (.alt 9 (.alt 14 (.alt 16 (.alt 18 (.alt 19 (.alt 20 .done .none) .none) .none) .none) (.alt 16 (.alt 14 (.alt 18 (.alt 19 (.alt 20 .done .none) .none) .none) .none) .none)) (.alt 16 (.alt 9 (.alt 14 (.alt 18 (.alt 19 (.alt 20 .done .none) .none) .none) .none) .none) .none)) .none))) { tmps := (upA a0.tmps.toList (.pointer (some ⟨b15, 0, none⟩)) (undef) (undef) (.agg #[.int .i64 a1, .bool a2, .int .u64 a3, .string ⟨#[]⟩]) (undef) (undef)).toArray, defers := a0.defers } w9 := by
    intro b15 w9 hb f15
    rw [HWN.out, HA0.out]
    simp only [upA, List.take_succ_cons, List.take_zero, List.drop_succ_cons, List.drop_zero, List.cons_append, List.nil_append]
    refine Reg.N_step (o := { dst := some 21, op := Op.call { callee := Callee.value (Operand.func 21), args := #[Operand.tmp 18, Operand.tmp 20], argTypes := #[3, 22] }, type := 29, pos := "law.go:43", after := #[{ on := 6, ground := Ground.data }, { on := 8, ground := Ground.data }, { on := 4, ground := Ground.chain }], guard := Option.none }) (by rfl) ?_ (fun K hK => ?_) ?_
    · kernel_rfl
    · go_simp
      refine (HB _).mono ?_
      rintro e w10 ⟨rfl, b10⟩
      refine hK.out _ _ (HS.out _ (bstep hb b10)) (fun _ => ?_)
      clear hK
      try simp only [Act.put, List.setIfInBounds_toArray, List.set_cons_zero, List.set_cons_succ]
      have HH := HKH_4_9_15.out b15 w10 (bstep hb b10) ⟨blk_below f15.1 b10, f15.2⟩
      rw [HWN.out, HA0.out] at HH
      simp only [upA, List.take_succ_cons, List.take_zero, List.drop_succ_cons, List.drop_zero, List.cons_append, List.nil_append] at HH
      exact HH
    refine Reg.N_step (o := { dst := some 6, op := Op.alloc 29, type := 0, pos := "law.go:43", after := #[], guard := Option.none }) (by rfl) ?_ (fun K hK => ?_) ?_
    · kernel_rfl
    · go_simp
      refine hK.out _ _ (HS.out _ (hb.alloc hb.size _)) (fun _ => ?_)
      clear hK
      try simp only [Act.put, List.setIfInBounds_toArray, List.set_cons_zero, List.set_cons_succ]
      have HH := HKH_4_15_16.out b15 w9.heap.size _ (hb.alloc hb.size _) ⟨blk_alloc f15.1 _, f15.2⟩ ⟨heap_alloc_new _ _, hb.size⟩ (Nat.ne_of_lt (blk_lt f15.1))
      rw [HWN.out, HA0.out] at HH
      simp only [upA, List.take_succ_cons, List.take_zero, List.drop_succ_cons, List.drop_zero, List.cons_append, List.nil_append] at HH
      exact HH
    refine Reg.N_step (o := { dst := some 7, op := Op.alloc 29, type := 0, pos := "law.go:43", after := #[], guard := Option.none }) (by rfl) ?_ (fun K hK => ?_) ?_
    · kernel_rfl
    · go_simp
      refine hK.out _ _ (HS.out _ (hb.alloc hb.size _)) (fun _ => ?_)
      clear hK
      try simp only [Act.put, List.setIfInBounds_toArray, List.set_cons_zero, List.set_cons_succ]
      have HH := HKH_4_15_17.out b15 w9.heap.size _ (hb.alloc hb.size _) ⟨blk_alloc f15.1 _, f15.2⟩ ⟨heap_alloc_new _ _, hb.size⟩ (Nat.ne_of_lt (blk_lt f15.1))
      rw [HWN.out, HA0.out] at HH
      simp only [upA, List.take_succ_cons, List.take_zero, List.drop_succ_cons, List.drop_zero, List.cons_append, List.nil_append] at HH
      exact HH
    exact Reg.N_none
  have HKH_4_15 := Lib.hid H_4_15
  clear H_4_15
  have H_4_16_17 : ∀ (b16 b17 : Nat) (w9 : World), Below W1.drew.heap.size W1.drew w9 → (w9.heap[b16]? = some (.cells #[.int .i64 0, .bool false, .int .u64 0, .string ⟨#[]⟩] 29 (0, 0)) ∧ W1.drew.heap.size ≤ b16) → (w9.heap[b17]? = some (.cells #[.int .i64 0, .bool false, .int .u64 0, .string ⟨#[]⟩] 29 (0, 0)) ∧ W1.drew.heap.size ≤ b17) → b16 ≠ b17 → WN (.alt 9 (.alt 14 (.alt 15 (.alt 18 (.alt 19 (.alt 20 .done .none) .none) .none) .none) (.alt 15 (.alt 14 (.alt 18 (.alt 19 (.alt 20 .done .none) .none) .none) .none) .none)) (.alt 15 (.alt 9 (.alt 14 (.alt 18 (.alt 19 (.alt 20 .done .none) .none) .none) .none) .none) .none)) { tmps := (upA a0.tmps.toList (undef) (.pointer (some ⟨b16, 0, none⟩)) (.pointer (some ⟨b17, 0, none⟩)) (.agg #[.int .i64 a1, .bool a2, .int .u64 a3, .string ⟨#[]⟩]) (undef) (undef)).toArray, defers := a0.defers } w9 := by
    intro b16 b17 w9 hb f16 f17 n16_17
    rw [HWN.out, HA0.out]
    simp only [upA, List.take_succ_cons, List.take_zero, List.drop_succ_cons, List.drop_zero, List.cons_append, List.nil_append]
    refine Reg.N_step (o := { dst := some 21, op := Op.call { callee := Callee.value (Operand.func 21), args := #[Operand.tmp 18, Operand.tmp 20], argTypes := #[3, 22] }, type := 29, pos := "law.go:43", after := #[{ on := 6, ground := Ground.data }, { on := 8, ground := Ground.data }, { on := 4, ground := Ground.chain }], guard := Option.none }) (by rfl) ?_ (fun K hK => ?_) ?_
    · kernel_rfl
    · go_simp
      refine (HB _).mono ?_
      rintro e w10 ⟨rfl, b10⟩
      refine hK.out _ _ (HS.out _ (bstep hb b10)) (fun _ => ?_)
      clear hK
      try simp only [Act.put, List.setIfInBounds_toArray, List.set_cons_zero, List.set_cons_succ]
      have HH := HKH_4_9_16_17.out b16 b17 w10 (bstep hb b10) ⟨blk_below f16.1 b10, f16.2⟩ ⟨blk_below f17.1 b10, f17.2⟩ n16_17
      rw [HWN.out, HA0.out] at HH
      simp only [upA, List.take_succ_cons, List.take_zero, List.drop_succ_cons, List.drop_zero, List.cons_append, List.nil_append] at HH
      exact HH
    refine Reg.N_step (o := { dst := some 5, op := Op.alloc 29, type := 0, pos := "law.go:43", after := #[], guard := Option.none }) (by rfl) ?_ (fun K hK => ?_) ?_
    · kernel_rfl
    · go_simp
      refine hK.out _ _ (HS.out _ (hb.alloc hb.size _)) (fun _ => ?_)
      clear hK
      try simp only [Act.put, List.setIfInBounds_toArray, List.set_cons_zero, List.set_cons_succ]
      have HH := HKH_4_15_16_17.out w9.heap.size b16 b17 _ (hb.alloc hb.size _) ⟨heap_alloc_new _ _, hb.size⟩ ⟨blk_alloc f16.1 _, f16.2⟩ ⟨blk_alloc f17.1 _, f17.2⟩ (Nat.ne_of_gt (blk_lt f16.1)) (Nat.ne_of_gt (blk_lt f17.1)) n16_17
      rw [HWN.out, HA0.out] at HH
      simp only [upA, List.take_succ_cons, List.take_zero, List.drop_succ_cons, List.drop_zero, List.cons_append, List.nil_append] at HH
      exact HH
    exact Reg.N_none
  have HKH_4_16_17 := Lib.hid H_4_16_17
  clear H_4_16_17
  have H_4_16 : ∀ (b16 : Nat) (w9 : World), Below W1.drew.heap.size W1.drew w9 → (w9.heap[b16]? = some (.cells #[.int .i64 0, .bool false, .int .u64 0, .string ⟨#[]⟩] 29 (0, 0)) ∧ W1.drew.heap.size ≤ b16) → WN (.alt 9 (.alt 14 (.alt 15 (.alt 17 (.alt 18 (.alt 19 (.alt 20 .done .none) .none) .none) .none) (.alt 17 (.alt 15 (.alt 18 (.alt 19 (.alt 20 .done .none) .none) .none) .none) .none)) (.alt 15 (.alt 14 (.alt 17 (.alt 18 (.alt 19 (.alt 20 .done .none) .none) .none) .none) (.alt 17 (.alt 14 (.alt 18 (.alt 19 (.alt 20 .done .none) .none) .none) .none) .none)) (.alt 17 (.alt 14 (.alt 15 (.alt 18 (.alt 19 (.alt 20 .done .none) .none) .none) .none) (.alt 15 (.alt 14 (.alt 18 (.alt 19 (.alt 20 .done .none) .none) .none) .none) .none)) .none))) (.alt 15 (.alt 9 (.alt 14 (.alt 17 (.alt 18 (.alt 19 (.alt 20 .done .none) .none) .none) .none) (.alt 17 (.alt 14 (.alt 18 (.alt 19 (.alt 20 .done .none) .none) .none) .none) .none)) (.alt 17 (.alt 9 (.alt 14 (.alt 18 (.alt 19 (.alt 20 .done .none) .none) .none) .none) .none) .none)) (.alt 17 (.alt 9 (.alt 14 (.alt 15 (.alt 18 (.alt 19 (.alt 20 .done .none) .none) .none) .none) (.alt 15 (.alt 14 (.alt 18 (.alt 19 (.alt 20 .done .none) .none) .none) .none) .none)) (.alt 15 (.alt 9 (.alt 14 (.alt 18 (.alt 19 (.alt 20 .done .none) .none) .none) .none) .none) .none)) .none))) { tmps := (upA a0.tmps.toList (undef) (.pointer (some ⟨b16, 0, none⟩)) (undef) (.agg #[.int .i64 a1, .bool a2, .int .u64 a3, .string ⟨#[]⟩]) (undef) (undef)).toArray, defers := a0.defers } w9 := by
    intro b16 w9 hb f16
    rw [HWN.out, HA0.out]
    simp only [upA, List.take_succ_cons, List.take_zero, List.drop_succ_cons, List.drop_zero, List.cons_append, List.nil_append]
    refine Reg.N_step (o := { dst := some 21, op := Op.call { callee := Callee.value (Operand.func 21), args := #[Operand.tmp 18, Operand.tmp 20], argTypes := #[3, 22] }, type := 29, pos := "law.go:43", after := #[{ on := 6, ground := Ground.data }, { on := 8, ground := Ground.data }, { on := 4, ground := Ground.chain }], guard := Option.none }) (by rfl) ?_ (fun K hK => ?_) ?_
    · kernel_rfl
    · go_simp
      refine (HB _).mono ?_
      rintro e w10 ⟨rfl, b10⟩
      refine hK.out _ _ (HS.out _ (bstep hb b10)) (fun _ => ?_)
      clear hK
      try simp only [Act.put, List.setIfInBounds_toArray, List.set_cons_zero, List.set_cons_succ]
      have HH := HKH_4_9_16.out b16 w10 (bstep hb b10) ⟨blk_below f16.1 b10, f16.2⟩
      rw [HWN.out, HA0.out] at HH
      simp only [upA, List.take_succ_cons, List.take_zero, List.drop_succ_cons, List.drop_zero, List.cons_append, List.nil_append] at HH
      exact HH
    refine Reg.N_step (o := { dst := some 5, op := Op.alloc 29, type := 0, pos := "law.go:43", after := #[], guard := Option.none }) (by rfl) ?_ (fun K hK => ?_) ?_
    · kernel_rfl
    · go_simp
      refine hK.out _ _ (HS.out _ (hb.alloc hb.size _)) (fun _ => ?_)
      clear hK
      try simp only [Act.put, List.setIfInBounds_toArray, List.set_cons_zero, List.set_cons_succ]
      have HH := HKH_4_15_16.out w9.heap.size b16 _ (hb.alloc hb.size _) ⟨heap_alloc_new _ _, hb.size⟩ ⟨blk_alloc f16.1 _, f16.2⟩ (Nat.ne_of_gt (blk_lt f16.1))
      rw [HWN.out, HA0.out] at HH
      simp only [upA, List.take_succ_cons, List.take_zero, List.drop_succ_cons, List.drop_zero, List.cons_append, List.nil_append] at HH
      exact HH
    refine Reg.N_step (o := { dst := some 7, op := Op.alloc 29, type := 0, pos := "law.go:43", after := #[], guard := Option.none }) (by rfl) ?_ (fun K hK => ?_) ?_
    · kernel_rfl
    · go_simp
      refine hK.out _ _ (HS.out _ (hb.alloc hb.size _)) (fun _ => ?_)
      clear hK
      try simp only [Act.put, List.setIfInBounds_toArray, List.set_cons_zero, List.set_cons_succ]
      have HH := HKH_4_16_17.out b16 w9.heap.size _ (hb.alloc hb.size _) ⟨blk_alloc f16.1 _, f16.2⟩ ⟨heap_alloc_new _ _, hb.size⟩ (Nat.ne_of_lt (blk_lt f16.1))
      rw [HWN.out, HA0.out] at HH
      simp only [upA, List.take_succ_cons, List.take_zero, List.drop_succ_cons, List.drop_zero, List.cons_append, List.nil_append] at HH
      exact HH
    exact Reg.N_none
  have HKH_4_16 := Lib.hid H_4_16
  clear H_4_16
  have H_4_17 : ∀ (b17 : Nat) (w9 : World), Below W1.drew.heap.size W1.drew w9 → (w9.heap[b17]? = some (.cells #[.int .i64 0, .bool false, .int .u64 0, .string ⟨#[]⟩] 29 (0, 0)) ∧ W1.drew.heap.size ≤ b17) → WN (.alt 9 (.alt 14 (.alt 15 (.alt 16 (.alt 18 (.alt 19 (.alt 20 .done .none) .none) .none) .none) (.alt 16 (.alt 15 (.alt 18 (.alt 19 (.alt 20 .done .none) .none) .none) .none) .none)) (.alt 15 (.alt 14 (.alt 16 (.alt 18 (.alt 19 (.alt 20 .done .none) .none) .none) .none) (.alt 16 (.alt 14 (.alt 18 (.alt 19 (.alt 20 .done .none) .none) .none) .none) .none)) (.alt 16 (.alt 14 (.alt 15 (.alt 18 (.alt 19 (.alt 20 .done .none) .none) .none) .none) (.alt 15 (.alt 14 (.alt 18 (.alt 19 (.alt 20 .done .none) .none) .none) .none) .none)) .none))) (.alt 15 (.alt 9 (.alt 14 (.alt 16 (.alt 18 (.alt 19 (.alt 20 .done .none) .none) .none) .none) (.alt 16 (.alt 14 (.alt 18 (.alt 19 (.alt 20 .done .none) .none) .none) .none) .none)) (.alt 16 (.alt 9 (.alt 14 (.alt 18 (.alt 19 (.alt 20 .done .none) .none) .none) .none) .none) .none)) (.alt 16 (.alt 9 (.alt 14 (.alt 15 (.alt 18 (.alt 19 (.alt 20 .done .none) .none) .none) .none) (.alt 15 (.alt 14 (.alt 18 (.alt 19 (.alt 20 .done .none) .none) .none) .none) .none)) (.alt 15 (.alt 9 (.alt 14 (.alt 18 (.alt 19 (.alt 20 .done .none) .none) .none) .none) .none) .none)) .none))) { tmps := (upA a0.tmps.toList (undef) (undef) (.pointer (some ⟨b17, 0, none⟩)) (.agg #[.int .i64 a1, .bool a2, .int .u64 a3, .string ⟨#[]⟩]) (undef) (undef)).toArray, defers := a0.defers } w9 := by
    intro b17 w9 hb f17
    rw [HWN.out, HA0.out]
    simp only [upA, List.take_succ_cons, List.take_zero, List.drop_succ_cons, List.drop_zero, List.cons_append, List.nil_append]
    refine Reg.N_step (o := { dst := some 21, op := Op.call { callee := Callee.value (Operand.func 21), args := #[Operand.tmp 18, Operand.tmp 20], argTypes := #[3, 22] }, type := 29, pos := "law.go:43", after := #[{ on := 6, ground := Ground.data }, { on := 8, ground := Ground.data }, { on := 4, ground := Ground.chain }], guard := Option.none }) (by rfl) ?_ (fun K hK => ?_) ?_
    · kernel_rfl
    · go_simp
      refine (HB _).mono ?_
      rintro e w10 ⟨rfl, b10⟩
      refine hK.out _ _ (HS.out _ (bstep hb b10)) (fun _ => ?_)
      clear hK
      try simp only [Act.put, List.setIfInBounds_toArray, List.set_cons_zero, List.set_cons_succ]
      have HH := HKH_4_9_17.out b17 w10 (bstep hb b10) ⟨blk_below f17.1 b10, f17.2⟩
      rw [HWN.out, HA0.out] at HH
      simp only [upA, List.take_succ_cons, List.take_zero, List.drop_succ_cons, List.drop_zero, List.cons_append, List.nil_append] at HH
      exact HH
    refine Reg.N_step (o := { dst := some 5, op := Op.alloc 29, type := 0, pos := "law.go:43", after := #[], guard := Option.none }) (by rfl) ?_ (fun K hK => ?_) ?_
    · kernel_rfl
    · go_simp
      refine hK.out _ _ (HS.out _ (hb.alloc hb.size _)) (fun _ => ?_)
      clear hK
      try simp only [Act.put, List.setIfInBounds_toArray, List.set_cons_zero, List.set_cons_succ]
      have HH := HKH_4_15_17.out w9.heap.size b17 _ (hb.alloc hb.size _) ⟨heap_alloc_new _ _, hb.size⟩ ⟨blk_alloc f17.1 _, f17.2⟩ (Nat.ne_of_gt (blk_lt f17.1))
      rw [HWN.out, HA0.out] at HH
      simp only [upA, List.take_succ_cons, List.take_zero, List.drop_succ_cons, List.drop_zero, List.cons_append, List.nil_append] at HH
      exact HH
    refine Reg.N_step (o := { dst := some 6, op := Op.alloc 29, type := 0, pos := "law.go:43", after := #[], guard := Option.none }) (by rfl) ?_ (fun K hK => ?_) ?_
    · kernel_rfl
    · go_simp
      refine hK.out _ _ (HS.out _ (hb.alloc hb.size _)) (fun _ => ?_)
      clear hK
      try simp only [Act.put, List.setIfInBounds_toArray, List.set_cons_zero, List.set_cons_succ]
      have HH := HKH_4_16_17.out w9.heap.size b17 _ (hb.alloc hb.size _) ⟨heap_alloc_new _ _, hb.size⟩ ⟨blk_alloc f17.1 _, f17.2⟩ (Nat.ne_of_gt (blk_lt f17.1))
      rw [HWN.out, HA0.out] at HH
      simp only [upA, List.take_succ_cons, List.take_zero, List.drop_succ_cons, List.drop_zero, List.cons_append, List.nil_append] at HH
      exact HH
    exact Reg.N_none
  have HKH_4_17 := Lib.hid H_4_17
  clear H_4_17
  have H_4 : ∀ (w9 : World), Below W1.drew.heap.size W1.drew w9 → WN (.alt 9 (.alt 14 (.alt 15 (.alt 16 (.alt 17 (.alt 18 (.alt 19 (.alt 20 .done .none) .none) .none) .none) (.alt 17 (.alt 16 (.alt 18 (.alt 19 (.alt 20 .done .none) .none) .none) .none) .none)) (.alt 16 (.alt 15 (.alt 17 (.alt 18 (.alt 19 (.alt 20 .done .none) .none) .none) .none) (.alt 17 (.alt 15 (.alt 18 (.alt 19 (.alt 20 .done .none) .none) .none) .none) .none)) (.alt 17 (.alt 15 (.alt 16 (.alt 18 (.alt 19 (.alt 20 .done .none) .none) .none) .none) (.alt 16 (.alt 15 (.alt 18 (.alt 19 (.alt 20 .done .none) .none) .none) .none) .none)) .none))) (.alt 15 (.alt 14 (.alt 16 (.alt 17 (.alt 18 (.alt 19 (.alt 20 .done .none) .none) .none) .none) (.alt 17 (.alt 16 (.alt 18 (.alt 19 (.alt 20 .done .none) .none) .none) .none) .none)) (.alt 16 (.alt 14 (.alt 17 (.alt 18 (.alt 19 (.alt 20 .done .none) .none) .none) .none) (.alt 17 (.alt 14 (.alt 18 (.alt 19 (.alt 20 .done .none) .none) .none) .none) .none)) (.alt 17 (.alt 14 (.alt 16 (.alt 18 (.alt 19 (.alt 20 .done .none) .none) .none) .none) (.alt 16 (.alt 14 (.alt 18 (.alt 19 (.alt 20 .done .none) .none) .none) .none) .none)) .none))) (.alt 16 (.alt 14 (.alt 15 (.alt 17 (.alt 18 (.alt 19 (.alt 20 .done .none) .none) .none) .none) (.alt 17 (.alt 15 (.alt 18 (.alt 19 (.alt 20 .done .none) .none) .none) .none) .none)) (.alt 15 (.alt 14 (.alt 17 (.alt 18 (.alt 19 (.alt 20 .done .none) .none) .none) .none) (.alt 17 (.alt 14 (.alt 18 (.alt 19 (.alt 20 .done .none) .none) .none) .none) .none)) (.alt 17 (.alt 14 (.alt 15 (.alt 18 (.alt 19 (.alt 20 .done .none) .none) .none) .none) (.alt 15 (.alt 14 (.alt 18 (.alt 19 (.alt 20 .done .none) .none) .none) .none) .none)) .none))) (.alt 17 (.alt 14 (.alt 15 (.alt 16 (.alt 18 (.alt 19 (.alt 20 .done .none) .none) .none) .none) (.alt 16 (.alt 15 (.alt 18 (.alt 19 (.alt 20 .done .none) .none) .none) .none) .none)) (.alt 15 (.alt 14 (.alt 16 (.alt 18 (.alt 19 (.alt 20 .done .none) .none) .none) .none) (.alt 16 (.alt 14 (.alt 18 (.alt 19 (.alt 20 .done .none) .none) .none) .none) .none)) (.alt 16 (.alt 14 (.alt 15 (.alt 18 (.alt 19 (.alt 20 .done .none) .none) .none) .none) (.alt 15 (.alt 14 (.alt 18 (.alt 19 (.alt 20 .done .none) .none) .none) .none) .none)) .none))) .none)))) (.alt 15 (.alt 9 (.alt 14 (.alt 16 (.alt 17 (.alt 18 (.alt 19 (.alt 20 .done .none) .none) .none) .none) (.alt 17 (.alt 16 (.alt 18 (.alt 19 (.alt 20 .done .none) .none) .none) .none) .none)) (.alt 16 (.alt 14 (.alt 17 (.alt 18 (.alt 19 (.alt 20 .done .none) .none) .none) .none) (.alt 17 (.alt 14 (.alt 18 (.alt 19 (.alt 20 .done .none) .none) .none) .none) .none)) (.alt 17 (.alt 14 (.alt 16 (.alt 18 (.alt 19 (.alt 20 .done .none) .none) .none) .none) (.alt 16 (.alt 14 (.alt 18 (.alt 19 (.alt 20 .done .none) .none) .none) .none) .none)) .none))) (.alt 16 (.alt 9 (.alt 14 (.alt 17 (.alt 18 (.alt 19 (.alt 20 .done .none) .none) .none) .none) (.alt 17 (.alt 14 (.alt 18 (.alt 19 (.alt 20 .done .none) .none) .none) .none) .none)) (.alt 17 (.alt 9 (.alt 14 (.alt 18 (.alt 19 (.alt 20 .done .none) .none) .none) .none) .none) .none)) (.alt 17 (.alt 9 (.alt 14 (.alt 16 (.alt 18 (.alt 19 (.alt 20 .done .none) .none) .none) .none) (.alt 16 (.alt 14 (.alt 18 (.alt 19 (.alt 20 .done .none) .none) .none) .none) .none)) (.alt 16 (.alt 9 (.alt 14 (.alt 18 (.alt 19 (.alt 20 .done .none) .none) .none) .none) .none) .none)) .none))) (.alt 16 (.alt 9 (.alt 14 (.alt 15 (.alt 17 (.alt 18 (.alt 19 (.alt 20 .done .none) .none) .none) .none) (.alt 17 (.alt 15 (.alt 18 (.alt 19 (.alt 20 .done .none) .none) .none) .none) .none)) (.alt 15 (.alt 14 (.alt 17 (.alt 18 (.alt 19 (.alt 20 .done .none) .none) .none) .none) (.alt 17 (.alt 14 (.alt 18 (.alt 19 (.alt 20 .done .none) .none) .none) .none) .none)) (.alt 17 (.alt 14 (.alt 15 (.alt 18 (.alt 19 (.alt 20 .done .none) .none) .none) .none) (.alt 15 (.alt 14 (.alt 18 (.alt 19 (.alt 20 .done .none) .none) .none) .none) .none)) .none))) (.alt 15 (.alt 9 (.alt 14 (.alt 17 (.alt 18 (.alt 19 (.alt 20 .done .none) .none) .none) .none) (.alt 17 (.alt 14 (.alt 18 (.alt 19 (.alt 20 .done .none) .none) .none) .none) .none)) (.alt 17 (.alt 9 (.alt 14 (.alt 18 (.alt 19 (.alt 20 .done .none) .none) .none) .none) .none) .none)) (.alt 17 (.alt 9 (.alt 14 (.alt 15 (.alt 18 (.alt 19 (.alt 20 .done .none) .none) .none) .none) (.alt 15 (.alt 14 (.alt 18 (.alt 19 (.alt 20 .done .none) .none) .none) .none) .none)) (.alt 15 (.alt 9 (.alt 14 (.alt 18 (.alt 19 (.alt 20 .done .none) .none) .none) .none) .none) .none)) .none))) (.alt 17 (.alt 9 (.alt 14 (.alt 15 (.alt 16 (.alt 18 (.alt 19 (.alt 20 .done .none) .none) .none) .none) (.alt 16 (.alt 15 (.alt 18 (.alt 19 (.alt 20 .done .none) .none) .none) .none) .none)) (.alt 15 (.alt 14 (.alt 16 (.alt 18 (.alt 19 (.alt 20 .done .none) .none) .none) .none) (.alt 16 (.alt 14 (.alt 18 (.alt 19 (.alt 20 .done .none) .none) .none) .none) .none)) (.alt 16 (.alt 14 (.alt 15 (.alt 18 (.alt 19 (.alt 20 .done .none) .none) .none) .none) (.alt 15 (.alt 14 (.alt 18 (.alt 19 (.alt 20 .done .none) .none) .none) .none) .none)) .none))) (.alt 15 (.alt 9 (.alt 14 (.alt 16 (.alt 18 (.alt 19 (.alt 20 .done .none) .none) .none) .none) (.alt 16 (.alt 14 (.alt 18 (.alt 19 (.alt 20 .done .none) .none) .none) .none) .none)) (.alt 16 (.alt 9 (.alt 14 (.alt 18 (.alt 19 (.alt 20 .done .none) .none) .none) .none) .none) .none)) (.alt 16 (.alt 9 (.alt 14 (.alt 15 (.alt 18 (.alt 19 (.alt 20 .done .none) .none) .none) .none) (.alt 15 (.alt 14 (.alt 18 (.alt 19 (.alt 20 .done .none) .none) .none) .none) .none)) (.alt 15 (.alt 9 (.alt 14 (.alt 18 (.alt 19 (.alt 20 .done .none) .none) .none) .none) .none) .none)) .none))) .none)))) { tmps := (upA a0.tmps.toList (undef) (undef) (undef) (.agg #[.int .i64 a1, .bool a2, .int .u64 a3, .string ⟨#[]⟩]) (undef) (undef)).toArray, defers := a0.defers } w9 := by
    intro w9 hb
    rw [HWN.out, HA0.out]
    simp only [upA, List.take_succ_cons, List.take_zero, List.drop_succ_cons, List.drop_zero, List.cons_append, List.nil_append]
    refine Reg.N_step (o := { dst := some 21, op := Op.call { callee := Callee.value (Operand.func 21), args := #[Operand.tmp 18, Operand.tmp 20], argTypes := #[3, 22] }, type := 29, pos := "law.go:43", after := #[{ on := 6, ground := Ground.data }, { on := 8, ground := Ground.data }, { on := 4, ground := Ground.chain }], guard := Option.none }) (by rfl) ?_ (fun K hK => ?_) ?_
    · kernel_rfl
    · go_simp
      refine (HB _).mono ?_
      rintro e w10 ⟨rfl, b10⟩
      refine hK.out _ _ (HS.out _ (bstep hb b10)) (fun _ => ?_)
      clear hK
      try simp only [Act.put, List.setIfInBounds_toArray, List.set_cons_zero, List.set_cons_succ]
      have HH := HKH_4_9.out w10 (bstep hb b10)
      rw [HWN.out, HA0.out] at HH
      simp only [upA, List.take_succ_cons, List.take_zero, List.drop_succ_cons, List.drop_zero, List.cons_append, List.nil_append] at HH
      exact HH
    refine Reg.N_step (o := { dst := some 5, op := Op.alloc 29, type := 0, pos := "law.go:43", after := #[], guard := Option.none }) (by rfl) ?_ (fun K hK => ?_) ?_
    · kernel_rfl
    · go_simp
      refine hK.out _ _ (HS.out _ (hb.alloc hb.size _)) (fun _ => ?_)
      clear hK
      try simp only [Act.put, List.setIfInBounds_toArray, List.set_cons_zero, List.set_cons_succ]
      have HH := HKH_4_15.out w9.heap.size _ (hb.alloc hb.size _) ⟨heap_alloc_new _ _, hb.size⟩
      rw [HWN.out, HA0.out] at HH
      simp only [upA, List.take_succ_cons, List.take_zero, List.drop_succ_cons, List.drop_zero, List.cons_append, List.nil_append] at HH
      exact HH
    refine Reg.N_step (o := { dst := some 6, op := Op.alloc 29, type := 0, pos := "law.go:43", after := #[], guard := Option.none }) (by rfl) ?_ (fun K hK => ?_) ?_
    · kernel_rfl
    · go_simp
      refine hK.out _ _ (HS.out _ (hb.alloc hb.size _)) (fun _ => ?_)
      clear hK
      try simp only [Act.put, List.setIfInBounds_toArray, List.set_cons_zero, List.set_cons_succ]
      have HH := HKH_4_16.out w9.heap.size _ (hb.alloc hb.size _) ⟨heap_alloc_new _ _, hb.size⟩
      rw [HWN.out, HA0.out] at HH
      simp only [upA, List.take_succ_cons, List.take_zero, List.drop_succ_cons, List.drop_zero, List.cons_append, List.nil_append] at HH
      exact HH
    refine Reg.N_step (o := { dst := some 7, op := Op.alloc 29, type := 0, pos := "law.go:43", after := #[], guard := Option.none }) (by rfl) ?_ (fun K hK => ?_) ?_
    · kernel_rfl
    · go_simp
      refine hK.out _ _ (HS.out _ (hb.alloc hb.size _)) (fun _ => ?_)
      clear hK
      try simp only [Act.put, List.setIfInBounds_toArray, List.set_cons_zero, List.set_cons_succ]
      have HH := HKH_4_17.out w9.heap.size _ (hb.alloc hb.size _) ⟨heap_alloc_new _ _, hb.size⟩
      rw [HWN.out, HA0.out] at HH
      simp only [upA, List.take_succ_cons, List.take_zero, List.drop_succ_cons, List.drop_zero, List.cons_append, List.nil_append] at HH
      exact HH
    exact Reg.N_none
  have HKH_4 := Lib.hid H_4
  clear H_4
  have H_15_16_17 : ∀ (b15 b16 b17 : Nat) (w9 : World), Below W1.drew.heap.size W1.drew w9 → (w9.heap[b15]? = some (.cells #[.int .i64 0, .bool false, .int .u64 0, .string ⟨#[]⟩] 29 (0, 0)) ∧ W1.drew.heap.size ≤ b15) → (w9.heap[b16]? = some (.cells #[.int .i64 0, .bool false, .int .u64 0, .string ⟨#[]⟩] 29 (0, 0)) ∧ W1.drew.heap.size ≤ b16) → (w9.heap[b17]? = some (.cells #[.int .i64 0, .bool false, .int .u64 0, .string ⟨#[]⟩] 29 (0, 0)) ∧ W1.drew.heap.size ≤ b17) → b15 ≠ b16 → b15 ≠ b17 → b16 ≠ b17 → WN (.alt 4 (.alt 9 (.alt 14 (.alt 18 (.alt 19 (.alt 20 .done .none) .none) .none) .none) .none) .none) { tmps := (upA a0.tmps.toList (.pointer (some ⟨b15, 0, none⟩)) (.pointer (some ⟨b16, 0, none⟩)) (.pointer (some ⟨b17, 0, none⟩)) (undef) (undef) (undef)).toArray, defers := a0.defers } w9 := by
    intro b15 b16 b17 w9 hb f15 f16 f17 n15_16 n15_17 n16_17
    rw [HWN.out, HA0.out]
    simp only [upA, List.take_succ_cons, List.take_zero, List.drop_succ_cons, List.drop_zero, List.cons_append, List.nil_append]
    refine Reg.N_step (o := { dst := some 16, op := Op.call { callee := Callee.value (Operand.func 21), args := #[Operand.tmp 13, Operand.tmp 15], argTypes := #[3, 22] }, type := 29, pos := "law.go:43", after := #[{ on := 1, ground := Ground.data }, { on := 3, ground := Ground.data }], guard := Option.none }) (by rfl) ?_ (fun K hK => ?_) ?_
    · kernel_rfl
    · go_simp
      refine (HA _).mono ?_
      rintro e w10 ⟨rfl, b10⟩
      refine hK.out _ _ (HS.out _ (bstep hb b10)) (fun _ => ?_)
      clear hK
      try simp only [Act.put, List.setIfInBounds_toArray, List.set_cons_zero, List.set_cons_succ]
      have HH := HKH_4_15_16_17.out b15 b16 b17 w10 (bstep hb b10) ⟨blk_below f15.1 b10, f15.2⟩ ⟨blk_below f16.1 b10, f16.2⟩ ⟨blk_below f17.1 b10, f17.2⟩ n15_16 n15_17 n16_17
      rw [HWN.out, HA0.out] at HH
      simp only [upA, List.take_succ_cons, List.take_zero, List.drop_succ_cons, List.drop_zero, List.cons_append, List.nil_append] at HH
      exact HH
    exact Reg.N_none
  have HKH_15_16_17 := Lib.hid H_15_16_17
  clear H_15_16_17
  have H_15_16 : ∀ (b15 b16 : Nat) (w9 : World), Below W1.drew.heap.size W1.drew w9 → (w9.heap[b15]? = some (.cells #[.int .i64 0, .bool false, .int .u64 0, .string ⟨#[]⟩] 29 (0, 0)) ∧ W1.drew.heap.size ≤ b15) → (w9.heap[b16]? = some (.cells #[.int .i64 0, .bool false, .int .u64 0, .string ⟨#[]⟩] 29 (0, 0)) ∧ W1.drew.heap.size ≤ b16) → b15 ≠ b16 → WN (.alt 4 (.alt 9 (.alt 14 (.alt 17 (.alt 18 (.alt 19 (.alt 20 .done .none) .none) .none) .none) (.alt 17 (.alt 14 (.alt 18 (.alt 19 (.alt 20 .done .none) .none) .none) .none) .none)) (.alt 17 (.alt 9 (.alt 14 (.alt 18 (.alt 19 (.alt 20 .done .none) .none) .none) .none) .none) .none)) (.alt 17 (.alt 4 (.alt 9 (.alt 14 (.alt 18 (.alt 19 (.alt 20 .done .none) .none) .none) .none) .none) .none) .none)) { tmps := (upA a0.tmps.toList (.pointer (some ⟨b15, 0, none⟩)) (.pointer (some ⟨b16, 0, none⟩)) (undef) (undef) (undef) (undef)).toArray, defers := a0.defers } w9 := by
    intro b15 b16 w9 hb f15 f16 n15_16
    rw [HWN.out, HA0.out]
    simp only [upA, List.take_succ_cons, List.take_zero, List.drop_succ_cons, List.drop_zero, List.cons_append, List.nil_append]
    refine Reg.N_step (o := { dst := some 16, op := Op.call { callee := Callee.value (Operand.func 21), args := #[Operand.tmp 13, Operand.tmp 15], argTypes := #[3, 22] }, type := 29, pos := "law.go:43", after := #[{ on := 1, ground := Ground.data }, { on := 3, ground := Ground.data }], guard := Option.none }) (by rfl) ?_ (fun K hK => ?_) ?_
    · kernel_rfl
    · go_simp
      refine (HA _).mono ?_
      rintro e w10 ⟨rfl, b10⟩
      refine hK.out _ _ (HS.out _ (bstep hb b10)) (fun _ => ?_)
      clear hK
      try simp only [Act.put, List.setIfInBounds_toArray, List.set_cons_zero, List.set_cons_succ]
      have HH := HKH_4_15_16.out b15 b16 w10 (bstep hb b10) ⟨blk_below f15.1 b10, f15.2⟩ ⟨blk_below f16.1 b10, f16.2⟩ n15_16
      rw [HWN.out, HA0.out] at HH
      simp only [upA, List.take_succ_cons, List.take_zero, List.drop_succ_cons, List.drop_zero, List.cons_append, List.nil_append] at HH
      exact HH
    refine Reg.N_step (o := { dst := some 7, op := Op.alloc 29, type := 0, pos := "law.go:43", after := #[], guard := Option.none }) (by rfl) ?_ (fun K hK => ?_) ?_
    · kernel_rfl
    · go_simp
      refine hK.out _ _ (HS.out _ (hb.alloc hb.size _)) (fun _ => ?_)
      clear hK
      try simp only [Act.put, List.setIfInBounds_toArray, List.set_cons_zero, List.set_cons_succ]
      have HH := HKH_15_16_17.out b15 b16 w9.heap.size _ (hb.alloc hb.size _) ⟨blk_alloc f15.1 _, f15.2⟩ ⟨blk_alloc f16.1 _, f16.2⟩ ⟨heap_alloc_new _ _, hb.size⟩ n15_16 (Nat.ne_of_lt (blk_lt f15.1)) (Nat.ne_of_lt (blk_lt f16.1))
      rw [HWN.out, HA0.out] at HH
      simp only [upA, List.take_succ_cons, List.take_zero, List.drop_succ_cons, List.drop_zero, List.cons_append, List.nil_append] at HH
      exact HH
    exact Reg.N_none
  have HKH_15_16 := Lib.hid H_15_16
  clear H_15_16
  have H_15_17 : ∀ (b15 b17 : Nat) (w9 : World), Below W1.drew.heap.size W1.drew w9 → (w9.heap[b15]? = some (.cells #[.int .i64 0, .bool false, .int .u64 0, .string ⟨#[]⟩] 29 (0, 0)) ∧ W1.drew.heap.size ≤ b15) → (w9.heap[b17]? = some (.cells #[.int .i64 0, .bool false, .int .u64 0, .string ⟨#[]⟩] 29 (0, 0)) ∧ W1.drew.heap.size ≤ b17) → b15 ≠ b17 → WN (.alt 4 (.alt 9 (.alt 14 (.alt 16 (.alt 18 (.alt 19 (.alt 20 .done .none) .none) .none) .none) (.alt 16 (.alt 14 (.alt 18 (.alt 19 (.alt 20 .done .none) .none) .none) .none) .none)) (.alt 16 (.alt 9 (.alt 14 (.alt 18 (.alt 19 (.alt 20 .done .none) .none) .none) .none) .none) .none)) (.alt 16 (.alt 4 (.alt 9 (.alt 14 (.alt 18 (.alt 19 (.alt 20 .done .none) .none) .none) .none) .none) .none) .none)) { tmps := (upA a0.tmps.toList (.pointer (some ⟨b15, 0, none⟩)) (undef) (.pointer (some ⟨b17, 0, none⟩)) (undef) (undef) (undef)).toArray, defers := a0.defers } w9 := by
    intro b15 b17 w9 hb f15 f17 n15_17
    rw [HWN.out, HA0.out]
    simp only [upA, List.take_succ_cons, List.take_zero, List.drop_succ_cons, List.drop_zero, List.cons_append, List.nil_append]
    refine Reg.N_step (o := { dst := some 16, op := Op.call { callee := Callee.value (Operand.func 21), args := #[Operand.tmp 13, Operand.tmp 15], argTypes := #[3, 22] }, type := 29, pos := "law.go:43", after := #[{ on := 1, ground := Ground.data }, { on := 3, ground := Ground.data }], guard := Option.none }) (by rfl) ?_ (fun K hK => ?_) ?_
    · kernel_rfl
    · go_simp
      refine (HA _).mono ?_
      rintro e w10 ⟨rfl, b10⟩
      refine hK.out _ _ (HS.out _ (bstep hb b10)) (fun _ => ?_)
      clear hK
      try simp only [Act.put, List.setIfInBounds_toArray, List.set_cons_zero, List.set_cons_succ]
      have HH := HKH_4_15_17.out b15 b17 w10 (bstep hb b10) ⟨blk_below f15.1 b10, f15.2⟩ ⟨blk_below f17.1 b10, f17.2⟩ n15_17
      rw [HWN.out, HA0.out] at HH
      simp only [upA, List.take_succ_cons, List.take_zero, List.drop_succ_cons, List.drop_zero, List.cons_append, List.nil_append] at HH
      exact HH
    refine Reg.N_step (o := { dst := some 6, op := Op.alloc 29, type := 0, pos := "law.go:43", after := #[], guard := Option.none }) (by rfl) ?_ (fun K hK => ?_) ?_
    · kernel_rfl
    · go_simp
      refine hK.out _ _ (HS.out _ (hb.alloc hb.size _)) (fun _ => ?_)
      clear hK
      try simp only [Act.put, List.setIfInBounds_toArray, List.set_cons_zero, List.set_cons_succ]
      have HH := HKH_15_16_17.out b15 w9.heap.size b17 _ (hb.alloc hb.size _) ⟨blk_alloc f15.1 _, f15.2⟩ ⟨heap_alloc_new _ _, hb.size⟩ ⟨blk_alloc f17.1 _, f17.2⟩ (Nat.ne_of_lt (blk_lt f15.1)) n15_17 (Nat.ne_of_gt (blk_lt f17.1))
      rw [HWN.out, HA0.out] at HH
      simp only [upA, List.take_succ_cons, List.take_zero, List.drop_succ_cons, List.drop_zero, List.cons_append, List.nil_append] at HH
      exact HH
    exact Reg.N_none
  have HKH_15_17 := Lib.hid H_15_17
  clear H_15_17
  have H_15 : ∀ (b15 : Nat) (w9 : World), Below W1.drew.heap.size W1.drew w9 → (w9.heap[b15]? = some (.cells #[.int .i64 0, .bool false, .int .u64 0, .string ⟨#[]⟩] 29 (0, 0)) ∧ W1.drew.heap.size ≤ b15) → WN (.alt 4 (.alt 9 (.alt 14 (.alt 16 (.alt 17 (.alt 18 (.alt 19 (.alt 20 .done .none) .none) .none) .none) (.alt 17 (.alt 16 (.alt 18 (.alt 19 (.alt 20 .done .none) .none) .none) .none) .none)) (.alt 16 (.alt 14 (.alt 17 (.alt 18 (.alt 19 (.alt 20 .done .none) .none) .none) .none) (.alt 17 (.alt 14 (.alt 18 (.alt 19 (.alt 20 .done .none) .none) .none) .none) .none)) (.alt 17 (.alt 14 (.alt 16 (.alt 18 (.alt 19 (.alt 20 .done .none) .none) .none) .none) (.alt 16 (.alt 14 (.alt 18 (.alt 19 (.alt 20 .done .none) .none) .none) .none) .none)) .none))) (.alt 16 (.alt 9 (.alt 14 (.alt 17 (.alt 18 (.alt 19 (.alt 20 .done .none) .none) .none) .none) (.alt 17 (.alt 14 (.alt 18 (.alt 19 (.alt 20 .done .none) .none) .none) .none) .none)) (.alt 17 (.alt 9 (.alt 14 (.alt 18 (.alt 19 (.alt 20 .done .none) .none) .none) .none) .none) .none)) (.alt 17 (.alt 9 (.alt 14 (.alt 16 (.alt 18 (.alt 19 (.alt 20 .done .none) .none) .none) .none) (.alt 16 (.alt 14 (.alt 18 (.alt 19 (.alt 20 .done .none) .none) .none) .none) .none)) (.alt 16 (.alt 9 (.alt 14 (.alt 18 (.alt 19 (.alt 20 .done .none) .none) .none) .none) .none) .none)) .none))) (.alt 16 (.alt 4 (.alt 9 (.alt 14 (.alt 17 (.alt 18 (.alt 19 (.alt 20 .done .none) .none) .none) .none) (.alt 17 (.alt 14 (.alt 18 (.alt 19 (.alt 20 .done .none) .none) .none) .none) .none)) (.alt 17 (.alt 9 (.alt 14 (.alt 18 (.alt 19 (.alt 20 .done .none) .none) .none) .none) .none) .none)) (.alt 17 (.alt 4 (.alt 9 (.alt 14 (.alt 18 (.alt 19 (.alt 20 .done .none) .none) .none) .none) .none) .none) .none)) (.alt 17 (.alt 4 (.alt 9 (.alt 14 (.alt 16 (.alt 18 (.alt 19 (.alt 20 .done .none) .none) .none) .none) (.alt 16 (.alt 14 (.alt 18 (.alt 19 (.alt 20 .done .none) .none) .none) .none) .none)) (.alt 16 (.alt 9 (.alt 14 (.alt 18 (.alt 19 (.alt 20 .done .none) .none) .none) .none) .none) .none)) (.alt 16 (.alt 4 (.alt 9 (.alt 14 (.alt 18 (.alt 19 (.alt 20 .done .none) .none) .none) .none) .none) .none) .none)) .none))) { tmps := (upA a0.tmps.toList (.pointer (some ⟨b15, 0, none⟩)) (undef) (undef) (undef) (undef) (undef)).toArray, defers := a0.defers } w9 := by
    intro b15 w9 hb f15
    rw [HWN.out, HA0.out]
    simp only [upA, List.take_succ_cons, List.take_zero, List.drop_succ_cons, List.drop_zero, List.cons_append, List.nil_append]
    refine Reg.N_step (o := { dst := some 16, op := Op.call { callee := Callee.value (Operand.func 21), args := #[Operand.tmp 13, Operand.tmp 15], argTypes := #[3, 22] }, type := 29, pos := "law.go:43", after := #[{ on := 1, ground := Ground.data }, { on := 3, ground := Ground.data }], guard := Option.none }) (by rfl) ?_ (fun K hK => ?_) ?_
    · kernel_rfl
    · go_simp
      refine (HA _).mono ?_
      rintro e w10 ⟨rfl, b10⟩
      refine hK.out _ _ (HS.out _ (bstep hb b10)) (fun _ => ?_)
      clear hK
      try simp only [Act.put, List.setIfInBounds_toArray, List.set_cons_zero, List.set_cons_succ]
      have HH := HKH_4_15.out b15 w10 (bstep hb b10) ⟨blk_below f15.1 b10, f15.2⟩
      rw [HWN.out, HA0.out] at HH
      simp only [upA, List.take_succ_cons, List.take_zero, List.drop_succ_cons, List.drop_zero, List.cons_append, List.nil_append] at HH
      exact HH
    refine Reg.N_step (o := { dst := some 6, op := Op.alloc 29, type := 0, pos := "law.go:43", after := #[], guard := Option.none }) (by rfl) ?_ (fun K hK => ?_) ?_
    · kernel_rfl
    · go_simp
      refine hK.out _ _ (HS.out _ (hb.alloc hb.size _)) (fun _ => ?_)
      clear hK
      try simp only [Act.put, List.setIfInBounds_toArray, List.set_cons_zero, List.set_cons_succ]
      have HH := HKH_15_16.out b15 w9.heap.size _ (hb.alloc hb.size _) ⟨blk_alloc f15.1 _, f15.2⟩ ⟨heap_alloc_new _ _, hb.size⟩ (Nat.ne_of_lt (blk_lt f15.1))
      rw [HWN.out, HA0.out] at HH
      simp only [upA, List.take_succ_cons, List.take_zero, List.drop_succ_cons, List.drop_zero, List.cons_append, List.nil_append] at HH
      exact HH
    refine Reg.N_step (o := { dst := some 7, op := Op.alloc 29, type := 0, pos := "law.go:43", after := #[], guard := Option.none }) (by rfl) ?_ (fun K hK => ?_) ?_
    · kernel_rfl
    · go_simp
      refine hK.out _ _ (HS.out _ (hb.alloc hb.size _)) (fun _ => ?_)
      clear hK
      try simp only [Act.put, List.setIfInBounds_toArray, List.set_cons_zero, List.set_cons_succ]
      have HH := HKH_15_17.out b15 w9.heap.size _ (hb.alloc hb.size _) ⟨blk_alloc f15.1 _, f15.2⟩ ⟨heap_alloc_new _ _, hb.size⟩ (Nat.ne_of_lt (blk_lt f15.1))
      rw [HWN.out, HA0.out] at HH
      simp only [upA, List.take_succ_cons, List.take_zero, List.drop_succ_cons, List.drop_zero, List.cons_append, List.nil_append] at HH
      exact HH
    exact Reg.N_none
  have HKH_15 := Lib.hid H_15
  clear H_15
  have H_16_17 : ∀ (b16 b17 : Nat) (w9 : World), Below W1.drew.heap.size W1.drew w9 → (w9.heap[b16]? = some (.cells #[.int .i64 0, .bool false, .int .u64 0, .string ⟨#[]⟩] 29 (0, 0)) ∧ W1.drew.heap.size ≤ b16) → (w9.heap[b17]? = some (.cells #[.int .i64 0, .bool false, .int .u64 0, .string ⟨#[]⟩] 29 (0, 0)) ∧ W1.drew.heap.size ≤ b17) → b16 ≠ b17 → WN (.alt 4 (.alt 9 (.alt 14 (.alt 15 (.alt 18 (.alt 19 (.alt 20 .done .none) .none) .none) .none) (.alt 15 (.alt 14 (.alt 18 (.alt 19 (.alt 20 .done .none) .none) .none) .none) .none)) (.alt 15 (.alt 9 (.alt 14 (.alt 18 (.alt 19 (.alt 20 .done .none) .none) .none) .none) .none) .none)) (.alt 15 (.alt 4 (.alt 9 (.alt 14 (.alt 18 (.alt 19 (.alt 20 .done .none) .none) .none) .none) .none) .none) .none)) { tmps := (upA a0.tmps.toList (undef) (.pointer (some ⟨b16, 0, none⟩)) (.pointer (some ⟨b17, 0, none⟩)) (undef) (undef) (undef)).toArray, defers := a0.defers } w9 := by
    intro b16 b17 w9 hb f16 f17 n16_17
    rw [HWN.out, HA0.out]
    simp only [upA, List.take_succ_cons, List.take_zero, List.drop_succ_cons, List.drop_zero, List.cons_append, List.nil_append]
    refine Reg.N_step (o := { dst := some 16, op := Op.call { callee := Callee.value (Operand.func 21), args := #[Operand.tmp 13, Operand.tmp 15], argTypes := #[3, 22] }, type := 29, pos := "law.go:43", after := #[{ on := 1, ground := Ground.data }, { on := 3, ground := Ground.data }], guard := Option.none }) (by rfl) ?_ (fun K hK => ?_) ?_
    · kernel_rfl
    · go_simp
      refine (HA _).mono ?_
      rintro e w10 ⟨rfl, b10⟩
      refine hK.out _ _ (HS.out _ (bstep hb b10)) (fun _ => ?_)
      clear hK
      try simp only [Act.put, List.setIfInBounds_toArray, List.set_cons_zero, List.set_cons_succ]
      have HH := HKH_4_16_17.out b16 b17 w10 (bstep hb b10) ⟨blk_below f16.1 b10, f16.2⟩ ⟨blk_below f17.1 b10, f17.2⟩ n16_17
      rw [HWN.out, HA0.out] at HH
      simp only [upA, List.take_succ_cons, List.take_zero, List.drop_succ_cons, List.drop_zero, List.cons_append, List.nil_append] at HH
      exact HH
    refine Reg.N_step (o := { dst := some 5, op := Op.alloc 29, type := 0, pos := "law.go:43", after := #[], guard := Option.none }) (by rfl) ?_ (fun K hK => ?_) ?_
    · kernel_rfl
    · go_simp
      refine hK.out _ _ (HS.out _ (hb.alloc hb.size _)) (fun _ => ?_)
      clear hK
      try simp only [Act.put, List.setIfInBounds_toArray, List.set_cons_zero, List.set_cons_succ]
      have HH := HKH_15_16_17.out w9.heap.size b16 b17 _ (hb.alloc hb.size _) ⟨heap_alloc_new _ _, hb.size⟩ ⟨blk_alloc f16.1 _, f16.2⟩ ⟨blk_alloc f17.1 _, f17.2⟩ (Nat.ne_of_gt (blk_lt f16.1)) (Nat.ne_of_gt (blk_lt f17.1)) n16_17
      rw [HWN.out, HA0.out] at HH
      simp only [upA, List.take_succ_cons, List.take_zero, List.drop_succ_cons, List.drop_zero, List.cons_append, List.nil_append] at HH
      exact HH
    exact Reg.N_none
  have HKH_16_17 := Lib.hid H_16_17
  clear H_16_17
  have H_16 : ∀ (b16 : Nat) (w9 : World), Below W1.drew.heap.size W1.drew w9 → (w9.heap[b16]? = some (.cells #[.int .i64 0, .bool false, .int .u64 0, .string ⟨#[]⟩] 29 (0, 0)) ∧ W1.drew.heap.size ≤ b16) → WN (.alt 4 (.alt 9 (.alt 14 (.alt 15 (.alt 17 (.alt 18 (.alt 19 (.alt 20 .done .none) .none) .none) .none) (.alt 17 (.alt 15 (.alt 18 (.alt 19 (.alt 20 .done .none) .none) .none) .none) .none)) (.alt 15 (.alt 14 (.alt 17 (.alt 18 (.alt 19 (.alt 20 .done .none) .none) .none) .none) (.alt 17 (.alt 14 (.alt 18 (.alt 19 (.alt 20 .done .none) .none) .none) .none) .none)) (.alt 17 (.alt 14 (.alt 15 (.alt 18 (.alt 19 (.alt 20 .done .none) .none) .none) .none) (.alt 15 (.alt 14 (.alt 18 (.alt 19 (.alt 20 .done .none) .none) .none) .none) .none)) .none))) (.alt 15 (.alt 9 (.alt 14 (.alt 17 (.alt 18 (.alt 19 (.alt 20 .done .none) .none) .none) .none) (.alt 17 (.alt 14 (.alt 18 (.alt 19 (.alt 20 .done .none) .none) .none) .none) .none)) (.alt 17 (.alt 9 (.alt 14 (.alt 18 (.alt 19 (.alt 20 .done .none) .none) .none) .none) .none) .none)) (.alt 17 (.alt 9 (.alt 14 (.alt 15 (.alt 18 (.alt 19 (.alt 20 .done .none) .none) .none) .none) (.alt 15 (.alt 14 (.alt 18 (.alt 19 (.alt 20 .done .none) .none) .none) .none) .none)) (.alt 15 (.alt 9 (.alt 14 (.alt 18 (.alt 19 (.alt 20 .done .none) .none) .none) .none) .none) .none)) .none))) (.alt 15 (.alt 4 (.alt 9 (.alt 14 (.alt 17 (.alt 18 (.alt 19 (.alt 20 .done .none) .none) .none) .none) (.alt 17 (.alt 14 (.alt 18 (.alt 19 (.alt 20 .done .none) .none) .none) .none) .none)) (.alt 17 (.alt 9 (.alt 14 (.alt 18 (.alt 19 (.alt 20 .done .none) .none) .none) .none) .none) .none)) (.alt 17 (.alt 4 (.alt 9 (.alt 14 (.alt 18 (.alt 19 (.alt 20 .done .none) .none) .none) .none) .none) .none) .none)) (.alt 17 (.alt 4 (.alt 9 (.alt 14 (.alt 15 (.alt 18 (.alt 19 (.alt 20 .done .none) .none) .none) .none) (.alt 15 (.alt 14 (.alt 18 (.alt 19 (.alt 20 .done .none) .none) .none) .none) .none)) (.alt 15 (.alt 9 (.alt 14 (.alt 18 (.alt 19 (.alt 20 .done .none) .none) .none) .none) .none) .none)) (.alt 15 (.alt 4 (.alt 9 (.alt 14 (.alt 18 (.alt 19 (.alt 20 .done .none) .none) .none) .none) .none) .none) .none)) .none))) { tmps := (upA a0.tmps.toList (undef) (.pointer (some ⟨b16, 0, none⟩)) (undef) (undef) (undef) (undef)).toArray, defers := a0.defers } w9 := by
    intro b16 w9 hb f16
    rw [HWN.out, HA0.out]
    simp only [upA, List.take_succ_cons, List.take_zero, List.drop_succ_cons, List.drop_zero, List.cons_append, List.nil_append]
    refine Reg.N_step (o := { dst := some 16, op := Op.call { callee := Callee.value (Operand.func 21), args := #[Operand.tmp 13, Operand.tmp 15], argTypes := #[3, 22] }, type := 29, pos := "law.go:43", after := #[{ on := 1, ground := Ground.data }, { on := 3, ground := Ground.data }], guard := Option.none }) (by rfl) ?_ (fun K hK => ?_) ?_
    · kernel_rfl
    · go_simp
      refine (HA _).mono ?_
      rintro e w10 ⟨rfl, b10⟩
      refine hK.out _ _ (HS.out _ (bstep hb b10)) (fun _ => ?_)
      clear hK
      try simp only [Act.put, List.setIfInBounds_toArray, List.set_cons_zero, List.set_cons_succ]
      have HH := HKH_4_16.out b16 w10 (bstep hb b10) ⟨blk_below f16.1 b10, f16.2⟩
      rw [HWN.out, HA0.out] at HH
      simp only [upA, List.take_succ_cons, List.take_zero, List.drop_succ_cons, List.drop_zero, List.cons_append, List.nil_append] at HH
      exact HH
    refine Reg.N_step (o := { dst := some 5, op := Op.alloc 29, type := 0, pos := "law.go:43", after := #[], guard := Option.none }) (by rfl) ?_ (fun K hK => ?_) ?_
    · kernel_rfl
    · go_simp
      refine hK.out _ _ (HS.out _ (hb.alloc hb.size _)) (fun _ => ?_)
      clear hK
      try simp only [Act.put, List.setIfInBounds_toArray, List.set_cons_zero, List.set_cons_succ]
      have HH := HKH_15_16.out w9.heap.size b16 _ (hb.alloc hb.size _) ⟨heap_alloc_new _ _, hb.size⟩ ⟨blk_alloc f16.1 _, f16.2⟩ (Nat.ne_of_gt (blk_lt f16.1))
      rw [HWN.out, HA0.out] at HH
      simp only [upA, List.take_succ_cons, List.take_zero, List.drop_succ_cons, List.drop_zero, List.cons_append, List.nil_append] at HH
      exact HH
    refine Reg.N_step (o := { dst := some 7, op := Op.alloc 29, type := 0, pos := "law.go:43", after := #[], guard := Option.none }) (by rfl) ?_ (fun K hK => ?_) ?_
    · kernel_rfl
    · go_simp
      refine hK.out _ _ (HS.out _ (hb.alloc hb.size _)) (fun _ => ?_)
      clear hK
      try simp only [Act.put, List.setIfInBounds_toArray, List.set_cons_zero, List.set_cons_succ]
      have HH := HKH_16_17.out b16 w9.heap.size _ (hb.alloc hb.size _) ⟨blk_alloc f16.1 _, f16.2⟩ ⟨heap_alloc_new _ _, hb.size⟩ (Nat.ne_of_lt (blk_lt f16.1))
      rw [HWN.out, HA0.out] at HH
      simp only [upA, List.take_succ_cons, List.take_zero, List.drop_succ_cons, List.drop_zero, List.cons_append, List.nil_append] at HH
      exact HH
    exact Reg.N_none
  have HKH_16 := Lib.hid H_16
  clear H_16
  have H_17 : ∀ (b17 : Nat) (w9 : World), Below W1.drew.heap.size W1.drew w9 → (w9.heap[b17]? = some (.cells #[.int .i64 0, .bool false, .int .u64 0, .string ⟨#[]⟩] 29 (0, 0)) ∧ W1.drew.heap.size ≤ b17) → WN (.alt 4 (.alt 9 (.alt 14 (.alt 15 (.alt 16 (.alt 18 (.alt 19 (.alt 20 .done .none) .none) .none) .none) (.alt 16 (.alt 15 (.alt 18 (.alt 19 (.alt 20 .done .none) .none) .none) .none) .none)) (.alt 15 (.alt 14 (.alt 16 (.alt 18 (.alt 19 (.alt 20 .done .none) .none) .none) .none) (.alt 16 (.alt 14 (.alt 18 (.alt 19 (.alt 20 .done .none) .none) .none) .none) .none)) (.alt 16 (.alt 14 (.alt 15 (.alt 18 (.alt 19 (.alt 20 .done .none) .none) .none) .none) (.alt 15 (.alt 14 (.alt 18 (.alt 19 (.alt 20 .done .none) .none) .none) .none) .none)) .none))) (.alt 15 (.alt 9 (.alt 14 (.alt 16 (.alt 18 (.alt 19 (.alt 20 .done .none) .none) .none) .none) (.alt 16 (.alt 14 (.alt 18 (.alt 19 (.alt 20 .done .none) .none) .none) .none) .none)) (.alt 16 (.alt 9 (.alt 14 (.alt 18 (.alt 19 (.alt 20 .done .none) .none) .none) .none) .none) .none)) (.alt 16 (.alt 9 (.alt 14 (.alt 15 (.alt 18 (.alt 19 (.alt 20 .done .none) .none) .none) .none) (.alt 15 (.alt 14 (.alt 18 (.alt 19 (.alt 20 .done .none) .none) .none) .none) .none)) (.alt 15 (.alt 9 (.alt 14 (.alt 18 (.alt 19 (.alt 20 .done .none) .none) .none) .none) .none) .none)) .none))) (.alt 15 (.alt 4 (.alt 9 (.alt 14 (.alt 16 (.alt 18 (.alt 19 (.alt 20 .done .none) .none) .none) .none) (.alt 16 (.alt 14 (.alt 18 (.alt 19 (.alt 20 .done .none) .none) .none) .none) .none)) (.alt 16 (.alt 9 (.alt 14 (.alt 18 (.alt 19 (.alt 20 .done .none) .none) .none) .none) .none) .none)) (.alt 16 (.alt 4 (.alt 9 (.alt 14 (.alt 18 (.alt 19 (.alt 20 .done .none) .none) .none) .none) .none) .none) .none)) (.alt 16 (.alt 4 (.alt 9 (.alt 14 (.alt 15 (.alt 18 (.alt 19 (.alt 20 .done .none) .none) .none) .none) (.alt 15 (.alt 14 (.alt 18 (.alt 19 (.alt 20 .done .none) .none) .none) .none) .none)) (.alt 15 (.alt 9 (.alt 14 (.alt 18 (.alt 19 (.alt 20 .done .none) .none) .none) .none) .none) .none)) (.alt 15 (.alt 4 (.alt 9 (.alt 14 (.alt 18 (.alt 19 (.alt 20 .done .none) .none) .none) .none) .none) .none) .none)) .none))) { tmps := (upA a0.tmps.toList (undef) (undef) (.pointer (some ⟨b17, 0, none⟩)) (undef) (undef) (undef)).toArray, defers := a0.defers } w9 := by
    intro b17 w9 hb f17
    rw [HWN.out, HA0.out]
    simp only [upA, List.take_succ_cons, List.take_zero, List.drop_succ_cons, List.drop_zero, List.cons_append, List.nil_append]
    refine Reg.N_step (o := { dst := some 16, op := Op.call { callee := Callee.value (Operand.func 21), args := #[Operand.tmp 13, Operand.tmp 15], argTypes := #[3, 22] }, type := 29, pos := "law.go:43", after := #[{ on := 1, ground := Ground.data }, { on := 3, ground := Ground.data }], guard := Option.none }) (by rfl) ?_ (fun K hK => ?_) ?_
    · kernel_rfl
    · go_simp
      refine (HA _).mono ?_
      rintro e w10 ⟨rfl, b10⟩
      refine hK.out _ _ (HS.out _ (bstep hb b10)) (fun _ => ?_)
      clear hK
      try simp only [Act.put, List.setIfInBounds_toArray, List.set_cons_zero, List.set_cons_succ]
      have HH := HKH_4_17.out b17 w10 (bstep hb b10) ⟨blk_below f17.1 b10, f17.2⟩
      rw [HWN.out, HA0.out] at HH
      simp only [upA, List.take_succ_cons, List.take_zero, List.drop_succ_cons, List.drop_zero, List.cons_append, List.nil_append] at HH
      exact HH
    refine Reg.N_step (o := { dst := some 5, op := Op.alloc 29, type := 0, pos := "law.go:43", after := #[], guard := Option.none }) (by rfl) ?_ (fun K hK => ?_) ?_
    · kernel_rfl
    · go_simp
      refine hK.out _ _ (HS.out _ (hb.alloc hb.size _)) (fun _ => ?_)
      clear hK
      try simp only [Act.put, List.setIfInBounds_toArray, List.set_cons_zero, List.set_cons_succ]
      have HH := HKH_15_17.out w9.heap.size b17 _ (hb.alloc hb.size _) ⟨heap_alloc_new _ _, hb.size⟩ ⟨blk_alloc f17.1 _, f17.2⟩ (Nat.ne_of_gt (blk_lt f17.1))
      rw [HWN.out, HA0.out] at HH
      simp only [upA, List.take_succ_cons, List.take_zero, List.drop_succ_cons, List.drop_zero, List.cons_append, List.nil_append] at HH
      exact HH
    refine Reg.N_step (o := { dst := some 6, op := Op.alloc 29, type := 0, pos := "law.go:43", after := #[], guard := Option.none }) (by rfl) ?_ (fun K hK => ?_) ?_
    · kernel_rfl
    · go_simp
      refine hK.out _ _ (HS.out _ (hb.alloc hb.size _)) (fun _ => ?_)
      clear hK
      try simp only [Act.put, List.setIfInBounds_toArray, List.set_cons_zero, List.set_cons_succ]
      have HH := HKH_16_17.out w9.heap.size b17 _ (hb.alloc hb.size _) ⟨heap_alloc_new _ _, hb.size⟩ ⟨blk_alloc f17.1 _, f17.2⟩ (Nat.ne_of_gt (blk_lt f17.1))
      rw [HWN.out, HA0.out] at HH
      simp only [upA, List.take_succ_cons, List.take_zero, List.drop_succ_cons, List.drop_zero, List.cons_append, List.nil_append] at HH
      exact HH
    exact Reg.N_none
  have HKH_17 := Lib.hid H_17
  clear H_17
  have H_0 : ∀ (w9 : World), Below W1.drew.heap.size W1.drew w9 → WN (.alt 4 (.alt 9 (.alt 14 (.alt 15 (.alt 16 (.alt 17 (.alt 18 (.alt 19 (.alt 20 .done .none) .none) .none) .none) (.alt 17 (.alt 16 (.alt 18 (.alt 19 (.alt 20 .done .none) .none) .none) .none) .none)) (.alt 16 (.alt 15 (.alt 17 (.alt 18 (.alt 19 (.alt 20 .done .none) .none) .none) .none) (.alt 17 (.alt 15 (.alt 18 (.alt 19 (.alt 20 .done .none) .none) .none) .none) .none)) (.alt 17 (.alt 15 (.alt 16 (.alt 18 (.alt 19 (.alt 20 .done .none) .none) .none) .none) (.alt 16 (.alt 15 (.alt 18 (.alt 19 (.alt 20 .done .none) .none) .none) .none) .none)) .none))) (.alt 15 (.alt 14 (.alt 16 (.alt 17 (.alt 18 (.alt 19 (.alt 20 .done .none) .none) .none) .none) (.alt 17 (.alt 16 (.alt 18 (.alt 19 (.alt 20 .done .none) .none) .none) .none) .none)) (.alt 16 (.alt 14 (.alt 17 (.alt 18 (.alt 19 (.alt 20 .done .none) .none) .none) .none) (.alt 17 (.alt 14 (.alt 18 (.alt 19 (.alt 20 .done .none) .none) .none) .none) .none)) (.alt 17 (.alt 14 (.alt 16 (.alt 18 (.alt 19 (.alt 20 .done .none) .none) .none) .none) (.alt 16 (.alt 14 (.alt 18 (.alt 19 (.alt 20 .done .none) .none) .none) .none) .none)) .none))) (.alt 16 (.alt 14 (.alt 15 (.alt 17 (.alt 18 (.alt 19 (.alt 20 .done .none) .none) .none) .none) (.alt 17 (.alt 15 (.alt 18 (.alt 19 (.alt 20 .done .none) .none) .none) .none) .none)) (.alt 15 (.alt 14 (.alt 17 (.alt 18 (.alt 19 (.alt 20 .done .none) .none) .none) .none) (.alt 17 (.alt 14 (.alt 18 (.alt 19 (.alt 20 .done .none) .none) .none) .none) .none)) (.alt 17 (.alt 14 (.alt 15 (.alt 18 (.alt 19 (.alt 20 .done .none) .none) .none) .none) (.alt 15 (.alt 14 (.alt 18 (.alt 19 (.alt 20 .done .none) .none) .none) .none) .none)) .none))) (.alt 17 (.alt 14 (.alt 15 (.alt 16 (.alt 18 (.alt 19 (.alt 20 .done .none) .none) .none) .none) (.alt 16 (.alt 15 (.alt 18 (.alt 19 (.alt 20 .done .none) .none) .none) .none) .none)) (.alt 15 (.alt 14 (.alt 16 (.alt 18 (.alt 19 (.alt 20 .done .none) .none) .none) .none) (.alt 16 (.alt 14 (.alt 18 (.alt 19 (.alt 20 .done .none) .none) .none) .none) .none)) (.alt 16 (.alt 14 (.alt 15 (.alt 18 (.alt 19 (.alt 20 .done .none) .none) .none) .none) (.alt 15 (.alt 14 (.alt 18 (.alt 19 (.alt 20 .done .none) .none) .none) .none) .none)) .none))) .none)))) (.alt 15 (.alt 9 (.alt 14 (.alt 16 (.alt 17 (.alt 18 (.alt 19 (.alt 20 .done .none) .none) .none) .none) (.alt 17 (.alt 16 (.alt 18 (.alt 19 (.alt 20 .done .none) .none) .none) .none) .none)) (.alt 16 (.alt 14 (.alt 17 (.alt 18 (.alt 19 (.alt 20 .done .none) .none) .none) .none) (.alt 17 (.alt 14 (.alt 18 (.alt 19 (.alt 20 .done .none) .none) .none) .none) .none)) (.alt 17 (.alt 14 (.alt 16 (.alt 18 (.alt 19 (.alt 20 .done .none) .none) .none) .none) (.alt 16 (.alt 14 (.alt 18 (.alt 19 (.alt 20 .done .none) .none) .none) .none) .none)) .none))) (.alt 16 (.alt 9 (.alt 14 (.alt 17 (.alt 18 (.alt 19 (.alt 20 .done .none) .none) .none) .none) (.alt 17 (.alt 14 (.alt 18 (.alt 19 (.alt 20 .done .none) .none) .none) .none) .none)) (.alt 17 (.alt 9 (.alt 14 (.alt 18 (.alt 19 (.alt 20 .done .none) .none) .none) .none) .none) .none)) (.alt 17 (.alt 9 (.alt 14 (.alt 16 (.alt 18 (.alt 19 (.alt 20 .done .none) .none) .none) .none) (.alt 16 (.alt 14 (.alt 18 (.alt 19 (.alt 20 .done .none) .none) .none) .none) .none)) (.alt 16 (.alt 9 (.alt 14 (.alt 18 (.alt 19 (.alt 20 .done .none) .none) .none) .none) .none) .none)) .none))) (.alt 16 (.alt 9 (.alt 14 (.alt 15 (.alt 17 (.alt 18 (.alt 19 (.alt 20 .done .none) .none) .none) .none) (.alt 17 (.alt 15 (.alt 18 (.alt 19 (.alt 20 .done .none) .none) .none) .none) .none)) (.alt 15 (.alt 14 (.alt 17 (.alt 18 (.alt 19 (.alt 20 .done .none) .none) .none) .none) (.alt 17 (.alt 14 (.alt 18 (.alt 19 (.alt 20 .done .none) .none) .none) .none) .none)) (.alt 17 (.alt 14 (.alt 15 (.alt 18 (.alt 19 (.alt 20 .done .none) .none) .none) .none) (.alt 15 (.alt 14 (.alt 18 (.alt 19 (.alt 20 .done .none) .none) .none) .none) .none)) .none))) (.alt 15 (.alt 9 (.alt 14 (.alt 17 (.alt 18 (.alt 19 (.alt 20 .done .none) .none) .none) .none) (.alt 17 (.alt 14 (.alt 18 (.alt 19 (.alt 20 .done .none) .none) .none) .none) .none)) (.alt 17 (.alt 9 (.alt 14 (.alt 18 (.alt 19 (.alt 20 .done .none) .none) .none) .none) .none) .none)) (.alt 17 (.alt 9 (.alt 14 (.alt 15 (.alt 18 (.alt 19 (.alt 20 .done .none) .none) .none) .none) (.alt 15 (.alt 14 (.alt 18 (.alt 19 (.alt 20 .done .none) .none) .none) .none) .none)) (.alt 15 (.alt 9 (.alt 14 (.alt 18 (.alt 19 (.alt 20 .done .none) .none) .none) .none) .none) .none)) .none))) (.alt 17 (.alt 9 (.alt 14 (.alt 15 (.alt 16 (.alt 18 (.alt 19 (.alt 20 .done .none) .none) .none) .none) (.alt 16 (.alt 15 (.alt 18 (.alt 19 (.alt 20 .done .none) .none) .none) .none) .none)) (.alt 15 (.alt 14 (.alt 16 (.alt 18 (.alt 19 (.alt 20 .done .none) .none) .none) .none) (.alt 16 (.alt 14 (.alt 18 (.alt 19 (.alt 20 .done .none) .none) .none) .none) .none)) (.alt 16 (.alt 14 (.alt 15 (.alt 18 (.alt 19 (.alt 20 .done .none) .none) .none) .none) (.alt 15 (.alt 14 (.alt 18 (.alt 19 (.alt 20 .done .none) .none) .none) .none) .none)) .none))) (.alt 15 (.alt 9 (.alt 14 (.alt 16 (.alt 18 (.alt 19 (.alt 20 .done .none) .none) .none) .none) (.alt 16 (.alt 14 (.alt 18 (.alt 19 (.alt 20 .done .none) .none) .none) .none) .none)) (.alt 16 (.alt 9 (.alt 14 (.alt 18 (.alt 19 (.alt 20 .done .none) .none) .none) .none) .none) .none)) (.alt 16 (.alt 9 (.alt 14 (.alt 15 (.alt 18 (.alt 19 (.alt 20 .done .none) .none) .none) .none) (.alt 15 (.alt 14 (.alt 18 (.alt 19 (.alt 20 .done .none) .none) .none) .none) .none)) (.alt 15 (.alt 9 (.alt 14 (.alt 18 (.alt 19 (.alt 20 .done .none) .none) .none) .none) .none) .none)) .none))) .none)))) (.alt 15 (.alt 4 (.alt 9 (.alt 14 (.alt 16 (.alt 17 (.alt 18 (.alt 19 (.alt 20 .done .none) .none) .none) .none) (.alt 17 (.alt 16 (.alt 18 (.alt 19 (.alt 20 .done .none) .none) .none) .none) .none)) (.alt 16 (.alt 14 (.alt 17 (.alt 18 (.alt 19 (.alt 20 .done .none) .none) .none) .none) (.alt 17 (.alt 14 (.alt 18 (.alt 19 (.alt 20 .done .none) .none) .none) .none) .none)) (.alt 17 (.alt 14 (.alt 16 (.alt 18 (.alt 19 (.alt 20 .done .none) .none) .none) .none) (.alt 16 (.alt 14 (.alt 18 (.alt 19 (.alt 20 .done .none) .none) .none) .none) .none)) .none))) (.alt 16 (.alt 9 (.alt 14 (.alt 17 (.alt 18 (.alt 19 (.alt 20 .done .none) .none) .none) .none) (.alt 17 (.alt 14 (.alt 18 (.alt 19 (.alt 20 .done .none) .none) .none) .none) .none)) (.alt 17 (.alt 9 (.alt 14 (.alt 18 (.alt 19 (.alt 20 .done .none) .none) .none) .none) .none) .none)) (.alt 17 (.alt 9 (.alt 14 (.alt 16 (.alt 18 (.alt 19 (.alt 20 .done .none) .none) .none) .none) (.alt 16 (.alt 14 (.alt 18 (.alt 19 (.alt 20 .done .none) .none) .none) .none) .none)) (.alt 16 (.alt 9 (.alt 14 (.alt 18 (.alt 19 (.alt 20 .done .none) .none) .none) .none) .none) .none)) .none))) (.alt 16 (.alt 4 (.alt 9 (.alt 14 (.alt 17 (.alt 18 (.alt 19 (.alt 20 .done .none) .none) .none) .none) (.alt 17 (.alt 14 (.alt 18 (.alt 19 (.alt 20 .done .none) .none) .none) .none) .none)) (.alt 17 (.alt 9 (.alt 14 (.alt 18 (.alt 19 (.alt 20 .done .none) .none) .none) .none) .none) .none)) (.alt 17 (.alt 4 (.alt 9 (.alt 14 (.alt 18 (.alt 19 (.alt 20 .done .none) .none) .none) .none) .none) .none) .none)) (.alt 17 (.alt 4 (.alt 9 (.alt 14 (.alt 16 (.alt 18 (.alt 19 (.alt 20 .done .none) .none) .none) .none) (.alt 16 (.alt 14 (.alt 18 (.alt 19 (.alt 20 .done .none) .none) .none) .none) .none)) (.alt 16 (.alt 9 (.alt 14 (.alt 18 (.alt 19 (.alt 20 .done .none) .none) .none) .none) .none) .none)) (.alt 16 (.alt 4 (.alt 9 (.alt 14 (.alt 18 (.alt 19 (.alt 20 .done .none) .none) .none) .none) .none) .none) .none)) .none))) (.alt 16 (.alt 4 (.alt 9 (.alt 14 (.alt 15 (.alt 17 (.alt 18 (.alt 19 (.alt 20 .done .none) .none) .none) .none) (.alt 17 (.alt 15 (.alt 18 (.alt 19 (.alt 20 .done .none) .none) .none) .none) .none)) (.alt 15 (.alt 14 (.alt 17 (.alt 18 (.alt 19 (.alt 20 .done .none) .none) .none) .none) (.alt 17 (.alt 14 (.alt 18 (.alt 19 (.alt 20 .done .none) .none) .none) .none) .none)) (.alt 17 (.alt 14 (.alt 15 (.alt 18 (.alt 19 (.alt 20 .done .none) .none) .none) .none) (.alt 15 (.alt 14 (.alt 18 (.alt 19 (.alt 20 .done .none) .none) .none) .none) .none)) .none))) (.alt 15 (.alt 9 (.alt 14 (.alt 17 (.alt 18 (.alt 19 (.alt 20 .done .none) .none) .none) .none) (.alt 17 (.alt 14 (.alt 18 (.alt 19 (.alt 20 .done .none) .none) .none) .none) .none)) (.alt 17 (.alt 9 (.alt 14 (.alt 18 (.alt 19 (.alt 20 .done .none) .none) .none) .none) .none) .none)) (.alt 17 (.alt 9 (.alt 14 (.alt 15 (.alt 18 (.alt 19 (.alt 20 .done .none) .none) .none) .none) (.alt 15 (.alt 14 (.alt 18 (.alt 19 (.alt 20 .done .none) .none) .none) .none) .none)) (.alt 15 (.alt 9 (.alt 14 (.alt 18 (.alt 19 (.alt 20 .done .none) .none) .none) .none) .none) .none)) .none))) (.alt 15 (.alt 4 (.alt 9 (.alt 14 (.alt 17 (.alt 18 (.alt 19 (.alt 20 .done .none) .none) .none) .none) (.alt 17 (.alt 14 (.alt 18 (.alt 19 (.alt 20 .done .none) .none) .none) .none) .none)) (.alt 17 (.alt 9 (.alt 14 (.alt 18 (.alt 19 (.alt 20 .done .none) .none) .none) .none) .none) .none)) (.alt 17 (.alt 4 (.alt 9 (.alt 14 (.alt 18 (.alt 19 (.alt 20 .done .none) .none) .none) .none) .none) .none) .none)) (.alt 17 (.alt 4 (.alt 9 (.alt 14 (.alt 15 (.alt 18 (.alt 19 (.alt 20 .done .none) .none) .none) .none) (.alt 15 (.alt 14 (.alt 18 (.alt 19 (.alt 20 .done .none) .none) .none) .none) .none)) (.alt 15 (.alt 9 (.alt 14 (.alt 18 (.alt 19 (.alt 20 .done .none) .none) .none) .none) .none) .none)) (.alt 15 (.alt 4 (.alt 9 (.alt 14 (.alt 18 (.alt 19 (.alt 20 .done .none) .none) .none) .none) .none) .none) .none)) .none))) (.alt 17 (.alt 4 (.alt 9 (.alt 14 (.alt 15 (.alt 16 (.alt 18 (.alt 19 (.alt 20 .done .none) .none) .none) .none) (.alt 16 (.alt 15 (.alt 18 (.alt 19 (.alt 20 .done .none) .none) .none) .none) .none)) (.alt 15 (.alt 14 (.alt 16 (.alt 18 (.alt 19 (.alt 20 .done .none) .none) .none) .none) (.alt 16 (.alt 14 (.alt 18 (.alt 19 (.alt 20 .done .none) .none) .none) .none) .none)) (.alt 16 (.alt 14 (.alt 15 (.alt 18 (.alt 19 (.alt 20 .done .none) .none) .none) .none) (.alt 15 (.alt 14 (.alt 18 (.alt 19 (.alt 20 .done .none) .none) .none) .none) .none)) .none))) (.alt 15 (.alt 9 (.alt 14 (.alt 16 (.alt 18 (.alt 19 (.alt 20 .done .none) .none) .none) .none) (.alt 16 (.alt 14 (.alt 18 (.alt 19 (.alt 20 .done .none) .none) .none) .none) .none)) (.alt 16 (.alt 9 (.alt 14 (.alt 18 (.alt 19 (.alt 20 .done .none) .none) .none) .none) .none) .none)) (.alt 16 (.alt 9 (.alt 14 (.alt 15 (.alt 18 (.alt 19 (.alt 20 .done .none) .none) .none) .none) (.alt 15 (.alt 14 (.alt 18 (.alt 19 (.alt 20 .done .none) .none) .none) .none) .none)) (.alt 15 (.alt 9 (.alt 14 (.alt 18 (.alt 19 (.alt 20 .done .none) .none) .none) .none) .none) .none)) .none))) (.alt 15 (.alt 4 (.alt 9 (.alt 14 (.alt 16 (.alt 18 (.alt 19 (.alt 20 .done .none) .none) .none) .none) (.alt 16 (.alt 14 (.alt 18 (.alt 19 (.alt 20 .done .none) .none) .none) .none) .none)) (.alt 16 (.alt 9 (.alt 14 (.alt 18 (.alt 19 (.alt 20 .done .none) .none) .none) .none) .none) .none)) (.alt 16 (.alt 4 (.alt 9 (.alt 14 (.alt 18 (.alt 19 (.alt 20 .done .none) .none) .none) .none) .none) .none) .none)) (.alt 16 (.alt 4 (.alt 9 (.alt 14 (.alt 15 (.alt 18 (.alt 19 (.alt 20 .done .none) .none) .none) .none) (.alt 15 (.alt 14 (.alt 18 (.alt 19 (.alt 20 .done .none) .none) .none) .none) .none)) (.alt 15 (.alt 9 (.alt 14 (.alt 18 (.alt 19 (.alt 20 .done .none) .none) .none) .none) .none) .none)) (.alt 15 (.alt 4 (.alt 9 (.alt 14 (.alt 18 (.alt 19 (.alt 20 .done .none) .none) .none) .none) .none) .none) .none)) .none))) .none)))) { tmps := (upA a0.tmps.toList (undef) (undef) (undef) (undef) (undef) (undef)).toArray, defers := a0.defers } w9 := by
    intro w9 hb
    rw [HWN.out, HA0.out]
    simp only [upA, List.take_succ_cons, List.take_zero, List.drop_succ_cons, List.drop_zero, List.cons_append, List.nil_append]
    refine Reg.N_step (o := { dst := some 16, op := Op.call { callee := Callee.value (Operand.func 21), args := #[Operand.tmp 13, Operand.tmp 15], argTypes := #[3, 22] }, type := 29, pos := "law.go:43", after := #[{ on := 1, ground := Ground.data }, { on := 3, ground := Ground.data }], guard := Option.none }) (by rfl) ?_ (fun K hK => ?_) ?_
    · kernel_rfl
    · go_simp
      refine (HA _).mono ?_
      rintro e w10 ⟨rfl, b10⟩
      refine hK.out _ _ (HS.out _ (bstep hb b10)) (fun _ => ?_)
      clear hK
      try simp only [Act.put, List.setIfInBounds_toArray, List.set_cons_zero, List.set_cons_succ]
      have HH := HKH_4.out w10 (bstep hb b10)
      rw [HWN.out, HA0.out] at HH
      simp only [upA, List.take_succ_cons, List.take_zero, List.drop_succ_cons, List.drop_zero, List.cons_append, List.nil_append] at HH
      exact HH
    refine Reg.N_step (o := { dst := some 5, op := Op.alloc 29, type := 0, pos := "law.go:43", after := #[], guard := Option.none }) (by rfl) ?_ (fun K hK => ?_) ?_
    · kernel_rfl
    · go_simp
      refine hK.out _ _ (HS.out _ (hb.alloc hb.size _)) (fun _ => ?_)
      clear hK
      try simp only [Act.put, List.setIfInBounds_toArray, List.set_cons_zero, List.set_cons_succ]
      have HH := HKH_15.out w9.heap.size _ (hb.alloc hb.size _) ⟨heap_alloc_new _ _, hb.size⟩
      rw [HWN.out, HA0.out] at HH
      simp only [upA, List.take_succ_cons, List.take_zero, List.drop_succ_cons, List.drop_zero, List.cons_append, List.nil_append] at HH
      exact HH
    refine Reg.N_step (o := { dst := some 6, op := Op.alloc 29, type := 0, pos := "law.go:43", after := #[], guard := Option.none }) (by rfl) ?_ (fun K hK => ?_) ?_
    · kernel_rfl
    · go_simp
      refine hK.out _ _ (HS.out _ (hb.alloc hb.size _)) (fun _ => ?_)
      clear hK
      try simp only [Act.put, List.setIfInBounds_toArray, List.set_cons_zero, List.set_cons_succ]
      have HH := HKH_16.out w9.heap.size _ (hb.alloc hb.size _) ⟨heap_alloc_new _ _, hb.size⟩
      rw [HWN.out, HA0.out] at HH
      simp only [upA, List.take_succ_cons, List.take_zero, List.drop_succ_cons, List.drop_zero, List.cons_append, List.nil_append] at HH
      exact HH
    refine Reg.N_step (o := { dst := some 7, op := Op.alloc 29, type := 0, pos := "law.go:43", after := #[], guard := Option.none }) (by rfl) ?_ (fun K hK => ?_) ?_
    · kernel_rfl
    · go_simp
      refine hK.out _ _ (HS.out _ (hb.alloc hb.size _)) (fun _ => ?_)
      clear hK
      try simp only [Act.put, List.setIfInBounds_toArray, List.set_cons_zero, List.set_cons_succ]
      have HH := HKH_17.out w9.heap.size _ (hb.alloc hb.size _) ⟨heap_alloc_new _ _, hb.size⟩
      rw [HWN.out, HA0.out] at HH
      simp only [upA, List.take_succ_cons, List.take_zero, List.drop_succ_cons, List.drop_zero, List.cons_append, List.nil_append] at HH
      exact HH
    exact Reg.N_none
  have HKH_0 := Lib.hid H_0
  clear H_0
  have HH := HKH_0.out _ (Below.refl _ _)
  rw [HA0.out] at HH
  simp only [upA, List.take_succ_cons, List.take_zero, List.drop_succ_cons, List.drop_zero, List.cons_append, List.nil_append] at HH
  rw [HA0.out]
  exact HH
end Go.Proofs.Ytflkefabbdelaaa.Prim
