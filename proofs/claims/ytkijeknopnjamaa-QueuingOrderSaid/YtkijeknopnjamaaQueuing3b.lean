import Derived.Test.YtkijeknopnjamaaQueuing3
set_option linter.unusedVariables false
set_option linter.unusedSimpArgs false
namespace Go.Proofs.Ytkijeknopnjamaa.Queuing
open Go.RowKit Base Sp Flat Go.Proofs.YtkijeknopnjamaaW.PrintWords
set_option maxRecDepth 20000 in
set_option maxHeartbeats 2000000 in
theorem rsend_cut (G : Nat → Prop) (z d q : Int) (a : ByteArray) (r : List ByteArray) (s x : Int) (m : ByteArray) (v : Value) (w : World) (hr : Rd Kd.string w G v (a :: r)) (hG : ∀ k, G k → k < w.heap.size) (h : (m.size : Int) ≤ z) (hs : s < q) (hs0 : 0 ≤ s) (hq : q < 9223372036854775808) (hx0 : 0 ≤ x) (hx : x ≤ 1000)
    (hl : (a :: r).length ≤ 1000) (hd : ((a :: r).length : Int) = d) :
    Calls Try.prog 36 #[.agg #[.int .i64 z, .int .i64 d, .int .i64 q, v, .int .i64 s, .int .u64 x], .string m] w (RS G z d q (r ++ [m]) (s + 1) (x + 1) 0 w) := by
  have hw : IntKind.i64.wrap (s + 1) = s + 1 := wrapi64 (by omega) (by omega)
  have hw2 : IntKind.u64.wrap (x + 1) = x + 1 := wrapu64 (by omega) (by omega)
  have hlr : (a :: r).length = r.length + 1 := rfl
  subst hd
  obtain ⟨d, hd⟩ : ∃ d : Int, d = ((a :: r).length : Int) := ⟨_, rfl⟩
  have hdd : (d == 0) = false := by simp; omega
  have hdl : (((r.length : Int) + 1) == d) = true := by simp; omega
  rw [← hd]
  clear hq hd
  obtain ⟨A, c, rfl, hlc, hC⟩ := hr.get
  obtain ⟨W, hW⟩ : ∃ W, W = ((w.alloc (.cells #[.int .i64 z, .int .i64 d, .int .i64 q, .slice A (a :: r).length c, .int .i64 (s + 1), .int .u64 x] 69)).alloc (.cells #[.int .i64 0, .int .i64 0, .int .i64 0, .slice none 0 0, .int .i64 0, .int .u64 0] 69)).alloc (.cells #[] 9) := ⟨_, rfl⟩
  have hbW : Below w.heap.size w W := by rw [hW]; exact (((Below.refl _ _).alloc (Nat.le_refl _) _).alloc (by simp) _).alloc (by simp; omega) _
  have hWs : W.heap.size = w.heap.size + 3 := by rw [hW]; simp
  have h0 : W.heap[w.heap.size]? = some (.cells #[.int .i64 z, .int .i64 d, .int .i64 q, .slice A (a :: r).length c, .int .i64 (s + 1), .int .u64 x] 69 (0, 0)) := by
    rw [hW, Below.heap_alloc _ _ _ (by simp; omega), Below.heap_alloc _ _ _ (by simp)]
    exact heap_alloc_new _ _
  have h1 : W.heap[w.heap.size + 1]? = some (.cells #[.int .i64 0, .int .i64 0, .int .i64 0, .slice none 0 0, .int .i64 0, .int .u64 0] 69 (0, 0)) := by
    rw [hW, Below.heap_alloc _ _ _ (by simp)]
    simpa using heap_alloc_new (w.alloc (.cells #[.int .i64 z, .int .i64 d, .int .i64 q, .slice A (a :: r).length c, .int .i64 (s + 1), .int .u64 x] 69)) (.cells #[.int .i64 0, .int .i64 0, .int .i64 0, .slice none 0 0, .int .i64 0, .int .u64 0] 69)
  have h2 : W.heap[w.heap.size + 2]? = some (.cells #[] 9 (0, 0)) := by
    rw [hW]
    simpa using heap_alloc_new ((w.alloc (.cells #[.int .i64 z, .int .i64 d, .int .i64 q, .slice A (a :: r).length c, .int .i64 (s + 1), .int .u64 x] 69)).alloc (.cells #[.int .i64 0, .int .i64 0, .int .i64 0, .slice none 0 0, .int .i64 0, .int .u64 0] 69)) (.cells #[] 9)
  obtain ⟨v1, w1, hrun1, ho1, hg1⟩ := Own.copied (P := Try.prog) flat_string 67 67 (.string ⟨#[]⟩) 16 Try.underlying67 (by kernel_rfl) (by kernel_rfl) rfl (by decide) (by decide) h2 (a :: r) A c (hr.same flat_string (Same.of hbW hG)) (by omega)
  rw [hW] at hrun1
  have HR1 := Lib.hid hrun1
  have a0 := (hg1.block (w.heap.size) (by omega) (by intro h; injection h with h; omega)).trans h0
  have a1 := (hg1.block (w.heap.size + 1) (by omega) (by intro h; injection h with h; omega)).trans h1
  have hb1 : Below w.heap.size w w1 := hbW.grown hg1 (by omega) (fun k hk => by injection hk with hk; omega)
  have hs1 := hg1.size
  clear hrun1 hW
  obtain ⟨A1, c1, rfl, hl1, hC1⟩ := ho1.rd.get
  have hsl := cut_from (P := Try.prog) 67 9 .i64 Try.underlying67 (i := Try.t9) (by kernel_rfl) 1 (by kernel_rfl) A1 (a :: r).length c1 1 (by decide) (by simp; omega)
  have ho1 := ho1.drop (k := 1) (by simp)
  simp only [List.drop_succ_cons, List.drop_zero] at ho1
  obtain ⟨vs, hvs⟩ : ∃ vs, vs = Value.slice (if c1 = 1 then A1 else A1.map (·.add (1 * (Kd.string).sz))) ((a :: r).length - 1) (c1 - 1) := ⟨_, rfl⟩
  rw [← hvs] at ho1
  have hsl : ∀ W : World, (Instr.slice 67 (.slice A1 (r.length + 1) c1) (some (.int .i64 1)) Option.none Option.none).run Try.prog W = .ok vs W := by
    intro W
    rw [hvs]
    exact hsl W
  clear hvs
  obtain ⟨W1, hW1⟩ : ∃ W1, W1 = w1.setCell ⟨w.heap.size, 5, none⟩ (.int .u64 (x + 1)) := ⟨_, rfl⟩
  have ho1 : Own Kd.string 9 W1 (fun k => k = w.heap.size + 2 ∨ (W.heap.size ≤ k ∧ k < w1.heap.size)) vs r := by
    rw [hW1]
    exact ho1.set flat_string (fun h => h.elim (fun h => by have h : w.heap.size = w.heap.size + 2 := h; omega) (fun h => by have h : W.heap.size ≤ w.heap.size := h.1; omega))
  have hs1' : W1.heap.size = w1.heap.size := by rw [hW1]; simp
  have pf5 := blk_frozen a0 5
  have A0 := blk_set a0 5 (.int .u64 (x + 1))
  simp only [List.setIfInBounds_toArray, List.set_cons_zero, List.set_cons_succ] at A0
  have A1' := (Below.heap_setCell w1 ⟨w.heap.size, 5, none⟩ (.int .u64 (x + 1)) (w.heap.size + 1) (by show w.heap.size + 1 ≠ w.heap.size; omega)).trans a1
  rw [← hW1] at A0 A1'
  have hB1 : Below w.heap.size w W1 := by rw [hW1]; exact hb1.setCell (Nat.le_refl _) _
  obtain ⟨v2, w2, hrun2, ho2, hg2, hs2⟩ := ho1.append (P := Try.prog) flat_string 67 67 (.string ⟨#[]⟩) 16 Try.underlying67 (by kernel_rfl) rfl (by decide) (by decide) m [.string m] rfl (fun k hk => by omega) (by omega)
  rw [hs1', hW1] at hrun2
  have HR2 := Lib.hid hrun2
  have hne : ∀ k, k < w.heap.size + 2 → some k ≠ vs.ownBlock := fun k hk => ho1.away (by omega)
  have b0 := (hg2.block (w.heap.size) (by omega) (hne _ (by omega))).trans A0
  have b1 := (hg2.block (w.heap.size + 1) (by omega) (hne _ (by omega))).trans A1'
  have hb2 : Below w.heap.size w w2 := hB1.grown hg2 (by omega) (fun k hk => by have := ho1.base k hk; omega)
  obtain ⟨As, cs, rfl, hls, hCs⟩ := ho1.rd.get
  obtain ⟨A2, c2, rfl, hl2, hC2⟩ := ho2.rd.get
  have hlen : (r ++ [m]).length = r.length + 1 := by simp
  have hfin : Rd Kd.string w2 (fun k => G k ∨ (w.heap.size + 2 ≤ k ∧ k < w2.heap.size)) (.slice A2 (r ++ [m]).length c2) (r ++ [m]) := ho2.rd.mono (fun k hk => .inr (by omega))
  have HG := Lib.hid hG
  clear hW1 A0 A1' hB1
  clear hne hg1 hg2 hrun2 ho1 ho2 h0 h1 h2 hbW hC hC1 hCs hC2 hr hl1 hls hl2 hG hb1
  simp only [hlen, hlr] at *
  clear hlen hlr
  obtain ⟨p0, p1, p2, p3, p4, p5⟩ := six a0
  obtain ⟨q0, q1, q2, q3, q4, q5⟩ := six b0
  obtain ⟨r0, r1, r2, r3, r4, r5⟩ := six b1
  obtain ⟨g0, g1, g2, g3, g4, g5⟩ := sixf b0
  obtain ⟨k0, k1, k2, k3, k4, k5⟩ := sixf b1
  clear a0 a1 b0 b1
  go_enter Try.func36, Try.ntmps36
  go_wp2_with (at_builtin; first | refine wp_append rfl _ _ _ rfl rfl rfl HR1.out ?_ | refine wp_append rfl _ _ _ rfl rfl rfl HR2.out ?_)
  set_option pp.deepTerms true in set_option pp.maxSteps 1000000 in trace_state
  refine bodyPost_ret (v := .tuple #[.agg #[.int .i64 z, .int .i64 d, .int .i64 q, .slice A2 (r.length + 1) c2, .int .i64 (s + 1), .int .u64 (x + 1)], .int .i64 0]) (by simp [results, Try.results36, go_sem, *]) rfl ⟨_, rfl, ?_, ?_⟩
  · have hG := HG.out
    have n0 : ¬ (G w.heap.size ∨ (w.heap.size + 2 ≤ w.heap.size ∧ w.heap.size < w2.heap.size)) := fun h => h.elim (fun h => by have := hG _ h; omega) (fun h => by omega)
    have n1 : ¬ (G (w.heap.size + 1) ∨ (w.heap.size + 2 ≤ w.heap.size + 1 ∧ w.heap.size + 1 < w2.heap.size)) := fun h => h.elim (fun h => by have := hG _ h; omega) (fun h => by omega)
    exact (((((((hfin.set flat_string n0).set flat_string n1).set flat_string n1).set flat_string n1).set flat_string n1).set flat_string n1).set flat_string n1).mono (fun k hk => hk.elim .inl (fun h => .inr (by simp; omega)))
  · exact ((((((hb2.setCell (Nat.le_refl _) _).setCell (by simp) _).setCell (by simp) _).setCell (by simp) _).setCell (by simp) _).setCell (by simp) _).setCell (by simp) _
end Go.Proofs.Ytkijeknopnjamaa.Queuing
