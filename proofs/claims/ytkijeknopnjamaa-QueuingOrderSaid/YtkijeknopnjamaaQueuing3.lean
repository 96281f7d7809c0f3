import Derived.Test.YtkijeknopnjamaaQueuing2
set_option linter.unusedVariables false
set_option linter.unusedSimpArgs false
namespace Go.Proofs.Ytkijeknopnjamaa.Queuing
open Go.RowKit Base Sp Flat Go.Proofs.YtkijeknopnjamaaW.PrintWords
/-- What ref.Send returns. -/
def RS (G : Nat → Prop) (z d q : Int) (l : List ByteArray) (s x c : Int) (w : World) (e : Ending) (w' : World) : Prop :=
  ∃ v', e = .returned (.tuple #[.agg #[.int .i64 z, .int .i64 d, .int .i64 q, v', .int .i64 s, .int .u64 x], .int .i64 c]) ∧ Rd Kd.string w' (fun k => G k ∨ (w.heap.size ≤ k ∧ k < w'.heap.size)) v' l ∧ Below w.heap.size w w'
theorem six {w : World} {b t : Nat} {a0 a1 a2 a3 a4 a5 : Value} (h : w.heap[b]? = some (.cells #[a0, a1, a2, a3, a4, a5] t (0, 0))) :
    w.cell? ⟨b, 0, none⟩ = some a0 ∧ w.cell? ⟨b, 1, none⟩ = some a1 ∧ w.cell? ⟨b, 2, none⟩ = some a2 ∧ w.cell? ⟨b, 3, none⟩ = some a3 ∧ w.cell? ⟨b, 4, none⟩ = some a4 ∧ w.cell? ⟨b, 5, none⟩ = some a5 :=
  ⟨blk_cell h 0, blk_cell h 1, blk_cell h 2, blk_cell h 3, blk_cell h 4, blk_cell h 5⟩
theorem sixf {w : World} {b t : Nat} {a0 a1 a2 a3 a4 a5 : Value} (h : w.heap[b]? = some (.cells #[a0, a1, a2, a3, a4, a5] t (0, 0))) :
    w.frozen? ⟨b, 0, none⟩ = false ∧ w.frozen? ⟨b, 1, none⟩ = false ∧ w.frozen? ⟨b, 2, none⟩ = false ∧ w.frozen? ⟨b, 3, none⟩ = false ∧ w.frozen? ⟨b, 4, none⟩ = false ∧ w.frozen? ⟨b, 5, none⟩ = false :=
  ⟨blk_frozen h 0, blk_frozen h 1, blk_frozen h 2, blk_frozen h 3, blk_frozen h 4, blk_frozen h 5⟩
theorem rd_new {w : World} {G : Nat → Prop} {v : Value} {l : List ByteArray} (hr : Rd Kd.string w G v l) (hG : ∀ k, G k → k < w.heap.size) (o1 o2 : Obj) :
    Rd Kd.string ((w.alloc o1).alloc o2) (fun k => G k ∨ (w.heap.size ≤ k ∧ k < ((w.alloc o1).alloc o2).heap.size)) v l ∧ Below w.heap.size w ((w.alloc o1).alloc o2) := by
  have hb : Below w.heap.size w ((w.alloc o1).alloc o2) := ((Below.refl _ _).alloc (Nat.le_refl _) _).alloc (by simp) _
  exact ⟨(hr.same flat_string (Same.of hb hG)).mono (fun k hk => .inl hk), hb⟩
theorem rsend_long (G : Nat → Prop) (z d q : Int) (l : List ByteArray) (s x : Int) (m : ByteArray) (v : Value) (w : World) (hr : Rd Kd.string w G v l) (hG : ∀ k, G k → k < w.heap.size) (h : z < (m.size : Int)) :
    Calls Try.prog 36 #[.agg #[.int .i64 z, .int .i64 d, .int .i64 q, v, .int .i64 s, .int .u64 x], .string m] w (RS G z d q l s x 3 w) := by
  obtain ⟨A, c, rfl, hl, hC⟩ := hr.get
  go_enter Try.func36, Try.ntmps36
  go_wp2
  exact bodyPost_ret (v := .tuple #[.agg #[.int .i64 z, .int .i64 d, .int .i64 q, .slice A l.length c, .int .i64 s, .int .u64 x], .int .i64 3]) (by simp [results, Try.results36, go_sem]) rfl ⟨_, rfl, rd_new hr hG _ _⟩
theorem rsend_full (G : Nat → Prop) (z d q : Int) (l : List ByteArray) (s x : Int) (m : ByteArray) (v : Value) (w : World) (hr : Rd Kd.string w G v l) (hG : ∀ k, G k → k < w.heap.size) (h : (m.size : Int) ≤ z) (hs : q ≤ s) :
    Calls Try.prog 36 #[.agg #[.int .i64 z, .int .i64 d, .int .i64 q, v, .int .i64 s, .int .u64 x], .string m] w (RS G z d q l s x 19 w) := by
  obtain ⟨A, c, rfl, hl, hC⟩ := hr.get
  go_enter Try.func36, Try.ntmps36
  go_wp2
  exact bodyPost_ret (v := .tuple #[.agg #[.int .i64 z, .int .i64 d, .int .i64 q, .slice A l.length c, .int .i64 s, .int .u64 x], .int .i64 19]) (by simp [results, Try.results36, go_sem]) rfl ⟨_, rfl, rd_new hr hG _ _⟩
theorem rsend_zero (G : Nat → Prop) (z q : Int) (l : List ByteArray) (s x : Int) (m : ByteArray) (v : Value) (w : World) (hr : Rd Kd.string w G v l) (hG : ∀ k, G k → k < w.heap.size) (h : (m.size : Int) ≤ z) (hs : s < q) (hs0 : 0 ≤ s) (hq : q < 9223372036854775808) (hx0 : 0 ≤ x) (hx : x ≤ 1000) :
    Calls Try.prog 36 #[.agg #[.int .i64 z, .int .i64 0, .int .i64 q, v, .int .i64 s, .int .u64 x], .string m] w (RS G z 0 q l (s + 1) (x + 1) 0 w) := by
  have hw : IntKind.i64.wrap (s + 1) = s + 1 := wrapi64 (by omega) (by omega)
  have hw2 : IntKind.u64.wrap (x + 1) = x + 1 := wrapu64 (by omega) (by omega)
  clear hq
  obtain ⟨A, c, rfl, hl, hC⟩ := hr.get
  go_enter Try.func36, Try.ntmps36
  go_wp2
  exact bodyPost_ret (v := .tuple #[.agg #[.int .i64 z, .int .i64 0, .int .i64 q, .slice A l.length c, .int .i64 (s + 1), .int .u64 (x + 1)], .int .i64 0]) (by simp [results, Try.results36, go_sem]) rfl ⟨_, rfl, rd_new hr hG _ _⟩
set_option maxRecDepth 20000 in
set_option maxHeartbeats 2000000 in
theorem rsend_put (G : Nat → Prop) (z d q : Int) (l : List ByteArray) (s x : Int) (m : ByteArray) (v : Value) (w : World) (hr : Rd Kd.string w G v l) (hG : ∀ k, G k → k < w.heap.size) (h : (m.size : Int) ≤ z) (hs : s < q) (hs0 : 0 ≤ s) (hq : q < 9223372036854775808) (hx0 : 0 ≤ x) (hx : x ≤ 1000)
    (hl : l.length ≤ 1000) (hd : (l.length : Int) < d) :
    Calls Try.prog 36 #[.agg #[.int .i64 z, .int .i64 d, .int .i64 q, v, .int .i64 s, .int .u64 x], .string m] w (RS G z d q (l ++ [m]) (s + 1) x 0 w) := by
  have hw : IntKind.i64.wrap (s + 1) = s + 1 := wrapi64 (by omega) (by omega)
  have hdd : (d == 0) = false := by simp; omega
  have hdl : ((l.length : Int) == d) = false := by simp; omega
  clear hq
  obtain ⟨A, c, rfl, hlc, hC⟩ := hr.get
  obtain ⟨W, hW⟩ : ∃ W, W = ((w.alloc (.cells #[.int .i64 z, .int .i64 d, .int .i64 q, .slice A l.length c, .int .i64 (s + 1), .int .u64 x] 69)).alloc (.cells #[.int .i64 0, .int .i64 0, .int .i64 0, .slice none 0 0, .int .i64 0, .int .u64 0] 69)).alloc (.cells #[] 9) := ⟨_, rfl⟩
  have hbW : Below w.heap.size w W := by rw [hW]; exact (((Below.refl _ _).alloc (Nat.le_refl _) _).alloc (by simp) _).alloc (by simp; omega) _
  have hWs : W.heap.size = w.heap.size + 3 := by rw [hW]; simp
  have h0 : W.heap[w.heap.size]? = some (.cells #[.int .i64 z, .int .i64 d, .int .i64 q, .slice A l.length c, .int .i64 (s + 1), .int .u64 x] 69 (0, 0)) := by
    rw [hW, Below.heap_alloc _ _ _ (by simp; omega), Below.heap_alloc _ _ _ (by simp)]
    exact heap_alloc_new _ _
  have h1 : W.heap[w.heap.size + 1]? = some (.cells #[.int .i64 0, .int .i64 0, .int .i64 0, .slice none 0 0, .int .i64 0, .int .u64 0] 69 (0, 0)) := by
    rw [hW, Below.heap_alloc _ _ _ (by simp)]
    simpa using heap_alloc_new (w.alloc (.cells #[.int .i64 z, .int .i64 d, .int .i64 q, .slice A l.length c, .int .i64 (s + 1), .int .u64 x] 69)) (.cells #[.int .i64 0, .int .i64 0, .int .i64 0, .slice none 0 0, .int .i64 0, .int .u64 0] 69)
  have h2 : W.heap[w.heap.size + 2]? = some (.cells #[] 9 (0, 0)) := by
    rw [hW]
    simpa using heap_alloc_new ((w.alloc (.cells #[.int .i64 z, .int .i64 d, .int .i64 q, .slice A l.length c, .int .i64 (s + 1), .int .u64 x] 69)).alloc (.cells #[.int .i64 0, .int .i64 0, .int .i64 0, .slice none 0 0, .int .i64 0, .int .u64 0] 69)) (.cells #[] 9)
  obtain ⟨v1, w1, hrun1, ho1, hg1⟩ := Own.copied (P := Try.prog) flat_string 67 67 (.string ⟨#[]⟩) 16 Try.underlying67 (by kernel_rfl) (by kernel_rfl) rfl (by decide) (by decide) h2 l A c (hr.same flat_string (Same.of hbW hG)) (by omega)
  rw [hW] at hrun1
  have HR1 := Lib.hid hrun1
  have a0 := (hg1.block (w.heap.size) (by omega) (by intro h; injection h with h; omega)).trans h0
  have a1 := (hg1.block (w.heap.size + 1) (by omega) (by intro h; injection h with h; omega)).trans h1
  have hb1 : Below w.heap.size w w1 := hbW.grown hg1 (by omega) (fun k hk => by injection hk with hk; omega)
  have hs1 := hg1.size
  clear hrun1 hW
  obtain ⟨v2, w2, hrun2, ho2, hg2, hs2⟩ := ho1.append (P := Try.prog) flat_string 67 67 (.string ⟨#[]⟩) 16 Try.underlying67 (by kernel_rfl) rfl (by decide) (by decide) m [.string m] rfl (fun k hk => by omega) (by omega)
  have HR2 := Lib.hid hrun2
  have hne : ∀ k, k < w.heap.size + 2 → some k ≠ v1.ownBlock := fun k hk => ho1.away (by omega)
  have b0 := (hg2.block (w.heap.size) (by omega) (hne _ (by omega))).trans a0
  have b1 := (hg2.block (w.heap.size + 1) (by omega) (hne _ (by omega))).trans a1
  have hb2 : Below w.heap.size w w2 := hb1.grown hg2 (by omega) (fun k hk => by have := ho1.base k hk; omega)
  obtain ⟨A1, c1, rfl, hl1, hC1⟩ := ho1.rd.get
  obtain ⟨A2, c2, rfl, hl2, hC2⟩ := ho2.rd.get
  have hlen : (l ++ [m]).length = l.length + 1 := by simp
  have hfin : Rd Kd.string w2 (fun k => G k ∨ (w.heap.size + 2 ≤ k ∧ k < w2.heap.size)) (.slice A2 (l ++ [m]).length c2) (l ++ [m]) := ho2.rd.mono (fun k hk => .inr (by omega))
  have HG := Lib.hid hG
  clear hne hg1 hg2 hrun2 ho1 ho2 h0 h1 h2 hbW hC hC1 hC2 hr hl1 hl2 hG hb1
  rw [hlen] at *
  obtain ⟨p0, p1, p2, p3, p4, p5⟩ := six a0
  obtain ⟨q0, q1, q2, q3, q4, q5⟩ := six b0
  obtain ⟨r0, r1, r2, r3, r4, r5⟩ := six b1
  obtain ⟨g0, g1, g2, g3, g4, g5⟩ := sixf b0
  obtain ⟨k0, k1, k2, k3, k4, k5⟩ := sixf b1
  clear a0 a1 b0 b1
  go_enter Try.func36, Try.ntmps36
  go_wp2_with (at_builtin; first | refine wp_append rfl _ _ _ rfl rfl rfl HR1.out ?_ | refine wp_append rfl _ _ _ rfl rfl rfl HR2.out ?_)
  refine bodyPost_ret (v := .tuple #[.agg #[.int .i64 z, .int .i64 d, .int .i64 q, .slice A2 (l.length + 1) c2, .int .i64 (s + 1), .int .u64 x], .int .i64 0]) (by simp [results, Try.results36, go_sem, *]) rfl ⟨_, rfl, ?_, ?_⟩
  · have hG := HG.out
    have n0 : ¬ (G w.heap.size ∨ (w.heap.size + 2 ≤ w.heap.size ∧ w.heap.size < w2.heap.size)) := fun h => h.elim (fun h => by have := hG _ h; omega) (fun h => by omega)
    have n1 : ¬ (G (w.heap.size + 1) ∨ (w.heap.size + 2 ≤ w.heap.size + 1 ∧ w.heap.size + 1 < w2.heap.size)) := fun h => h.elim (fun h => by have := hG _ h; omega) (fun h => by omega)
    exact (((((((hfin.set flat_string n0).set flat_string n1).set flat_string n1).set flat_string n1).set flat_string n1).set flat_string n1).set flat_string n1).mono (fun k hk => hk.elim .inl (fun h => .inr (by simp; omega)))
  · exact ((((((hb2.setCell (Nat.le_refl _) _).setCell (by simp) _).setCell (by simp) _).setCell (by simp) _).setCell (by simp) _).setCell (by simp) _).setCell (by simp) _
end Go.Proofs.Ytkijeknopnjamaa.Queuing
