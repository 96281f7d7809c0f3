import Derived.Test.YtkijeknopnjamaaQueuing3c
set_option linter.unusedVariables false
set_option linter.unusedSimpArgs false
namespace Go.Proofs.Ytkijeknopnjamaa.Queuing
open Go.RowKit Base Sp Flat Go.Proofs.YtkijeknopnjamaaW.PrintWords
theorem rsend2 (G : Nat → Prop) (z d q : Int) (l : List ByteArray) (s x : Int) (m : ByteArray) (v : Value) (w : World) (hr : Rd Kd.string w G v l) (hG : ∀ k, G k → k < w.heap.size) (hs0 : 0 ≤ s) (hq : q < 9223372036854775808) (hx0 : 0 ≤ x) (hx : x ≤ 1000)
    (hl : l.length ≤ 999) (hd : (l.length : Int) ≤ d) :
    Calls Try.prog 36 #[.agg #[.int .i64 z, .int .i64 d, .int .i64 q, v, .int .i64 s, .int .u64 x], .string m] w fun e w' => ∃ A c, e = .returned (.tuple #[.agg #[.int .i64 z, .int .i64 d, .int .i64 q, .slice A (sl z d q s l m).length c, .int .i64 (ss z q s m), .int .u64 (sx z d q s x l m)], .int .i64 (code z q s m)]) ∧
      Rd Kd.string w' (fun k => G k ∨ (w.heap.size ≤ k ∧ k < w'.heap.size)) (.slice A (sl z d q s l m).length c) (sl z d q s l m) ∧ Below w.heap.size w w' := by
  refine (rsend G z d q l s x m v w hr hG hs0 hq hx0 hx hl hd).mono ?_
  rintro e w' ⟨v', rfl, h1, h2⟩
  obtain ⟨A, c, rfl, _, _⟩ := h1.get
  exact ⟨A, c, rfl, h1, h2⟩
theorem rreceive2 (G : Nat → Prop) (z d q : Int) (l : List ByteArray) (s x : Int) (v : Value) (w : World) (hr : Rd Kd.string w G v l) (hG : ∀ k, G k → k < w.heap.size) :
    Calls Try.prog 37 #[.agg #[.int .i64 z, .int .i64 d, .int .i64 q, v, .int .i64 s, .int .u64 x]] w fun e w' => ∃ A c, e = .returned (.tuple #[.agg #[.int .i64 z, .int .i64 d, .int .i64 q, .slice A l.tail.length c, .int .i64 s, .int .u64 x], .string (rm l), .bool (rb l)]) ∧
      Rd Kd.string w' (fun k => G k ∨ (w.heap.size ≤ k ∧ k < w'.heap.size)) (.slice A l.tail.length c) l.tail ∧ Below w.heap.size w w' := by
  refine (rreceive G z d q l s x v w hr hG).mono ?_
  rintro e w' ⟨v', rfl, h1, h2⟩
  obtain ⟨A, c, rfl, _, _⟩ := h1.get
  exact ⟨A, c, rfl, h1, h2⟩
/-- A step: its kind, and its text. -/
def kq : Kd (Int × ByteArray) := Kd.pair (Kd.int .i64) Kd.string
theorem step_cells {w : World} {A : Option Addr} {l : List (Int × ByteArray)} (h : Kd.C kq w A l.length l) (i : Nat) (hi : i < l.length) :
    ∃ ad : Addr, A = some ad ∧ w.cell? (ad.add (i * 2)) = some (.int .i64 l[i].1) ∧ w.cell? ⟨(ad.add (i * 2)).block, (ad.add (i * 2)).off + 1, none⟩ = some (.string l[i].2) := by
  obtain ⟨ad, c, e, _, hK, hc0⟩ := Kd.C_get h (0, ByteArray.empty) (i : Int) (by omega) (by omega)
  rw [Int.toNat_natCast] at hc0 hK
  have hc : ∀ j u, c[j]? = some u → w.cell? (ad.add (i * 2 + j)) = some u := hc0
  have hx : l.getD i (0, ByteArray.empty) = l[i] := by rw [List.getD_eq_getElem?_getD, List.getElem?_eq_getElem hi]; rfl
  rw [hx] at hK
  obtain ⟨_, _, rfl, rfl, rfl⟩ := hK
  exact ⟨ad, e, hc 0 _ rfl, by rw [← add_field _ _ 1 (by omega)]; exact hc 1 _ rfl⟩
/-- The port, and the document's, are alike. -/
structure Both (w0 w : World) (pb r : Nat) (z d q : Int) (l : List ByteArray) (s x : Int) (F G : Nat → Prop) (v : Value) : Prop where
  qp : QP w F pb z d q l s x
  bx : w.heap[r]? = some (.cells #[.int .i64 z, .int .i64 d, .int .i64 q, v, .int .i64 s, .int .u64 x] 69 (0, 0))
  rd : Rd Kd.string w G v l
  gl : ∀ k, G k → k < w.heap.size
  fg : ∀ k, F k → ¬ G k ∧ k ≠ r
  gr : ∀ k, G k → k ≠ r
  fb : ∀ k, F k → w0.heap.size ≤ k
  rb : w0.heap.size ≤ r
  be : Below w0.heap.size w0 w
/-- What is known of the numbers. -/
structure Nums (k : Nat) (d q : Int) (l : List ByteArray) (s x : Int) : Prop where
  ld : (l.length : Int) ≤ d
  lk : l.length ≤ k
  s0 : 0 ≤ s
  x0 : 0 ≤ x
  xk : x ≤ k
  kk : k ≤ 300
theorem Nums.send {k : Nat} {z d q : Int} {l : List ByteArray} {s x : Int} {m : ByteArray} (h : Nums k d q l s x) (hk : k < 300) (hd : 0 ≤ d) : Nums (k + 1) d q (sl z d q s l m) (ss z q s m) (sx z d q s x l m) := by
  obtain ⟨h1, h2, h3, h4, h5, h6⟩ := h
  unfold sl ss sx nl nx
  refine ⟨?_, ?_, ?_, ?_, ?_, by omega⟩ <;> repeat' split
  all_goals (try simp only [List.length_tail, List.length_append, List.length_singleton]); omega
theorem Nums.recv {k : Nat} {d q : Int} {l : List ByteArray} {s x : Int} (h : Nums k d q l s x) (hk : k < 300) : Nums (k + 1) d q l.tail s x := by
  obtain ⟨h1, h2, h3, h4, h5, h6⟩ := h
  exact ⟨by rw [List.length_tail]; omega, by rw [List.length_tail]; omega, h3, h4, by omega, by omega⟩
theorem Nums.frame {k : Nat} {d q : Int} {l : List ByteArray} {s x : Int} (h : Nums k d q l s x) (hk : k < 300) : Nums (k + 1) d q l 0 x := by
  obtain ⟨h1, h2, h3, h4, h5, h6⟩ := h
  exact ⟨h1, by omega, by omega, h4, by omega, by omega⟩
/-- Six cells written. -/
def set6 (w : World) (b : Nat) (a0 a1 a2 a3 a4 a5 : Value) : World := (((((w.setCell ⟨b, 0, none⟩ a0).setCell ⟨b, 1, none⟩ a1).setCell ⟨b, 2, none⟩ a2).setCell ⟨b, 3, none⟩ a3).setCell ⟨b, 4, none⟩ a4).setCell ⟨b, 5, none⟩ a5
theorem set6_at {w : World} {b t : Nat} {c0 c1 c2 c3 c4 c5 : Value} (h : w.heap[b]? = some (.cells #[c0, c1, c2, c3, c4, c5] t (0, 0))) (a0 a1 a2 a3 a4 a5 : Value) :
    (set6 w b a0 a1 a2 a3 a4 a5).heap[b]? = some (.cells #[a0, a1, a2, a3, a4, a5] t (0, 0)) := by
  unfold set6
  have h := blk_set (blk_set (blk_set (blk_set (blk_set (blk_set h 0 a0) 1 a1) 2 a2) 3 a3) 4 a4) 5 a5
  simpa using h
theorem set6_far (w : World) (b : Nat) (a0 a1 a2 a3 a4 a5 : Value) (k : Nat) (hk : k ≠ b) : (set6 w b a0 a1 a2 a3 a4 a5).heap[k]? = w.heap[k]? := by
  unfold set6
  rw [Below.heap_setCell _ _ _ k hk, Below.heap_setCell _ _ _ k hk, Below.heap_setCell _ _ _ k hk, Below.heap_setCell _ _ _ k hk, Below.heap_setCell _ _ _ k hk, Below.heap_setCell _ _ _ k hk]
theorem set6_size (w : World) (b : Nat) (a0 a1 a2 a3 a4 a5 : Value) : (set6 w b a0 a1 a2 a3 a4 a5).heap.size = w.heap.size := by unfold set6; simp
theorem set6_below {B : Nat} {w0 w : World} {b : Nat} (h : Below B w0 w) (hb : B ≤ b) (a0 a1 a2 a3 a4 a5 : Value) : Below B w0 (set6 w b a0 a1 a2 a3 a4 a5) :=
  (((((h.setCell hb _).setCell hb _).setCell hb _).setCell hb _).setCell hb _).setCell hb _
/-- The document's port is another. -/
theorem Both.ref {w0 w w' : World} {pb r : Nat} {z d q : Int} {l l' : List ByteArray} {s x s' x' : Int} {F G G' : Nat → Prop} {v v' : Value} (h : Both w0 w pb r z d q l s x F G v)
    (hb : Below w.heap.size w w') (hr : Rd Kd.string w' G' v' l') (hg : ∀ k, G' k → G k ∨ (w.heap.size ≤ k ∧ k < w'.heap.size)) :
    QP (set6 w' r (.int .i64 z) (.int .i64 d) (.int .i64 q) v' (.int .i64 s') (.int .u64 x')) F pb z d q l s x ∧
    (∀ l2 s2 x2 F2, QP (set6 w' r (.int .i64 z) (.int .i64 d) (.int .i64 q) v' (.int .i64 s') (.int .u64 x')) F2 pb z d q l2 s2 x2 → True) := by
  exact ⟨(h.qp.below hb).same (fun k hk => set6_far _ _ _ _ _ _ _ _ k (h.fg k hk).2) (by rw [set6_size]; exact Nat.le_refl _), fun _ _ _ _ _ => trivial⟩
theorem Both.drew {w0 w : World} {pb r : Nat} {z d q : Int} {l : List ByteArray} {s x : Int} {F G : Nat → Prop} {v : Value} (h : Both w0 w pb r z d q l s x F G v) : Both w0 w.drew pb r z d q l s x F G v :=
  ⟨h.qp.drew, h.bx, h.rd.same flat_string (fun _ _ => rfl), h.gl, h.fg, h.gr, h.fb, h.rb, h.be.drew⟩
/-- Behind a step of both. -/
theorem Both.next {w0 w w1 w2 : World} {pb r : Nat} {z d q : Int} {l l' : List ByteArray} {s x s' x' : Int} {F G G' F' : Nat → Prop} {v v' : Value} (h : Both w0 w pb r z d q l s x F G v)
    (hb : Below w.heap.size w w1) (hr : Rd Kd.string w1 G' v' l') (hg : ∀ k, G' k → G k ∨ (w.heap.size ≤ k ∧ k < w1.heap.size))
    (hq : QP w2 F' pb z d q l' s' x') (hF : ∀ k, F' k → F k ∨ (w1.heap.size ≤ k)) (hm : Mod F (set6 w1 r (.int .i64 z) (.int .i64 d) (.int .i64 q) v' (.int .i64 s') (.int .u64 x')) w2) :
    Both w0 w2 pb r z d q l' s' x' F' G' v' := by
  have hbx : (set6 w1 r (.int .i64 z) (.int .i64 d) (.int .i64 q) v' (.int .i64 s') (.int .u64 x')).heap[r]? = some (.cells #[.int .i64 z, .int .i64 d, .int .i64 q, v', .int .i64 s', .int .u64 x'] 69 (0, 0)) :=
    set6_at ((hb.block r (blk_lt h.bx)).trans h.bx) _ _ _ _ _ _
  have hsz := hm.size
  have hlt := blk_lt h.bx
  rw [set6_size] at hsz
  have hGF : ∀ k, G' k → k < w1.heap.size ∧ ¬ F k ∧ k ≠ r := by
    intro k hk
    rcases hg k hk with h1 | h1
    · exact ⟨Nat.lt_of_lt_of_le (h.gl k h1) hb.size, fun hf => (h.fg k hf).1 h1, h.gr k h1⟩
    · exact ⟨h1.2, fun hf => by have := h.qp.lt k hf; omega, by omega⟩
  refine ⟨hq, ?_, hr.same flat_string (fun k hk => ?_), fun k hk => Nat.lt_of_lt_of_le (hGF k hk).1 hsz, fun k hk => ⟨fun hg' => ?_, ?_⟩, fun k hk => (hGF k hk).2.2, fun k hk => ?_, h.rb, ?_⟩
  · rw [hm.block r (by rw [set6_size]; have := hb.size; omega) (fun hf => (h.fg r hf).2 rfl)]
    exact hbx
  · rw [hm.block k (by rw [set6_size]; exact (hGF k hk).1) (hGF k hk).2.1]
    exact set6_far _ _ _ _ _ _ _ _ k (hGF k hk).2.2
  · rcases hF k hk with h1 | h1
    · exact (hGF k hg').2.1 h1
    · have := (hGF k hg').1
      omega
  · rcases hF k hk with h1 | h1
    · exact (h.fg k h1).2
    · have := hb.size
      omega
  · rcases hF k hk with h1 | h1
    · exact h.fb k h1
    · have := hb.size
      have := h.be.size
      omega
  · exact hm.below (set6_below (h.be.trans (hb.mono h.be.size)) h.rb _ _ _ _ _ _) (by rw [set6_size]; have := hb.size; have := h.be.size; omega) h.fb
theorem far6 {w : World} {b : Nat} {a0 a1 a2 a3 a4 a5 u : Value} {a : Addr} (h : w.cell? a = some u) (hn : b ≠ a.block) : (set6 w b a0 a1 a2 a3 a4 a5).cell? a = some u := by
  unfold set6
  exact cfar (cfar (cfar (cfar (cfar (cfar h hn) hn) hn) hn) hn) hn
/-- Behind a frame's begin. -/
theorem Both.frame {w0 w w1 : World} {pb r : Nat} {z d q : Int} {l : List ByteArray} {s x : Int} {F G : Nat → Prop} {v : Value} (h : Both w0 w pb r z d q l s x F G v) (hq : QP w1 F pb z d q l 0 x) (hm : Mod F w w1) :
    Both w0 (w1.setCell ⟨r, 4, none⟩ (.int .i64 0)) pb r z d q l 0 x F G v := by
  have hlt := blk_lt h.bx
  have hsz := hm.size
  have hbx : w1.heap[r]? = _ := (hm.block r hlt (fun hf => (h.fg r hf).2 rfl)).trans h.bx
  have hb2 := blk_set hbx 4 (.int .i64 0)
  simp only [List.setIfInBounds_toArray, List.set_cons_zero, List.set_cons_succ] at hb2
  refine ⟨hq.same (fun k hk => Below.heap_setCell _ _ _ _ (h.fg k hk).2) (by simp), hb2, (h.rd.same flat_string (fun k hk => hm.block k (h.gl k hk) (fun hf => (h.fg k hf).1 hk))).set flat_string (fun hg => h.gr r hg rfl), fun k hk => by have := h.gl k hk; simp; omega, h.fg, h.gr, h.fb, h.rb, ?_⟩
  exact (hm.below h.be (by have := h.be.size; omega) h.fb).setCell h.rb _
end Go.Proofs.Ytkijeknopnjamaa.Queuing
