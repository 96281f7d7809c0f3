import Derived.Test.YtmlfnlmdnhblmaaProg
import Derived.WalkKit
import Derived.WalkSpells
import Derived.WalkLawsBesides
import Derived.Below
import Derived.Lib.Hide
import Derived.KernelRfl
import Derived.LaidEqlPtr
import Derived.Deep.LoopGhost
import Derived.Deep.QuietTactic
import Derived.BigQuiet
import Derived.WalkSmall
import Derived.Handy
import Derived.ProofKit
import Derived.LoopTactic
import Derived.OwnWalk
import Derived.Deep.RegionHeld3
import Derived.Test.YtmlfnlmdnhblmaaWWords
import Derived.SizedLaws
import Derived.DeepKeys
import Derived.Deep.MidRow
import Derived.Maps.AppendAt
import Derived.ArgAppend
import Derived.OrdersHeld
import Derived.Test.YtmlfnlmdnhblmaaWLast
set_option linter.unusedVariables false
set_option linter.unusedSimpArgs false
namespace Go.Proofs.Ytmlfnlmdnhblmaa.Base
open Go.RowKit
theorem wrapu64 {x : Int} (h0 : 0 ≤ x) (h1 : x < 18446744073709551616) : IntKind.u64.wrap x = x := by
  simp [IntKind.wrap, IntKind.bits, IntKind.signed]; omega
theorem wrapi64 {x : Int} (h0 : -9223372036854775808 ≤ x) (h1 : x < 9223372036854775808) : IntKind.i64.wrap x = x := by
  simp [IntKind.wrap, IntKind.bits, IntKind.signed]; omega
theorem wf_u64 {n : Int} (h : (Lit.int .u64 n).wf = true) : 0 ≤ n ∧ n < 18446744073709551616 := by
  simp only [Lit.wf, Bool.and_eq_true, decide_eq_true_eq] at h
  have h1 : IntKind.u64.min = 0 := by decide
  have h2 : IntKind.u64.max = 18446744073709551615 := by decide
  omega
theorem wf_i64 {n : Int} (h : (Lit.int .i64 n).wf = true) : -9223372036854775808 ≤ n ∧ n < 9223372036854775808 := by
  simp only [Lit.wf, Bool.and_eq_true, decide_eq_true_eq] at h
  have h1 : IntKind.i64.min = -9223372036854775808 := by decide
  have h2 : IntKind.i64.max = 9223372036854775807 := by decide
  omega
theorem wf_u32 {n : Int} (h : (Lit.int .u32 n).wf = true) : 0 ≤ n ∧ n < 4294967296 := by
  simp only [Lit.wf, Bool.and_eq_true, decide_eq_true_eq] at h
  have h1 : IntKind.u32.min = 0 := by decide
  have h2 : IntKind.u32.max = 4294967295 := by decide
  omega
theorem wf_u8 {n : Int} (h : (Lit.int .u8 n).wf = true) : 0 ≤ n ∧ n < 256 := by
  simp only [Lit.wf, Bool.and_eq_true, decide_eq_true_eq] at h
  have h1 : IntKind.u8.min = 0 := by decide
  have h2 : IntKind.u8.max = 255 := by decide
  omega
theorem cfar {w : World} {p a : Addr} {v u : Value} (h : w.cell? a = some u) (hn : p.block ≠ a.block) : (w.setCell p v).cell? a = some u :=
  (World.cell?_setCell_far w p a v hn).trans h
theorem csame {w : World} {a : Addr} {v u : Value} (h : w.cell? a = some u) : (w.setCell a v).cell? a = some v := World.cell?_setCell_same _ _ _ h
theorem coff {w : World} {b i j : Nat} {v u : Value} (h : w.cell? ⟨b, j, none⟩ = some u) (hn : i ≠ j) : (w.setCell ⟨b, i, none⟩ v).cell? ⟨b, j, none⟩ = some u :=
  by
  rw [World.cell?_setCell_other]
  · exact h
  · intro e
    injection e with _ e
    exact hn e
theorem cnew {w : World} {o : Obj} {a : Addr} {u : Value} (h : w.cell? a = some u) : (w.alloc o).cell? a = some u := by
  rw [World.cell?_alloc_old]
  · exact h
  · intro e
    unfold World.cell? at h
    rw [e] at h
    simp at h
theorem cbel {B : Nat} {w w' : World} {a : Addr} {u : Value} (hb : Below B w w') (h : w.cell? a = some u) (ha : a.block < B) : w'.cell? a = some u := (hb.cell ha).trans h
theorem fbel {B : Nat} {w w' : World} {a : Addr} {u : Bool} (hb : Below B w w') (h : w.frozen? a = u) (ha : a.block < B) : w'.frozen? a = u := (hb.frozen ha).trans h
theorem bx {x y : Int} (h : x = y) {k : IntKind} : Ending.returned (Value.int k x) = Ending.returned (Value.int k y) := by rw [h]
theorem bb {x y : Bool} (h : x = y) : Ending.returned (Value.bool x) = Ending.returned (Value.bool y) := by rw [h]
end Go.Proofs.Ytmlfnlmdnhblmaa.Base
namespace Go.Proofs.Ytmlfnlmdnhblmaa.Base
open Go.RowKit
theorem bstep {a b c : World} (h : Below a.heap.size a b) (k : Below b.heap.size b c) : Below a.heap.size a c := h.trans (k.mono h.size)
end Go.Proofs.Ytmlfnlmdnhblmaa.Base
namespace Go.Proofs.Ytmlfnlmdnhblmaa.Sp
open Go.RowKit Base
/-- Only blocks of F, and new ones, may have turned. -/
structure Mod (F : Nat → Prop) (w w' : World) : Prop where
  os : w'.os = w.os
  tape : w'.tape = w.tape
  output : w'.output = w.output
  size : w.heap.size ≤ w'.heap.size
  block : ∀ k, k < w.heap.size → ¬ F k → w'.heap[k]? = w.heap[k]?
theorem Mod.refl (F : Nat → Prop) (w : World) : Mod F w w := ⟨rfl, rfl, rfl, Nat.le_refl _, fun _ _ _ => rfl⟩
theorem Mod.of {F : Nat → Prop} {w w' : World} (h : Below w.heap.size w w') : Mod F w w' := ⟨h.os, h.tape, h.output, h.size, fun k hk _ => h.block k hk⟩
theorem Mod.trans {F G : Nat → Prop} {a b c : World} (h : Mod F a b) (k : Mod G b c) (hG : ∀ i, G i → F i ∨ a.heap.size ≤ i) : Mod F a c :=
  ⟨k.os.trans h.os, k.tape.trans h.tape, k.output.trans h.output, Nat.le_trans h.size k.size, fun i hi hF => (k.block i (Nat.lt_of_lt_of_le hi h.size) (fun g => (hG i g).elim hF (fun h => by omega))).trans (h.block i hi hF)⟩
theorem Mod.mono {F G : Nat → Prop} {w w' : World} (h : Mod F w w') (hG : ∀ k, F k → G k ∨ w.heap.size ≤ k) : Mod G w w' := (Mod.refl G w).trans h hG
theorem Mod.below {F : Nat → Prop} {B : Nat} {w0 w w' : World} (hb : Below B w0 w) (h : Mod F w w') (hB : B ≤ w.heap.size) (hF : ∀ k, F k → B ≤ k) : Below B w0 w' :=
  hb.trans ⟨h.os, h.tape, h.output, h.size, fun k hk => h.block k (by omega) (fun hf => by have := hF k hf; omega)⟩
theorem Mod.set {F : Nat → Prop} {w w' : World} (h : Mod F w w') {p : Addr} (hp : F p.block ∨ w.heap.size ≤ p.block) (u : Value) : Mod F w (w'.setCell p u) :=
  ⟨h.os, h.tape, h.output, by simpa [World.setCell] using h.size, fun k hk hF => (Below.heap_setCell _ _ _ _ (fun e => by subst e; exact hp.elim hF (fun h => by omega))).trans (h.block k hk hF)⟩
theorem Mod.alloc {F : Nat → Prop} {w w' : World} (h : Mod F w w') (o : Obj) : Mod F w (w'.alloc o) :=
  ⟨h.os, h.tape, h.output, by have := h.size; simp; omega, fun k hk hF => (Below.heap_alloc _ _ _ (by have := h.size; omega)).trans (h.block k hk hF)⟩
theorem Mod.drew {F : Nat → Prop} {w w' : World} (h : Mod F w w') : Mod F w w'.drew := ⟨h.os, h.tape, h.output, h.size, h.block⟩
theorem Mod.grown {F : Nat → Prop} {w w1 w' : World} {row : Option Nat} (h : Mod F w w1) (hg : w1.grownBy w' row) (hr : ∀ k, row = some k → F k ∨ w.heap.size ≤ k) : Mod F w w' :=
  ⟨hg.os.trans h.os, hg.tape.trans h.tape, hg.output.trans h.output, Nat.le_trans h.size hg.size, fun k hk hF => (hg.block k (Nat.lt_of_lt_of_le hk h.size) (fun e => (hr k e.symm).elim hF (fun h => by omega))).trans (h.block k hk hF)⟩
theorem Mod.cell {F : Nat → Prop} {w w' : World} {a : Addr} {u : Value} (h : Mod F w w') (hc : w.cell? a = some u) (hF : ¬ F a.block) : w'.cell? a = some u := by
  have hl := World.block_lt_of_cell? w a hc
  unfold World.cell? at hc ⊢
  rw [h.block a.block hl hF]
  exact hc
theorem Mod.froz {F : Nat → Prop} {w w' : World} {a : Addr} {u : Bool} (h : Mod F w w') (hc : w.frozen? a = u) (hl : a.block < w.heap.size) (hF : ¬ F a.block) : w'.frozen? a = u := by
  unfold World.frozen? at hc ⊢
  rw [h.block a.block hl hF]
  exact hc
/-- Blocks of F are as they were. -/
def Same (F : Nat → Prop) (w w' : World) : Prop := ∀ k, F k → w'.heap[k]? = w.heap[k]?
theorem Mod.same {F G : Nat → Prop} {w w' : World} (h : Mod F w w') (hl : ∀ k, G k → k < w.heap.size) (hd : ∀ k, G k → ¬ F k) : Same G w w' := fun k hk => h.block k (hl k hk) (hd k hk)
theorem Same.of {G : Nat → Prop} {w w' : World} (h : Below w.heap.size w w') (hl : ∀ k, G k → k < w.heap.size) : Same G w w' := fun k hk => h.block k (hl k hk)
theorem Same.cell {F : Nat → Prop} {w w' : World} (h : Same F w w') {b i : Nat} (hb : F b) : w'.cell? ⟨b, i, none⟩ = w.cell? ⟨b, i, none⟩ := by unfold World.cell?; rw [h b hb]
theorem Same.frozen {F : Nat → Prop} {w w' : World} (h : Same F w w') {b i : Nat} (hb : F b) : w'.frozen? ⟨b, i, none⟩ = w.frozen? ⟨b, i, none⟩ := by unfold World.frozen?; rw [h b hb]
/-- What is F's then is F's before, or new. -/
def Grow (F F' : Nat → Prop) (w : World) : Prop := ∀ k, F' k → F k ∨ w.heap.size ≤ k
theorem Grow.refl (F : Nat → Prop) (w : World) : Grow F F w := fun _ h => .inl h
end Go.Proofs.Ytmlfnlmdnhblmaa.Sp
namespace Go.Proofs.Ytmlfnlmdnhblmaa.Flat
open Go.RowKit Base Sp Go.Proofs.YtmlfnlmdnhblmaaW.PrintWords
section
variable {α : Type} {d : Kd α} {e : Nat} {w w' W : World} {F G : Nat → Prop} {v : Value} {xs : List α}
/-- A kind whose cells hang on nothing else in memory. -/
structure Flat (d : Kd α) : Prop where
  k : ∀ {w w' : World} {x : α} {c : List Value}, d.K w x c → d.K w' x c
  m : ∀ {w : World} {base : Nat} {ok : Nat → Prop} {x : α} {c : List Value}, d.K w x c → d.M w base ok x c
theorem flat_string : Flat Kd.string := ⟨fun h => h, fun h => h⟩
theorem flat_int (k : IntKind) : Flat (Kd.int k) := ⟨fun h => h, fun h => h⟩
theorem flat_bool : Flat Kd.bool := ⟨fun h => h, fun h => h⟩
theorem flat_pair {β : Type} {d1 : Kd α} {d2 : Kd β} (h1 : Flat d1) (h2 : Flat d2) : Flat (Kd.pair d1 d2) :=
  ⟨fun ⟨c0, c1, e, a, b⟩ => ⟨c0, c1, e, h1.k a, h2.k b⟩, fun ⟨c0, c1, e, a, b⟩ => ⟨c0, c1, e, h1.m a, h2.m b⟩⟩
theorem flat_iso {β : Type} {f : β → α} (h : Flat d) : Flat (Kd.iso d f) := ⟨fun a => h.k a, fun a => h.m a⟩
/-- A slice that reads as a list; its block is one of F's. -/
def Rd (d : Kd α) (w : World) (F : Nat → Prop) (v : Value) (xs : List α) : Prop :=
  ∃ A c, v = .slice A xs.length c ∧ xs.length ≤ c ∧ d.C w A xs.length xs ∧ ∀ a, A = some a → F a.block
/-- A slice that reads as a list, and may be appended to. -/
def Own (d : Kd α) (e : Nat) (w : World) (F : Nat → Prop) (v : Value) (xs : List α) : Prop :=
  d.Q e w 0 F v xs ∨ ∃ a, v = .slice (some a) xs.length xs.length ∧ d.C w (some a) xs.length xs ∧ F a.block
theorem Rd.mono (h : Rd d w F v xs) (hF : ∀ k, F k → G k) : Rd d w G v xs := by
  obtain ⟨A, c, e, hl, hC, hA⟩ := h
  exact ⟨A, c, e, hl, hC, fun a ha => hF _ (hA a ha)⟩
theorem Own.mono (h : Own d e w F v xs) (hF : ∀ k, F k → G k) : Own d e w G v xs := by
  rcases h with h | ⟨a, ev, hC, hA⟩
  · exact .inl (Kd.Q_mono h hF)
  · exact .inr ⟨a, ev, hC, hF _ hA⟩
theorem Own.rd (h : Own d e w F v xs) : Rd d w F v xs := by
  rcases h with h | ⟨a, ev, hC, hA⟩
  · obtain ⟨A, c, ev, hl, hC⟩ := Kd.Q_reads h
    refine ⟨A, c, ev, hl, hC, fun a ha => h.1 _ ?_⟩
    rw [ev, ha]
    rfl
  · exact ⟨some a, xs.length, ev, Nat.le_refl _, hC, fun a' ha' => by cases ha'; exact hA⟩
theorem Own.away {b : Nat} (h : Own d e w F v xs) (hb : ¬ F b) : some b ≠ v.ownBlock := by
  rcases h with h | ⟨a, ev, hC, hA⟩
  · exact fun he => hb (h.1 b he.symm)
  · rw [ev]
    intro he
    have : b = a.block := by simpa [Value.ownBlock] using he
    rw [this] at hb
    exact hb hA
theorem Own.base (h : Own d e w F v xs) : ∀ k, v.ownBlock = some k → F k := by
  intro k hk
  refine Classical.byContradiction fun hn => ?_
  exact h.away hn hk.symm
theorem Own.nil (d : Kd α) (e : Nat) (w : World) (F : Nat → Prop) : Own d e w F (.slice none 0 0) [] := .inl (Kd.Q_nil _ _ _ _ _)
theorem Rd.nil (d : Kd α) (w : World) (F : Nat → Prop) : Rd d w F (.slice none 0 0) [] := (Own.nil d 0 w F).rd
theorem C_same {A : Option Addr} {n : Nat} (hd : Flat d) (h : d.C w A n xs) (hA : ∀ a, A = some a → w'.heap[a.block]? = w.heap[a.block]?) : d.C w' A n xs := by
  obtain ⟨h1, h2, h3⟩ := h
  refine ⟨h1, h2, fun hn => ?_⟩
  obtain ⟨ad, e, hc⟩ := h3 hn
  refine ⟨ad, e, fun j p hj => ?_⟩
  obtain ⟨c, c1, c2, c3⟩ := hc j p hj
  refine ⟨c, c1, hd.k c2, fun i u hi => ?_⟩
  have h4 := c3 i u hi
  have hb : (ad.add (j * d.sz + i)).block = ad.block := by unfold Addr.add; split <;> rfl
  unfold World.cell? at h4 ⊢
  rw [hb, hA ad e]
  rw [hb] at h4
  exact h4
theorem Rd.same (hd : Flat d) (h : Rd d w F v xs) (hs : Same F w w') : Rd d w' F v xs := by
  obtain ⟨A, c, e, hl, hC, hA⟩ := h
  exact ⟨A, c, e, hl, C_same hd hC (fun a ha => hs _ (hA a ha)), hA⟩
theorem Own.same (hd : Flat d) (h : Own d e w F v xs) (hs : Same F w w') : Own d e w' F v xs := by
  rcases h with h | ⟨a, ev, hC, hA⟩
  · exact .inl (Kd.Q_move h hs)
  · exact .inr ⟨a, ev, C_same hd hC (fun a' ha' => by cases ha'; exact hs _ hA), hA⟩
theorem Rd.get (h : Rd d w F v xs) : ∃ A c, v = .slice A xs.length c ∧ xs.length ≤ c ∧ d.C w A xs.length xs := by
  obtain ⟨A, c, e, hl, hC, _⟩ := h
  exact ⟨A, c, e, hl, hC⟩
theorem Rd.max (h : Rd d w F v xs) : xs.length ≤ 9223372036854775807 := by
  obtain ⟨A, c, e, hl, hC, _⟩ := h
  exact hC.2.1
/-- The cells of a list, one behind the other. -/
theorem row_of_C {ad : Addr} (h : d.C w (some ad) xs.length xs) : ∀ m, m ≤ xs.length → ∃ cs : List Value, Reps (d.K w) d.sz (xs.take m) cs ∧ ∀ j u, cs[j]? = some u → w.cell? (ad.add j) = some u
  | 0, _ => ⟨[], by rw [List.take_zero]; exact Reps.none _ _, fun j u hj => by simp at hj⟩
  | m + 1, hm => by
    obtain ⟨cs, h1, h2⟩ := row_of_C h m (by omega)
    obtain ⟨_, e, hc⟩ := h.2.2 (by omega)
    obtain rfl := Option.some.inj e
    obtain ⟨c, c1, c2, c3⟩ := hc m _ (List.getElem?_eq_getElem (show m < xs.length by omega))
    have hlen : cs.length = m * d.sz := by rw [h1.1, List.length_take, Nat.min_eq_left (by omega)]
    refine ⟨cs ++ c, by rw [List.take_succ_eq_append_getElem (by omega)]; exact h1.snoc c2 c1, fun j u hj => ?_⟩
    rcases Nat.lt_or_ge j cs.length with hjl | hjl
    · rw [List.getElem?_append_left hjl] at hj
      exact h2 j u hj
    · rw [List.getElem?_append_right hjl, hlen] at hj
      have := c3 _ u hj
      rw [show m * d.sz + (j - m * d.sz) = j from by omega] at this
      exact this
theorem reps_append {R : α → List Value → Prop} {sz : Nat} {xs ys : List α} {cs ds : List Value} (h : Reps R sz xs cs) (k : Reps R sz ys ds) : Reps R sz (xs ++ ys) (cs ++ ds) := by
  refine ⟨by rw [List.length_append, List.length_append, h.1, k.1, Nat.add_mul], fun j p hj => ?_⟩
  rcases Nat.lt_or_ge j xs.length with hjl | hjl
  · rw [List.getElem?_append_left hjl] at hj
    have h1 : j * sz + sz ≤ cs.length := by rw [h.1, ← Nat.succ_mul]; exact Nat.mul_le_mul_right _ hjl
    have h2 := h.2 j p hj
    rw [List.drop_append_of_le_length (by omega), List.take_append_of_le_length (by rw [List.length_drop]; omega)]
    exact h2
  · rw [List.getElem?_append_right hjl] at hj
    have h2 := k.2 _ p hj
    have h1 : xs.length * sz ≤ j * sz := Nat.mul_le_mul_right _ hjl
    rw [List.drop_append, h.1, List.drop_eq_nil_of_le (by rw [h.1]; exact h1), List.nil_append, ← Nat.sub_mul]
    exact h2
/-- append(xs, p). -/
theorem Own.append {P : Program} (hd : Flat d) (t ty : TypeId) (z : Value) (bytes : Nat) (ht : P.underlying t = some (.slice e))
    (hinfo : (P.info? e).map (fun i => (i.zero, i.size, i.bytes)) = some (some z, d.sz, bytes)) (hz : z.cells.size = d.sz) (hs0 : 0 < d.sz) (hb0 : 0 < bytes)
    (p : α) (cs : List Value) (hp : d.K W p cs) (h : Own d e W F v xs) (hF : ∀ k, F k → k < W.heap.size) (hl : (xs.length + 1) * bytes ≤ 140737488355328) :
    ∃ v1 w1, (Builtin.append_ #[t, t] ty #[v, .slice (some ⟨W.heap.size, 0, none⟩) 1 1]).run P (W.alloc (.cells cs.toArray e)) = .ok v1 w1 ∧
      Own d e w1 (fun k => F k ∨ (W.heap.size ≤ k ∧ k < w1.heap.size)) v1 (xs ++ [p]) ∧ W.grownBy w1 v.ownBlock ∧ W.heap.size < w1.heap.size := by
  have hlen : xs.length + 1 ≤ 140737488355328 := Nat.le_trans (Nat.le_mul_of_pos_right _ hb0) hl
  have lt1 : ∀ {w1 : World} {r : Option Nat}, (W.alloc (.cells cs.toArray e)).grownBy w1 r → W.heap.size < w1.heap.size := fun {w1 r} hg => by
    have := hg.size
    simp at this
    omega
  rcases h with h | ⟨a, rfl, hC, hA⟩
  · have h' : d.Q e W 0 (fun k => F k ∨ W.heap.size ≤ k) v xs := Kd.Q_mono h (fun k hk => .inl hk)
    have hq : d.Q e (W.alloc (.cells cs.toArray e)) 0 F v xs := Kd.Q_alloc h _
    obtain ⟨h0, inner, hown, hr⟩ := h
    obtain ⟨v1, w1, hrun, h1, _, h3, h4⟩ := Kd.Q_run (P := P) d (w0 := W) 0 t ty e z bytes ht hinfo hz hs0 hb0 v xs p cs (fun k => F k ∨ W.heap.size ≤ k) (fun k => False) (hd.m hp) (fun k hk => hk.elim) (fun k hk => .inr hk) h'
      (Below.refl 0 W) (by omega) hl
    obtain ⟨i0, hi, hzz⟩ := Option.map_eq_some_iff.1 hinfo
    have hs1 : W.heap.size < w1.heap.size := by
      simp only [Prod.mk.injEq] at hzz
      obtain ⟨hz0, hz1, hz2⟩ := hzz
      have hcl := d.K_len hp
      obtain ⟨v2, w2, hrun2, _, hg2, _⟩ := q_append (P := P) (W.alloc (.cells cs.toArray e)) 0 t ty e i0 z d.sz bytes ht hi hz0 hz1 hz2 hz hs0 v xs.length inner (q_move hown (fun k hk => Below.heap_alloc W _ k (q_lt hown k hk))) ⟨W.heap.size, 0, none⟩ 1 1 cs (by rw [hcl, Nat.one_mul])
        (by simpa using World.news_of_block (cs := cs.toArray) (t := e) (fr := (0, 0)) (heap_alloc_new W (.cells cs.toArray e))) (d.K_one hp) (by omega) (by simp only [maxLen]; omega) hl (by omega)
      rw [hrun] at hrun2
      injection hrun2 with _ hw
      subst hw
      exact lt1 hg2
    refine ⟨v1, w1, hrun, .inl (Kd.Q_mono (Kd.Q_bound h1) (fun k hk => ?_)), h3, hs1⟩
    rcases hk.1 with hf | hf
    · exact .inl hf
    · exact .inr ⟨hf, hk.2.2.1⟩
  · obtain ⟨i0, hi, hzz⟩ := Option.map_eq_some_iff.1 hinfo
    simp only [Prod.mk.injEq] at hzz
    obtain ⟨hz0, hz1, hz2⟩ := hzz
    obtain ⟨olds, ho, hoc⟩ := row_of_C hC xs.length (Nat.le_refl _)
    rw [List.take_length] at ho
    have hcl := d.K_len hp
    obtain ⟨v1, w1, hrun, hown, hg⟩ := run_append_arg_grows (P := P) (w := W.alloc (.cells cs.toArray e)) t ty e i0 z d.sz bytes ht hi hz0 hz1 hz2 hz hs0 a xs.length xs.length olds ho.1
      (fun j u hj => by
        have := hoc j u hj
        exact cnew this) ⟨W.heap.size, 0, none⟩ 1 1 cs (by rw [hcl, Nat.one_mul])
      (by simpa using World.news_of_block (cs := cs.toArray) (t := e) (fr := (0, 0)) (heap_alloc_new W (.cells cs.toArray e))) (by omega) (by simp only [maxLen]; omega) hl
    have hs1 := lt1 hg
    have hg1 : W.grownBy w1 none := World.grownBy.trans (World.grownBy_alloc W _ _) hg
    refine ⟨v1, w1, hrun, .inl ?_, ⟨hg1.os, hg1.tape, hg1.output, hg1.size, fun k hk _ => hg1.block k hk (by simp)⟩, hs1⟩
    have hq : QRow w1 (W.alloc (.cells cs.toArray e)).heap.size e d.sz v1 (xs.length + 1) (olds ++ cs) := q_of_own hown
    refine ⟨fun k hk => ?_, olds ++ cs, by rw [List.length_append, List.length_singleton]; exact q_lower hq (Nat.zero_le _), ?_⟩
    · have h1 := (q_typed hq k hk).1
      have h2 := q_lt hq k hk
      simp at h1
      exact .inr ⟨by omega, h2⟩
    · exact (ho.imp_ (fun _ _ hq => hd.m (hd.k hq))).snoc (hd.m (hd.k hp)) hcl
/-- append(xs, ys...), ys not empty. -/
theorem Own.appends {P : Program} (hd : Flat d) (t ty : TypeId) (z : Value) (bytes : Nat) (ht : P.underlying t = some (.slice e))
    (hinfo : (P.info? e).map (fun i => (i.zero, i.size, i.bytes)) = some (some z, d.sz, bytes)) (hz : z.cells.size = d.sz) (hs0 : 0 < d.sz) (hb0 : 0 < bytes)
    (ys : List α) (B : Addr) (cB : Nat) (hy : d.C W (some B) ys.length ys) (hy0 : 0 < ys.length) (h : Own d e W F v xs) (hF : ∀ k, F k → k < W.heap.size) (hl : (xs.length + ys.length) * bytes ≤ 140737488355328) :
    ∃ v1 w1, (Builtin.append_ #[t, t] ty #[v, .slice (some B) ys.length cB]).run P W = .ok v1 w1 ∧
      Own d e w1 (fun k => F k ∨ (W.heap.size ≤ k ∧ k < w1.heap.size)) v1 (xs ++ ys) ∧ W.grownBy w1 v.ownBlock := by
  have hlen : xs.length + ys.length ≤ 140737488355328 := Nat.le_trans (Nat.le_mul_of_pos_right _ hb0) hl
  obtain ⟨i0, hi, hzz⟩ := Option.map_eq_some_iff.1 hinfo
  simp only [Prod.mk.injEq] at hzz
  obtain ⟨hz0, hz1, hz2⟩ := hzz
  obtain ⟨news, hn, hnc⟩ := row_of_C hy ys.length (Nat.le_refl _)
  rw [List.take_length] at hn
  have hone : ∀ u ∈ news, u.oneCell' = true := by
    intro u hu
    obtain ⟨j, hj, hju⟩ := List.getElem_of_mem hu
    have hjlt : j / d.sz < ys.length := by
      rw [Nat.div_lt_iff_lt_mul hs0, ← hn.1]
      exact hj
    have h1 := hn.2 (j / d.sz) _ (List.getElem?_eq_getElem hjlt)
    refine d.K_one h1 u ?_
    refine List.mem_iff_getElem?.2 ⟨j % d.sz, ?_⟩
    rw [List.getElem?_take, if_pos (Nat.mod_lt _ hs0), List.getElem?_drop, Nat.div_add_mod', List.getElem?_eq_getElem hj, hju]
  rcases h with h | ⟨a, rfl, hC, hA⟩
  · obtain ⟨h0, inner, hown, hr⟩ := h
    obtain ⟨v1, w1, hrun, hq, hg, hat⟩ := q_append (P := P) W 0 t ty e i0 z d.sz bytes ht hi hz0 hz1 hz2 hz hs0 v xs.length inner hown B ys.length cB news hn.1 hnc hone hy0 (by simp only [maxLen]; omega) hl (by omega)
    refine ⟨v1, w1, hrun, .inl ⟨fun k hk => ?_, inner ++ news, by rw [List.length_append]; exact hq, ?_⟩, hg⟩
    · rcases hat with hat | ⟨b, hb, hle⟩
      · rw [hat] at hk
        exact .inl (h0 k hk)
      · have := q_lt hq k hk
        rw [hb] at hk
        injection hk with hk
        exact .inr ⟨by omega, this⟩
    · refine reps_append (hr.imp_ (fun _ _ h => hd.m (hd.k (d.K_of_M h)))) (hn.imp_ (fun _ _ h => hd.m (hd.k h)))
  · obtain ⟨olds, ho, hoc⟩ := row_of_C hC xs.length (Nat.le_refl _)
    rw [List.take_length] at ho
    obtain ⟨v1, w1, hrun, hown, hg⟩ := run_append_arg_grows (P := P) (w := W) t ty e i0 z d.sz bytes ht hi hz0 hz1 hz2 hz hs0 a xs.length xs.length olds ho.1 hoc B ys.length cB news hn.1 hnc (by omega) (by simp only [maxLen]; omega) hl
    refine ⟨v1, w1, hrun, .inl ?_, ⟨hg.os, hg.tape, hg.output, hg.size, fun k hk _ => hg.block k hk (by simp)⟩⟩
    have hq : QRow w1 W.heap.size e d.sz v1 (xs.length + ys.length) (olds ++ news) := q_of_own hown
    refine ⟨fun k hk => .inr ⟨(q_typed hq k hk).1, q_lt hq k hk⟩, olds ++ news, by rw [List.length_append]; exact q_lower hq (Nat.zero_le _), ?_⟩
    exact reps_append (ho.imp_ (fun _ _ h => hd.m (hd.k h))) (hn.imp_ (fun _ _ h => hd.m (hd.k h)))
/-- xs[k:n:n]. -/
theorem Rd.cut {k : Nat} (h : Rd d w F v xs) (hk : k ≤ xs.length) : ∃ A c, v = .slice A xs.length c ∧ xs.length ≤ c ∧
    Own d e w F (.slice (if xs.length = k then A else A.map (·.add (k * d.sz))) (xs.length - k) (xs.length - k)) (xs.drop k) := by
  obtain ⟨A, c, rfl, hl, hC, hA⟩ := h
  refine ⟨A, c, rfl, hl, ?_⟩
  have h1 := Kd.C_drop hC hk (Nat.le_refl _)
  cases A with
  | none =>
    have h0 : xs.length = 0 := by
      by_cases h0 : 0 < xs.length
      · obtain ⟨_, e, _⟩ := hC.2.2 h0
        cases e
      · omega
    obtain rfl := List.eq_nil_of_length_eq_zero h0
    simpa using Own.nil d e w F
  | some a =>
    refine .inr ⟨if xs.length = k then a else a.add (k * d.sz), ?_, ?_, ?_⟩
    · rw [List.length_drop]
      split <;> simp_all
    · split
      · rw [if_pos (by assumption)] at h1; exact h1
      · rw [if_neg (by assumption)] at h1; exact h1
    · split
      · exact hA a rfl
      · have : (a.add (k * d.sz)).block = a.block := by unfold Addr.add; split <;> rfl
        rw [this]
        exact hA a rfl
/-- xs[k:], to be appended to. -/
theorem Own.drop {A : Option Addr} {c k : Nat} (h : Own d e w F (.slice A xs.length c) xs) (hk : k ≤ xs.length) : Own d e w F (.slice (if c = k then A else A.map (·.add (k * d.sz))) (xs.length - k) (c - k)) (xs.drop k) := by
  rcases h with h | ⟨a, ev, hC, hA⟩
  · exact .inl (Kd.Q_drop h hk)
  · injection ev with e1 _ e3
    subst e1 e3
    obtain ⟨A', c', e, _, h1⟩ := Rd.cut (e := e) (F := F) (d := d) (w := w) (v := .slice (some a) xs.length xs.length) ⟨some a, xs.length, rfl, Nat.le_refl _, hC, fun a' ha' => by cases ha'; exact hA⟩ hk
    injection e with e1
    subst e1
    exact h1
/-- A new, empty slice. -/
theorem Own.empty {g : Nat} {cs : Array Value} (hg : w.heap[g]? = some (.cells cs e (0, 0))) (hF : F g) : Own d e w F (.slice (some ⟨g, 0, none⟩) 0 0) [] := by
  refine .inl ⟨fun k hk => ?_, [], ⟨by simp, .inl ⟨rfl, some ⟨g, 0, none⟩, rfl, fun a ha => ?_⟩⟩, Reps.none _ _⟩
  · have : g = k := by simpa [Value.ownBlock] using hk
    rw [← this]
    exact hF
  · cases ha
    exact ⟨Nat.zero_le _, cs, hg⟩
theorem Rd.set {a : Addr} {u : Value} (hd : Flat d) (h : Rd d w F v xs) (ha : ¬ F a.block) : Rd d (w.setCell a u) F v xs :=
  h.same hd (fun k hk => Below.heap_setCell _ _ _ _ (fun e => ha (e ▸ hk)))
theorem Own.set {a : Addr} {u : Value} (hd : Flat d) (h : Own d e w F v xs) (ha : ¬ F a.block) : Own d e (w.setCell a u) F v xs :=
  h.same hd (fun k hk => Below.heap_setCell _ _ _ _ (fun e => ha (e ▸ hk)))
theorem Rd.alloc (hd : Flat d) (h : Rd d w F v xs) (o : Obj) (hF : ∀ k, F k → k < w.heap.size) : Rd d (w.alloc o) F v xs := h.same hd (fun k hk => Below.heap_alloc _ _ _ (hF k hk))
/-- append([]T{}, ys...). -/
theorem Own.copied {P : Program} (hd : Flat d) (t ty : TypeId) (z : Value) (bytes : Nat) (ht : P.underlying t = some (.slice e)) (ht' : P.underlying t = some (.slice (P.elem t)))
    (hinfo : (P.info? e).map (fun i => (i.zero, i.size, i.bytes)) = some (some z, d.sz, bytes)) (hz : z.cells.size = d.sz) (hs0 : 0 < d.sz) (hb0 : 0 < bytes)
    {g : Nat} {cs : Array Value} (hg : W.heap[g]? = some (.cells cs e (0, 0))) (ys : List α) (A : Option Addr) (c : Nat) (h : Rd d W G (.slice A ys.length c) ys) (hl : ys.length * bytes ≤ 140737488355328) :
    ∃ v1 w1, (Builtin.append_ #[t, t] ty #[.slice (some ⟨g, 0, none⟩) 0 0, .slice A ys.length c]).run P W = .ok v1 w1 ∧
      Own d e w1 (fun k => k = g ∨ (W.heap.size ≤ k ∧ k < w1.heap.size)) v1 ys ∧ W.grownBy w1 (some g) := by
  have hgl := blk_lt hg
  have hO : Own d e W (fun k => k = g) (.slice (some ⟨g, 0, none⟩) 0 0) [] := Own.empty hg rfl
  by_cases h0 : 0 < ys.length
  · obtain ⟨A', c', ev, hc, hC, hA⟩ := h
    injection ev with e1 _ e3
    subst e1 e3
    obtain ⟨B, rfl, _⟩ := hC.2.2 h0
    obtain ⟨v1, w1, hr, ho, hgr⟩ := hO.appends (P := P) hd t ty z bytes ht hinfo hz hs0 hb0 ys B c hC h0 (fun k hk => by rw [hk]; exact hgl) (by simpa using hl)
    exact ⟨v1, w1, hr, ho, hgr⟩
  · obtain rfl : ys = [] := List.eq_nil_of_length_eq_zero (by omega)
    obtain ⟨i0, hi, hzz⟩ := Option.map_eq_some_iff.1 hinfo
    refine ⟨.slice (some ⟨g, 0, none⟩) 0 0, W, ?_, hO.mono (fun k hk => .inl hk), ⟨rfl, rfl, rfl, Nat.le_refl _, fun _ _ _ => rfl⟩⟩
    have hsz : (sizeOf e).run P W = .ok d.sz W := by
      simp only [Prod.mk.injEq] at hzz
      simp [sizeOf, typeInfo, hi, hzz.2.1]
    cases A <;> simp [Builtin.append_, run_underlying ht, hsz, Result.andThen, Builtin.lenOf, Builtin.firstCells, storeCells, go_sem]
/-- xs[k:]. -/
theorem Rd.drop {A : Option Addr} {c k : Nat} (h : Rd d w F (.slice A xs.length c) xs) (hk : k ≤ xs.length) : Rd d w F (.slice (if c = k then A else A.map (·.add (k * d.sz))) (xs.length - k) (c - k)) (xs.drop k) := by
  obtain ⟨A', c', e, hl, hC, hA⟩ := h
  injection e with e1 _ e3
  subst e1 e3
  refine ⟨_, c - k, by rw [List.length_drop], by rw [List.length_drop]; omega, Kd.C_drop hC hk hl, fun a ha => ?_⟩
  cases A with
  | none => split at ha <;> simp at ha
  | some b =>
    split at ha
    · exact hA a ha
    · have e : b.add (k * d.sz) = a := by simpa using ha
      have : (b.add (k * d.sz)).block = b.block := by unfold Addr.add; split <;> rfl
      rw [← e, this]
      exact hA b rfl
/-- xs[:k]. -/
theorem Rd.take {A : Option Addr} {c k : Nat} (h : Rd d w F (.slice A xs.length c) xs) (hk : k ≤ xs.length) : Rd d w F (.slice A k c) (xs.take k) := by
  obtain ⟨A', c', e, hl, hC, hA⟩ := h
  injection e with e1 _ e3
  subst e1 e3
  have hk' : (xs.take k).length = k := by rw [List.length_take]; omega
  exact ⟨A, c, by rw [hk'], by omega, Kd.C_take hC hk, hA⟩
end
section
variable {P : Program} {ops : Array Oper} {rest : List Oper} {o : Oper} {a : Act} {Q : Exit → Act → World → Prop}
/-- An append whose run is known. -/
theorem wp_append {W w1 : World} {v1 v u : Value} (hgd : o.guard = none) (s x : Operand) (t : TypeId) (ho : o.op = .call { callee := .builtin .append, args := #[s, x], argTypes := #[t, t] })
    (hs : a.eval s = v) (hx : a.eval x = u) (hrun : (Builtin.append_ #[t, t] o.type #[v, u]).run P W = .ok v1 w1) (h : wpList P ops Q rest (a.put o.dst v1) w1) : wpList P ops Q (o :: rest) a W := by
  refine wpList_plain hgd fun K hK => ?_
  unfold Oper.wp execOp
  simp only [ho, resolve, invoke, builtin, Sem.run_bind, Sem.run_pure, Result.andThen_ok, List.map_toArray, List.map_cons, List.map_nil, hs, hx, hrun]
  exact hK _ _ h
end
end Go.Proofs.Ytmlfnlmdnhblmaa.Flat
namespace Go.Proofs.Ytmlfnlmdnhblmaa.Open
open Go.RowKit Base
section
variable {H : Type} {enc : TypeId × Value → H} {P : Program} {w : World}
/-- Some cells read as a value of a type, and whatever is in it is no larger than what may come in. -/
def Tr {H : Type} (enc : TypeId × Value → H) (P : Program) (w : World) (t : TypeId) (cs : List Value) : Prop :=
  ∃ fuel x, DataW.trod enc P w 0 (fun _ => true) true fuel t cs = some x ∧ ∀ n ∈ x.1.weights P t, n ≤ reachBytes

/-- An argument as the row has it: how it reads, and how large it is. -/
def TrodZ {H : Type} (enc : TypeId × Value → H) (P : Program) (w : World) (t : TypeId) (v : Value) (d : DataW H) (ps : List MemPlace) : Prop :=
  DataW.Trod enc P w 0 (fun _ => true) true t v d ps ∧ ∀ n ∈ d.weights P t, n ≤ reachBytes

theorem tr_of {t : TypeId} {v : Value} {d : DataW H} {ps : List MemPlace} (h : TrodZ enc P w t v d ps) : Tr enc P w t v.cells.toList := by
  obtain ⟨⟨f, h⟩, hz⟩ := h
  exact ⟨f, _, h, hz⟩

theorem tr_int {t : TypeId} {k : IntKind} {cs : List Value} (hu : P.underlying t = some (.int k)) (h : Tr enc P w t cs) : ∃ n, cs = [.int k n] ∧ (Lit.int k n).wf = true := by
  obtain ⟨f, x, h, _⟩ := h
  cases f with
  | zero => simp [DataW.trod] at h
  | succ f =>
    simp only [DataW.trod, hu] at h
    split at h <;> simp_all

theorem tr_bool {t : TypeId} {cs : List Value} (hu : P.underlying t = some .bool) (h : Tr enc P w t cs) : ∃ b, cs = [.bool b] := by
  obtain ⟨f, x, h, _⟩ := h
  cases f with
  | zero => simp [DataW.trod] at h
  | succ f =>
    simp only [DataW.trod, hu] at h
    split at h <;> simp_all

theorem tr_string {t : TypeId} {cs : List Value} (hu : P.underlying t = some .string) (h : Tr enc P w t cs) : ∃ s, cs = [.string s] ∧ s.size ≤ reachBytes := by
  obtain ⟨f, x, h, hz⟩ := h
  cases f with
  | zero => simp [DataW.trod] at h
  | succ f =>
    simp only [DataW.trod, hu] at h
    split at h <;> try (simp_all; done)
    rename_i s _
    split at h
    · obtain rfl := (Option.some.inj h).symm
      refine ⟨s, rfl, ?_⟩
      have := hz s.data.toList.length (by simp [DataW.weights])
      rw [Array.length_toList] at this
      exact this
    · simp at h

theorem mapM_at {α β : Type} {g : α → Option β} : ∀ {l : List α} {r : List β}, l.mapM g = some r → r.length = l.length ∧ ∀ (i : Nat) (a : α), l[i]? = some a → ∃ b, r[i]? = some b ∧ g a = some b
  | [], r, h => by
    obtain rfl : [] = r := by simpa using h
    exact ⟨rfl, fun i a h => by simp at h⟩
  | x :: l, r, h => by
    simp only [List.mapM_cons, Option.pure_def, Option.bind_eq_bind] at h
    cases hx : g x with
    | none => simp [hx] at h
    | some b =>
      simp only [hx, Option.bind_some] at h
      cases hl : l.mapM g with
      | none => simp [hl] at h
      | some bs =>
        simp only [hl, Option.bind_some, Option.some.injEq] at h
        subst h
        obtain ⟨e1, e2⟩ := mapM_at hl
        refine ⟨by simp [e1], fun i a hi => ?_⟩
        cases i with
        | zero =>
          obtain rfl : x = a := by simpa using hi
          exact ⟨b, rfl, hx⟩
        | succ i =>
          obtain ⟨y, h1, h2⟩ := e2 i a (by simpa using hi)
          exact ⟨y, by simpa using h1, h2⟩
theorem all_mem {e : TypeId} : ∀ {l : List (DataW H)} {d : DataW H}, d ∈ l → ∀ n ∈ d.weights P e, n ∈ DataW.weightsAll P e l
  | y :: l, d, hd, n, hn => by
    simp only [DataW.weightsAll, List.mem_append]
    rcases List.mem_cons.1 hd with rfl | hd
    · exact .inl hn
    · exact .inr (all_mem hd n hn)

theorem tr_array {t e : TypeId} {n : Nat} {cs : List Value} (hu : P.underlying t = some (.array n e)) (h : Tr enc P w t cs) :
    cs.length = P.cellsOf t ∧ ∀ i, i < n → Tr enc P w e ((cs.drop (i * P.cellsOf e)).take (P.cellsOf e)) := by
  obtain ⟨f, x, h, hz⟩ := h
  cases f with
  | zero => simp [DataW.trod] at h
  | succ f =>
    simp only [DataW.trod, hu] at h
    split at h
    · rename_i hl
      refine ⟨hl, fun i hi => ?_⟩
      cases hm : (List.range n).mapM fun i => DataW.trod enc P w 0 (fun _ => true) true f e ((cs.drop (i * P.cellsOf e)).take (P.cellsOf e)) with
      | none => simp [hm] at h
      | some r =>
        simp only [hm, Option.map_some, Option.some.injEq] at h
        subst h
        obtain ⟨b, hb, hg⟩ := (mapM_at hm).2 i i (List.getElem?_range hi)
        refine ⟨f, b, hg, fun n hn => hz n ?_⟩
        simp only [DataW.weights, hu]
        exact all_mem (List.mem_map.2 ⟨b, List.mem_of_getElem? hb, rfl⟩) n hn
    · simp at h

theorem tr_struct {t : TypeId} {fs : Array Field} {cs : List Value} (hu : P.underlying t = some (.struct fs)) (h : Tr enc P w t cs) :
    cs.length = P.cellsOf t ∧ ∀ f ∈ fs.toList, Tr enc P w f.type ((cs.drop f.offset).take (P.cellsOf f.type)) := by
  obtain ⟨f, x, h, hz⟩ := h
  cases f with
  | zero => simp [DataW.trod] at h
  | succ f =>
    simp only [DataW.trod, hu] at h
    split at h
    · rename_i hl
      refine ⟨hl, fun g hg => ?_⟩
      cases hm : fs.toList.mapM fun g => DataW.trod enc P w 0 (fun _ => true) true f g.type ((cs.drop g.offset).take (P.cellsOf g.type)) with
      | none => simp [hm] at h
      | some r =>
        simp only [hm, Option.map_some, Option.some.injEq] at h
        subst h
        obtain ⟨j, hj⟩ := List.mem_iff_getElem?.1 hg
        obtain ⟨b, hb, hgb⟩ := (mapM_at hm).2 j g hj
        refine ⟨f, b, hgb, fun n hn => hz n ?_⟩
        simp only [DataW.weights, hu]
        exact DataW.weights_mem_each (j := j) (by rw [List.getElem?_map, hj]; rfl) (by rw [List.getElem?_map, hb]; rfl) n hn
    · simp at h

theorem tr_slice {t e : TypeId} {cs : List Value} (hu : P.underlying t = some (.slice e)) (h : Tr enc P w t cs) :
    (cs = [.slice none 0 0]) ∨ ∃ a len cap, cs = [.slice (some a) len cap] ∧ len ≤ cap ∧ cap ≤ maxLen ∧ cap * P.bytesOf e ≤ reachBytes ∧ ∀ i, i < len → ∃ c, w.cells? 0 (a.add (i * P.cellsOf e)) (P.cellsOf e) = some c ∧ Tr enc P w e c := by
  obtain ⟨f, x, h, hz⟩ := h
  cases f with
  | zero => simp [DataW.trod] at h
  | succ f =>
    simp only [DataW.trod, hu] at h
    split at h <;> try (simp_all; done)
    rename_i _ _ e' a len cap hu' 
    obtain rfl : e = e' := by simpa using hu'
    refine .inr ⟨a, len, cap, rfl, ?_⟩
    split at h
    · rename_i hb
      cases hm : (List.range len).mapM fun i => (w.cells? 0 (a.add (i * P.cellsOf e)) (P.cellsOf e)).bind (DataW.trod enc P w 0 (fun _ => true) true f e) with
      | none => simp [hm] at h
      | some r =>
        cases hm2 : (List.range (cap - len)).mapM fun j => (w.cells? 0 (a.add ((len + j) * P.cellsOf e)) (P.cellsOf e)).bind (DataW.trod enc P w 0 (fun _ => true) true f e) with
        | none => simp [hm, hm2] at h
        | some r2 =>
          simp only [hm, hm2, if_true, Option.bind_some, Option.map_some, Option.some.injEq] at h
          subst h
          obtain ⟨l1, h1⟩ := mapM_at hm
          obtain ⟨l2, _⟩ := mapM_at hm2
          rw [List.length_range] at l1 l2
          refine ⟨hb.2.1, hb.2.2, ?_, fun i hi => ?_⟩
          · have := hz ((r.map (·.1)).length + (r2.map (·.1)).length |>.mul (P.bytesOf e)) (by simp [DataW.weights, hu])
            simp only [List.length_map, l1, l2] at this
            have e1 : len + (cap - len) = cap := by omega
            rw [e1] at this
            exact this
          · obtain ⟨b, hbi, hgb⟩ := h1 i i (List.getElem?_range hi)
            cases hc : w.cells? 0 (a.add (i * P.cellsOf e)) (P.cellsOf e) with
            | none => simp [hc] at hgb
            | some c =>
              refine ⟨c, rfl, f, b, by simpa [hc] using hgb, fun n hn => hz n ?_⟩
              simp only [DataW.weights, hu, List.mem_cons, List.mem_append]
              exact .inr (.inl (all_mem (List.mem_map.2 ⟨b, List.mem_of_getElem? hbi, rfl⟩) n hn))
    · simp at h

/-- An argument that is an array. -/
theorem agg_array {r : Reach} {base : Nat} {t e : TypeId} {n : Nat} {v : Value} {d : DataW H} {ps : List MemPlace} (hu : P.underlying t = some (.array n e)) (hok : Value.okWide P w r base t v)
    (h : TrodZ enc P w t v d ps) : ∃ cs : Array Value, v = .agg cs ∧ cs.size = P.cellsOf t ∧ Tr enc P w t cs.toList := by
  unfold Value.okWide at hok
  rw [hu] at hok
  obtain ⟨cs, rfl, hs, _⟩ := hok
  exact ⟨cs, rfl, hs, tr_of h⟩
/-- An argument that is a struct. -/
theorem agg_struct {r : Reach} {base : Nat} {t : TypeId} {fs : Array Field} {v : Value} {d : DataW H} {ps : List MemPlace} (hu : P.underlying t = some (.struct fs)) (hok : Value.okWide P w r base t v)
    (h : TrodZ enc P w t v d ps) : ∃ cs : Array Value, v = .agg cs ∧ cs.size = P.cellsOf t ∧ Tr enc P w t cs.toList := by
  unfold Value.okWide at hok
  rw [hu] at hok
  obtain ⟨cs, rfl, hs, _⟩ := hok
  exact ⟨cs, rfl, hs, tr_of h⟩

theorem two_u64 {t e : TypeId} {cs : Array Value} (hu : P.underlying t = some (.array 2 e)) (he : P.underlying e = some (.int .u64)) (hn : P.cellsOf t = 2 ∧ P.cellsOf e = 1) (hs : cs.size = P.cellsOf t) (h : Tr enc P w t cs.toList) :
    ∃ x y, cs = #[.int .u64 x, .int .u64 y] ∧ 0 ≤ x ∧ x < 18446744073709551616 ∧ 0 ≤ y ∧ y < 18446744073709551616 := by
  obtain ⟨h1, h2⟩ := hn
  rw [h1] at hs
  obtain ⟨_, h⟩ := tr_array hu h
  rw [h2] at h
  obtain ⟨l⟩ := cs
  match l, hs with
  | [a, b], _ =>
    obtain ⟨x, e0, w0⟩ := tr_int he (h 0 (by omega))
    obtain ⟨y, e1, w1⟩ := tr_int he (h 1 (by omega))
    simp at e0 e1
    exact ⟨x, y, by rw [e0, e1], (wf_u64 w0).1, (wf_u64 w0).2, (wf_u64 w1).1, (wf_u64 w1).2⟩
end
end Go.Proofs.Ytmlfnlmdnhblmaa.Open
namespace Go.Proofs.Ytmlfnlmdnhblmaa.Open
open Go.RowKit Base
section
variable {H : Type} {enc : TypeId × Value → H} {P : Program} {w : World}
theorem u8_of {n : Int} (h : (Lit.int .u8 n).wf = true) : ∃ c : UInt8, n = (c.toNat : Int) := by
  obtain ⟨h0, h1⟩ := wf_u8 h
  refine ⟨UInt8.ofNat n.toNat, ?_⟩
  rw [UInt8.toNat_ofNat']
  omega
theorem four_u8 {t e : TypeId} {cs : Array Value} (hu : P.underlying t = some (.array 4 e)) (he : P.underlying e = some (.int .u8)) (hn : P.cellsOf t = 4 ∧ P.cellsOf e = 1) (hs : cs.size = P.cellsOf t) (h : Tr enc P w t cs.toList) :
    ∃ f : Nat → UInt8, cs = #[.int .u8 ((f 0).toNat : Int), .int .u8 ((f 1).toNat : Int), .int .u8 ((f 2).toNat : Int), .int .u8 ((f 3).toNat : Int)] := by
  obtain ⟨h1, h2⟩ := hn
  rw [h1] at hs
  obtain ⟨_, h⟩ := tr_array hu h
  rw [h2] at h
  obtain ⟨l⟩ := cs
  match l, hs with
  | [a, b, c, d], _ =>
    obtain ⟨x, e0, w0⟩ := tr_int he (h 0 (by omega))
    obtain ⟨y, e1, w1⟩ := tr_int he (h 1 (by omega))
    obtain ⟨z, e2, w2⟩ := tr_int he (h 2 (by omega))
    obtain ⟨u, e3, w3⟩ := tr_int he (h 3 (by omega))
    obtain ⟨x, rfl⟩ := u8_of w0
    obtain ⟨y, rfl⟩ := u8_of w1
    obtain ⟨z, rfl⟩ := u8_of w2
    obtain ⟨u, rfl⟩ := u8_of w3
    simp at e0 e1 e2 e3
    exact ⟨fun i => if i = 0 then x else if i = 1 then y else if i = 2 then z else u, by rw [e0, e1, e2, e3]; rfl⟩
end
end Go.Proofs.Ytmlfnlmdnhblmaa.Open
namespace Go.Proofs.Ytmlfnlmdnhblmaa.Open
open Go.RowKit Base Go.Proofs.YtmlfnlmdnhblmaaW.PrintWords
section
variable {H : Type} {enc : TypeId × Value → H} {P : Program} {w : World}
/-- A type's cells open as a kind's. -/
def Opens (P : Program) {α : Type} (t : TypeId) (d : Kd α) (G : α → Prop) : Prop :=
  ∀ (H : Type) (enc : TypeId × Value → H) (w : World) (cs : List Value), Tr enc P w t cs → ∃ a, d.K w a cs ∧ G a
theorem opens_int {t : TypeId} {k : IntKind} (hu : P.underlying t = some (.int k)) : Opens P t (Kd.int k) (fun n => (Lit.int k n).wf = true) := by
  intro H enc w cs h
  obtain ⟨n, rfl, hw⟩ := tr_int hu h
  exact ⟨n, rfl, hw⟩
theorem opens_bool {t : TypeId} (hu : P.underlying t = some .bool) : Opens P t Kd.bool (fun _ => True) := by
  intro H enc w cs h
  obtain ⟨n, rfl⟩ := tr_bool hu h
  exact ⟨n, rfl, trivial⟩
theorem opens_string {t : TypeId} (hu : P.underlying t = some .string) : Opens P t Kd.string (fun s => s.size ≤ reachBytes) := by
  intro H enc w cs h
  obtain ⟨n, rfl, hs⟩ := tr_string hu h
  exact ⟨n, rfl, hs⟩
theorem cells_spec {base : Nat} {a : Addr} {n : Nat} {c : List Value} (h : w.cells? base a n = some c) : c.length = n ∧ ∀ i u, c[i]? = some u → w.cell? (a.add i) = some u := by
  unfold World.cells? at h
  split at h
  · have hg : ∀ {α β : Type} {g : α → Option β} {l : List α} {r : List β}, l.mapM g = some r → r.length = l.length ∧ ∀ (i : Nat) (u : β), r[i]? = some u → ∃ x, l[i]? = some x ∧ g x = some u := by
      intro α β g l
      induction l with
      | nil =>
        intro r h
        obtain rfl : [] = r := by simpa using h
        exact ⟨rfl, fun i u h => by simp at h⟩
      | cons x l ih =>
        intro r h
        simp only [List.mapM_cons, Option.pure_def, Option.bind_eq_bind] at h
        cases hx : g x with
        | none => simp [hx] at h
        | some b =>
          simp only [hx, Option.bind_some] at h
          cases hl : l.mapM g with
          | none => simp [hl] at h
          | some bs =>
            simp only [hl, Option.bind_some, Option.some.injEq] at h
            subst h
            obtain ⟨e1, e2⟩ := ih hl
            refine ⟨by simp [e1], fun i u hi => ?_⟩
            cases i with
            | zero =>
              obtain rfl : b = u := by simpa using hi
              exact ⟨x, rfl, hx⟩
            | succ i =>
              obtain ⟨y, h1, h2⟩ := e2 i u (by simpa using hi)
              exact ⟨y, by simpa using h1, h2⟩
    obtain ⟨e1, e2⟩ := hg h
    refine ⟨by rw [e1, List.length_range], fun i u hi => ?_⟩
    obtain ⟨y, h1, h2⟩ := e2 i u hi
    obtain ⟨hl, h1⟩ := List.getElem?_eq_some_iff.1 h1
    rw [List.getElem_range] at h1
    rw [h1]
    exact h2
  · simp at h
theorem opens_slice {α : Type} {t e : TypeId} {d : Kd α} {G : α → Prop} (hu : P.underlying t = some (.slice e)) (he : Opens P e d G) (hs : P.cellsOf e = d.sz) :
    Opens P t (Kd.slice e d) (fun l => (l.length ≤ maxLen ∧ l.length * P.bytesOf e ≤ reachBytes) ∧ ∀ x ∈ l, G x) := by
  intro H enc w cs h
  rcases tr_slice hu h with rfl | ⟨a, len, cap, rfl, h1, h2, hby, h3⟩
  · exact ⟨[], ⟨none, 0, rfl, Nat.le_refl _, rfl, by simp, (fun h => by simp at h)⟩, ⟨by simp, by simp⟩, (fun x hx => by cases hx)⟩
  · have key : ∀ n, n ≤ len → ∃ l : List α, l.length = n ∧ (∀ x ∈ l, G x) ∧ ∀ j p, l[j]? = some p → ∃ c, c.length = d.sz ∧ d.K w p c ∧ ∀ i u, c[i]? = some u → w.cell? (a.add (j * d.sz + i)) = some u := by
      intro n
      induction n with
      | zero => exact fun _ => ⟨[], rfl, (fun x hx => by cases hx), (fun j p h => by simp at h)⟩
      | succ n ih =>
        intro hn
        obtain ⟨l, hl, hG, hc⟩ := ih (by omega)
        obtain ⟨c, hcell, htr⟩ := h3 n (by omega)
        obtain ⟨x, hK, hGx⟩ := he H enc w c htr
        obtain ⟨hlen, hget⟩ := cells_spec hcell
        refine ⟨l ++ [x], by simp [hl], fun y hy => ?_, fun j p hj => ?_⟩
        · rcases List.mem_append.1 hy with hy | hy
          · exact hG y hy
          · rw [List.mem_singleton.1 hy]; exact hGx
        · rcases Nat.lt_or_ge j l.length with hjl | hjl
          · rw [List.getElem?_append_left hjl] at hj
            exact hc j p hj
          · have hj' : j = n := by
              have := (List.getElem?_eq_some_iff.1 hj).1
              rw [List.length_append, List.length_singleton] at this
              omega
            subst hj'
            rw [List.getElem?_append_right hjl, hl, Nat.sub_self] at hj
            have hp : x = p := by simpa using hj
            subst hp
            refine ⟨c, by rw [hlen, hs], hK, fun i u hi => ?_⟩
            have := hget i u hi
            rw [hs, add_add] at this
            exact this
    obtain ⟨l, hl, hG, hc⟩ := key len (Nat.le_refl _)
    subst hl
    exact ⟨l, ⟨some a, cap, rfl, h1, rfl, by unfold maxLen at h2; omega, fun _ => ⟨a, rfl, hc⟩⟩, ⟨Nat.le_trans h1 h2, Nat.le_trans (Nat.mul_le_mul_right _ h1) hby⟩, hG⟩
theorem slice_arg {α : Type} {t e : TypeId} {k : Kd α} {G : α → Prop} {r : Reach} {base : Nat} {v : Value} {d : DataW H} {ps : List MemPlace}
    (hu : P.underlying t = some (.slice e)) (he : Opens P e k G) (hs : P.cellsOf e = k.sz) (hok : Value.okWide P w r base t v) (h : TrodZ enc P w t v d ps) :
    ∃ (A : Option Addr) (c : Nat) (l : List α), v = .slice A l.length c ∧ Kd.C k w A l.length l ∧ l.length ≤ c ∧ (l.length ≤ maxLen ∧ l.length * P.bytesOf e ≤ reachBytes) ∧ ∀ x ∈ l, G x := by
  obtain ⟨a, len, cap, rfl⟩ := Go.WideShapes.okWide_slice hu hok
  obtain ⟨l, ⟨A, c, e, hc, hC⟩, hl, hG⟩ := opens_slice hu he hs H enc w _ (tr_of h)
  have e' : [Value.slice a len cap] = [Value.slice A l.length c] := e
  exact ⟨A, c, l, (List.cons.inj e').1, hC, hc, hl, hG⟩
end
end Go.Proofs.Ytmlfnlmdnhblmaa.Open
namespace Go.Proofs.Ytmlfnlmdnhblmaa.Open
open Go.RowKit Base Go.Proofs.YtmlfnlmdnhblmaaW.PrintWords
section
variable {P : Program}
/-- Both. -/
def GPair {α β : Type} (G1 : α → Prop) (G2 : β → Prop) : α × β → Prop := fun x => G1 x.1 ∧ G2 x.2
/-- Fields in line, from an offset on. -/
def OpensF (P : Program) {α : Type} (fs : List Field) (off : Nat) (d : Kd α) (G : α → Prop) : Prop :=
  ∀ (H : Type) (enc : TypeId × Value → H) (w : World) (cs : List Value), cs.length = off + d.sz → (∀ f ∈ fs, Tr enc P w f.type ((cs.drop f.offset).take (P.cellsOf f.type))) → ∃ a, d.K w a (cs.drop off) ∧ G a
theorem fields_last {α : Type} {f : Field} {d : Kd α} {G : α → Prop} (h : Opens P f.type d G) (hs : P.cellsOf f.type = d.sz) : OpensF P [f] f.offset d G := by
  intro H enc w cs hl ht
  have h1 := ht f (List.mem_singleton.2 rfl)
  rw [hs, List.take_of_length_le (by rw [List.length_drop]; omega)] at h1
  exact h H enc w _ h1
theorem fields_cons {α β : Type} {f : Field} {fs : List Field} {d1 : Kd α} {d2 : Kd β} {G1 : α → Prop} {G2 : β → Prop} (h : Opens P f.type d1 G1) (hs : P.cellsOf f.type = d1.sz) (hr : OpensF P fs (f.offset + d1.sz) d2 G2) :
    OpensF P (f :: fs) f.offset (Kd.pair d1 d2) (GPair G1 G2) := by
  intro H enc w cs hl ht
  have hl' : cs.length = f.offset + (d1.sz + d2.sz) := hl
  have h1 := ht f (List.mem_cons_self ..)
  rw [hs] at h1
  obtain ⟨a, ha, ga⟩ := h H enc w _ h1
  obtain ⟨b, hb, gb⟩ := hr H enc w cs (by omega) (fun g hg => ht g (List.mem_cons_of_mem _ hg))
  refine ⟨(a, b), ⟨_, _, ?_, ha, hb⟩, ga, gb⟩
  rw [← List.drop_drop, List.take_append_drop]
theorem opens_struct {α : Type} {t : TypeId} {fs : Array Field} {d : Kd α} {G : α → Prop} (hu : P.underlying t = some (.struct fs)) (hs : P.cellsOf t = d.sz) (h : OpensF P fs.toList 0 d G) : Opens P t d G := by
  intro H enc w cs ht
  obtain ⟨hl, hf⟩ := tr_struct hu ht
  exact h H enc w cs (by omega) hf
theorem opens_iso {α β : Type} {t : TypeId} {d : Kd α} {G : α → Prop} (h : Opens P t d G) (f : β → α) (g : α → β) (hg : ∀ a, f (g a) = a) : Opens P t (Kd.iso d f) (fun x => G (f x)) := by
  intro H enc w cs ht
  obtain ⟨a, ha, ga⟩ := h H enc w cs ht
  refine ⟨g a, ?_, ?_⟩
  · show d.K w (f (g a)) cs
    rw [hg]
    exact ha
  · show G (f (g a))
    rw [hg]
    exact ga
/-- An argument that is a struct, by its kind. -/
theorem struct_arg {H : Type} {enc : TypeId × Value → H} {w : World} {α : Type} {t : TypeId} {fs : Array Field} {k : Kd α} {G : α → Prop} {r : Reach} {base : Nat} {v : Value} {d : DataW H} {ps : List MemPlace}
    (hu : P.underlying t = some (.struct fs)) (hk : Opens P t k G) (hok : Value.okWide P w r base t v) (h : TrodZ enc P w t v d ps) :
    ∃ (a : α) (cs : Array Value), v = .agg cs ∧ k.K w a cs.toList ∧ G a := by
  obtain ⟨cs, rfl, hs, ht⟩ := agg_struct hu hok h
  obtain ⟨a, ha, ga⟩ := hk H enc w _ ht
  exact ⟨a, cs, rfl, ha, ga⟩
end
end Go.Proofs.Ytmlfnlmdnhblmaa.Open
namespace Go.Proofs.Ytmlfnlmdnhblmaa.Smp
open Go.RowKit Base Sp Flat Go.Proofs.YtmlfnlmdnhblmaaW.PrintWords
/-- A sample. -/
structure Smp where
  op : Int
  writer : Int
  frame : Int
  run : Int
  seq : Int
  key : List Int
  data : ByteArray
  good : (Lit.int .i64 op).wf = true ∧ (Lit.int .i64 writer).wf = true ∧ (Lit.int .u64 frame).wf = true ∧ (Lit.int .u64 run).wf = true ∧ (Lit.int .u64 seq).wf = true ∧ (key.length = 17 ∧ ∀ k ∈ key, (Lit.int .u8 k).wf = true) ∧ data.size ≤ maxLen
theorem Smp.ext' {x y : Smp} (h1 : x.op = y.op) (h2 : x.writer = y.writer) (h3 : x.frame = y.frame) (h4 : x.run = y.run) (h5 : x.seq = y.seq) (h6 : x.key = y.key) (h7 : x.data = y.data) : x = y := by
  cases x; cases y; simp_all
def head (x : Smp) : List Value := [.int .i64 x.op, .int .i64 x.writer, .int .u64 x.frame, .int .u64 x.run, .int .u64 x.seq]
def cells (x : Smp) : List Value := head x ++ (nums .u8 x.key ++ [.string x.data])
theorem key_len (x : Smp) : x.key.length = 17 := x.good.2.2.2.2.2.1.1
theorem cells_len (x : Smp) : (cells x).length = 23 := by
  unfold cells head
  rw [List.length_append, List.length_append, nums_length, key_len]
  rfl
theorem cells_one (x : Smp) : ∀ u ∈ cells x, u.oneCell' = true := by
  intro u hu
  unfold cells head at hu
  rcases List.mem_append.1 hu with hu | hu
  · simp at hu
    rcases hu with rfl | rfl | rfl | rfl | rfl <;> rfl
  · rcases List.mem_append.1 hu with hu | hu
    · unfold nums at hu
      obtain ⟨k, _, rfl⟩ := List.mem_map.1 hu
      rfl
    · rw [List.mem_singleton.1 hu]; rfl
/-- A sample's cells. -/
def ks : Kd Smp where
  sz := 23
  E := []
  K := fun _ x cs => cs = cells x
  M := fun _ _ _ x cs => cs = cells x
  K_len := fun h => by rw [h]; exact cells_len _
  K_one := fun h u hu => by rw [h] at hu; exact cells_one _ u hu
  K_below := fun _ h => h
  K_of_M := fun h => h
  M_mono := fun _ h => h
  M_bound := fun h => h
  M_move := fun _ h => h
  M_lower := fun _ h => h
theorem flat_ks : Flat ks := ⟨fun h => h, fun h => h⟩
theorem cells_inj {x y : Smp} (h : cells x = cells y) : x = y := by
  unfold cells at h
  obtain ⟨h1, h2⟩ := List.append_inj h rfl
  obtain ⟨h3, h4⟩ := List.append_inj h2 (by rw [nums_length, nums_length, key_len, key_len])
  unfold head at h1
  simp only [List.cons.injEq, Value.int.injEq, true_and, and_true] at h1
  have hk : x.key = y.key := by
    have := congrArg (List.map fun v => match v with | Value.int _ n => n | _ => 0) h3
    simpa [nums, List.map_map, Function.comp_def] using this
  simp only [List.cons.injEq, Value.string.injEq, and_true] at h4
  exact Smp.ext' h1.1 h1.2.1 h1.2.2.1 h1.2.2.2.1 h1.2.2.2.2 hk h4
/-- Bytes, one behind the other. -/
def kkey : Kd (List Int) where
  sz := 17
  E := []
  K := fun _ x cs => cs = nums .u8 x ∧ x.length = 17
  M := fun _ _ _ x cs => cs = nums .u8 x ∧ x.length = 17
  K_len := fun h => by rw [h.1, nums_length]; exact h.2
  K_one := fun h u hu => by
    rw [h.1] at hu
    unfold nums at hu
    obtain ⟨k, _, rfl⟩ := List.mem_map.1 hu
    rfl
  K_below := fun _ h => h
  K_of_M := fun h => h
  M_mono := fun _ h => h
  M_bound := fun h => h
  M_move := fun _ h => h
  M_lower := fun _ h => h
theorem bytes_of (cs : List Value) (h : ∀ v ∈ cs, ∃ n, v = .int .u8 n ∧ (Lit.int .u8 n).wf = true) : ∃ xs : List Int, cs = nums .u8 xs ∧ ∀ x ∈ xs, (Lit.int .u8 x).wf = true := by
  induction cs with
  | nil => exact ⟨[], rfl, fun x hx => by cases hx⟩
  | cons v cs ih =>
    obtain ⟨xs, rfl, hx⟩ := ih (fun u hu => h u (List.mem_cons_of_mem _ hu))
    obtain ⟨n, rfl, hw⟩ := h v (List.mem_cons_self ..)
    refine ⟨n :: xs, rfl, fun x hm => ?_⟩
    rcases List.mem_cons.1 hm with rfl | hm
    · exact hw
    · exact hx x hm
theorem opens_key : Open.Opens Try.prog 24 kkey (fun l => ∀ k ∈ l, (Lit.int .u8 k).wf = true) := by
  intro H enc w cs h
  obtain ⟨hl, ha⟩ := Open.tr_array Try.underlying24 h
  have e1 : Try.prog.cellsOf 24 = 17 := by kernel_rfl
  have e2 : Try.prog.cellsOf 5 = 1 := by kernel_rfl
  rw [e1] at hl
  rw [e2] at ha
  obtain ⟨xs, rfl, hx⟩ := bytes_of cs (fun v hv => by
    obtain ⟨i, hi, rfl⟩ := List.getElem_of_mem hv
    obtain ⟨n, e, hw⟩ := Open.tr_int Try.underlying5 (ha i (by omega))
    refine ⟨n, ?_, hw⟩
    have := congrArg (·[0]?) e
    simpa [List.getElem?_take, List.getElem?_drop, List.getElem?_eq_getElem hi] using this)
  rw [nums_length] at hl
  exact ⟨xs, ⟨rfl, hl⟩, hx⟩
def GSmp (x : Smp) : Prop := x.data.size ≤ reachBytes
theorem opens : Open.Opens Try.prog 26 ks GSmp := by
  intro H enc w cs h
  have hp : Open.Opens Try.prog 26 (Kd.pair (Kd.int .i64) (Kd.pair (Kd.int .i64) (Kd.pair (Kd.int .u64) (Kd.pair (Kd.int .u64) (Kd.pair (Kd.int .u64) (Kd.pair kkey Kd.string))))))
      (Open.GPair (fun n => (Lit.int .i64 n).wf = true) (Open.GPair (fun n => (Lit.int .i64 n).wf = true) (Open.GPair (fun n => (Lit.int .u64 n).wf = true) (Open.GPair (fun n => (Lit.int .u64 n).wf = true) (Open.GPair (fun n => (Lit.int .u64 n).wf = true) (Open.GPair (fun l => ∀ k ∈ l, (Lit.int .u8 k).wf = true) (fun s : ByteArray => s.size ≤ reachBytes))))))) := by
    refine Open.opens_struct Try.underlying26 (by kernel_rfl) ?_
    refine Open.fields_cons (Open.opens_int Try.underlying3) (by kernel_rfl) ?_
    refine Open.fields_cons (Open.opens_int Try.underlying3) (by kernel_rfl) ?_
    refine Open.fields_cons (Open.opens_int Try.underlying22) (by kernel_rfl) ?_
    refine Open.fields_cons (Open.opens_int Try.underlying22) (by kernel_rfl) ?_
    refine Open.fields_cons (Open.opens_int Try.underlying22) (by kernel_rfl) ?_
    refine Open.fields_cons opens_key (by kernel_rfl) ?_
    exact Open.fields_last (Open.opens_string Try.underlying9) (by kernel_rfl)
  obtain ⟨⟨a, b, c, d, e, k, s⟩, hK, g1, g2, g3, g4, g5, g6, g7⟩ := hp H enc w cs h
  obtain ⟨_, _, rfl, rfl, _, _, rfl, rfl, _, _, rfl, rfl, _, _, rfl, rfl, _, _, rfl, rfl, _, _, rfl, ⟨rfl, hk⟩, rfl⟩ := hK
  exact ⟨⟨a, b, c, d, e, k, s, g1, g2, g3, g4, g5, ⟨hk, g6⟩, Nat.le_trans g7 (by decide)⟩, rfl, g7⟩
def lits (x : Smp) : List Lit := [.int .i64 x.op, .int .i64 x.writer, .int .u64 x.frame, .int .u64 x.run, .int .u64 x.seq] ++ (x.key.map (Lit.int .u8) ++ [.string x.data.data.toList])
theorem key_lits (xs : List Int) (hl : xs.length = 17) (hw : ∀ k ∈ xs, (Lit.int .u8 k).wf = true) : Try.prog.keyLits 2 24 (nums .u8 xs) = some (xs.map (Lit.int .u8)) := by
  have e1 : Try.prog.cellsOf 24 = 17 := by kernel_rfl
  have e2 : Try.prog.cellsOf 5 = 1 := by kernel_rfl
  unfold Program.keyLits
  simp only [Try.underlying24, e1, e2, nums_length, hl, if_true]
  have : ∀ n, n ≤ xs.length → (List.range n).mapM (fun i => Try.prog.keyLits 1 5 (((nums .u8 xs).drop (i * 1)).take 1)) = some ((xs.take n).map fun k => [Lit.int .u8 k]) := by
    intro n
    induction n with
    | zero => intro _; rfl
    | succ n ih =>
      intro hn
      rw [List.range_succ, List.mapM_append, ih (by omega)]
      have hc : ((nums .u8 xs).drop (n * 1)).take 1 = [.int .u8 xs[n]] := by
        rw [Nat.mul_one]
        unfold nums
        rw [← List.map_drop, ← List.map_take, List.drop_eq_getElem_cons (by omega : n < xs.length)]
        rfl
      have hk : Try.prog.keyLits 1 5 [.int .u8 xs[n]] = some [Lit.int .u8 xs[n]] := by
        unfold Program.keyLits
        simp only [Try.underlying5]
        rw [if_pos ⟨trivial, hw _ (List.getElem_mem (by omega))⟩]
      simp only [List.mapM_cons, List.mapM_nil, hc, hk]
      rw [List.take_succ_eq_append_getElem (by omega), List.map_append]
      rfl
  have h17 := this 17 (by omega)
  rw [h17, List.take_of_length_le (by omega)]
  simp only [Option.map_some, Option.some.injEq]
  clear h17 this hw hl
  induction xs with
  | nil => rfl
  | cons x xs ih => simp only [List.map_cons, List.flatten_cons, ih]; rfl
theorem smp_lits (x : Smp) : Try.prog.keyLits 3 26 (cells x) = some (lits x) := by
  have e1 : Try.prog.cellsOf 26 = 23 := by kernel_rfl
  have e2 : Try.prog.cellsOf 24 = 17 := by kernel_rfl
  have e3 : Try.prog.cellsOf 3 = 1 := by kernel_rfl
  have e4 : Try.prog.cellsOf 22 = 1 := by kernel_rfl
  have e5 : Try.prog.cellsOf 9 = 1 := by kernel_rfl
  obtain ⟨g1, g2, g3, g4, g5, ⟨g6, g7⟩, g8⟩ := x.good
  have hk := key_lits x.key g6 g7
  have hi : ∀ n, (Lit.int .i64 n).wf = true → Try.prog.keyLits 2 3 [.int .i64 n] = some [.int .i64 n] := fun n h => by
    unfold Program.keyLits
    simp only [Try.underlying3]
    rw [if_pos ⟨trivial, h⟩]
  have hu : ∀ n, (Lit.int .u64 n).wf = true → Try.prog.keyLits 2 22 [.int .u64 n] = some [.int .u64 n] := fun n h => by
    unfold Program.keyLits
    simp only [Try.underlying22]
    rw [if_pos ⟨trivial, h⟩]
  have hs : Try.prog.keyLits 2 9 [.string x.data] = some [.string x.data.data.toList] := by
    unfold Program.keyLits
    simp only [Try.underlying9]
    rw [if_pos g8]
  have d5 : ((cells x).drop 5).take 17 = nums .u8 x.key := by
    unfold cells head
    simp only [List.cons_append, List.nil_append, List.drop_succ_cons, List.drop_zero]
    rw [List.take_append_of_le_length (by rw [nums_length]; omega), List.take_of_length_le (by rw [nums_length]; omega)]
  have d6 : ((cells x).drop 22).take 1 = [.string x.data] := by
    unfold cells head
    simp only [List.cons_append, List.nil_append, List.drop_succ_cons]
    rw [List.drop_append, nums_length, g6, List.drop_eq_nil_of_le (by rw [nums_length]; omega)]
    rfl
  unfold Program.keyLits
  simp only [Try.underlying26, e1, cells_len, if_true]
  rw [if_pos ⟨trivial, by kernel_rfl⟩]
  simp only [List.mapM_cons, List.mapM_nil, e2, e3, e4, e5, d5, d6, hk, hs]
  have h0 : ((cells x).drop 0).take 1 = [.int .i64 x.op] := rfl
  have h1 : ((cells x).drop 1).take 1 = [.int .i64 x.writer] := rfl
  have h2 : ((cells x).drop 2).take 1 = [.int .u64 x.frame] := rfl
  have h3 : ((cells x).drop 3).take 1 = [.int .u64 x.run] := rfl
  have h4 : ((cells x).drop 4).take 1 = [.int .u64 x.seq] := rfl
  rw [h0, h1, h2, h3, h4, hi _ g1, hi _ g2, hu _ g3, hu _ g4, hu _ g5]
  simp [lits]
theorem lits_inj {x y : Smp} (h : lits x = lits y) : x = y := by
  unfold lits at h
  obtain ⟨h1, h2⟩ := List.append_inj h rfl
  obtain ⟨h3, h4⟩ := List.append_inj h2 (by rw [List.length_map, List.length_map, key_len, key_len])
  simp only [List.cons.injEq, Lit.int.injEq, true_and, and_true] at h1
  have hk : x.key = y.key := by
    have := congrArg (List.map fun v => match v with | Lit.int _ n => n | _ => 0) h3
    simpa [List.map_map, Function.comp_def] using this
  simp only [List.cons.injEq, Lit.string.injEq, and_true] at h4
  exact Smp.ext' h1.1 h1.2.1 h1.2.2.1 h1.2.2.2.1 h1.2.2.2.2 hk (by
    have h5 : x.data.data = y.data.data := by
      rw [← Array.toArray_toList (xs := x.data.data), h4, Array.toArray_toList]
    exact (fun (a b : ByteArray) (h : a.data = b.data) => (by cases a; cases b; cases h; rfl : a = b)) _ _ h5)
instance : DecidableEq Smp := fun x y => if h : x.op = y.op ∧ x.writer = y.writer ∧ x.frame = y.frame ∧ x.run = y.run ∧ x.seq = y.seq ∧ x.key = y.key ∧ x.data = y.data then isTrue (Smp.ext' h.1 h.2.1 h.2.2.1 h.2.2.2.1 h.2.2.2.2.1 h.2.2.2.2.2.1 h.2.2.2.2.2.2) else isFalse (fun e => h (by subst e; simp))
theorem smp_deep (x y : Smp) (W : World) : (Op.equalIn 10000 26 (.agg (cells x).toArray) (.agg (cells y).toArray)).run Try.prog W = .ok (decide (x = y)) W := by
  have e1 : Try.prog.cellsOf 26 = 23 := by kernel_rfl
  have hf : ∀ z : Smp, (Value.agg (cells z).toArray).formed Try.prog 26 = true := fun z => by
    unfold Value.formed
    simp only [Try.underlying26, e1]
    rw [List.size_toArray, cells_len]
    rfl
  obtain ⟨r, hr, hi⟩ := run_equalIn_deep (P := Try.prog) 9995 5 26 (by kernel_rfl) W 3 3 _ _ _ _ (hf x) (hf y) (smp_lits x) (smp_lits y)
  rw [show (9995 + 5 : Nat) = 10000 from rfl] at hr
  rw [hr]
  have : r = decide (x = y) := by
    cases r
    · refine (decide_eq_false (fun e => ?_)).symm
      subst e
      exact absurd (hi.2 rfl) (by simp)
    · exact (decide_eq_true (lits_inj (hi.1 rfl))).symm
  rw [this]
theorem smp_eql (x y : Smp) (W : World) : (binOp .eql 26 (.agg (cells x).toArray) (.agg (cells y).toArray)).run Try.prog W = .ok (.bool (decide (x = y))) W := by
  rw [run_eql_struct, smp_deep]
  rfl
theorem smp_neq (x y : Smp) (W : World) : (binOp .neq 26 (.agg (cells x).toArray) (.agg (cells y).toArray)).run Try.prog W = .ok (.bool (!decide (x = y))) W := by
  rw [run_neq_struct, smp_deep]
  rfl
theorem key_deep (xs ys : List Int) (hx : xs.length = 17) (hy : ys.length = 17) (wx : ∀ k ∈ xs, (Lit.int .u8 k).wf = true) (wy : ∀ k ∈ ys, (Lit.int .u8 k).wf = true) (W : World) : (Op.equalIn 10000 24 (.agg (nums .u8 xs).toArray) (.agg (nums .u8 ys).toArray)).run Try.prog W = .ok (decide (xs = ys)) W := by
  have e1 : Try.prog.cellsOf 24 = 17 := by kernel_rfl
  have hf : ∀ z : List Int, z.length = 17 → (Value.agg (nums .u8 z).toArray).formed Try.prog 24 = true := fun z hz => by
    unfold Value.formed
    simp only [Try.underlying24, e1]
    rw [List.size_toArray, nums_length, hz]
    rfl
  obtain ⟨r, hr, hi⟩ := run_equalIn_deep (P := Try.prog) 9995 5 24 (by kernel_rfl) W 2 2 _ _ _ _ (hf xs hx) (hf ys hy) (key_lits xs hx wx) (key_lits ys hy wy)
  rw [show (9995 + 5 : Nat) = 10000 from rfl] at hr
  rw [hr]
  have : r = decide (xs = ys) := by
    cases r
    · refine (decide_eq_false (fun e => ?_)).symm
      subst e
      exact absurd (hi.2 rfl) (by simp)
    · refine (decide_eq_true ?_).symm
      have := congrArg (List.map fun v => match v with | Lit.int _ n => n | _ => 0) (hi.1 rfl)
      simpa [List.map_map, Function.comp_def] using this
  rw [this]
theorem key_eql (x y : Smp) (W : World) : (binOp .eql 24 (.agg (nums .u8 x.key).toArray) (.agg (nums .u8 y.key).toArray)).run Try.prog W = .ok (.bool (decide (x.key = y.key))) W := by
  rw [run_eql_struct, key_deep _ _ (key_len x) (key_len y) x.good.2.2.2.2.2.1.2 y.good.2.2.2.2.2.1.2]
  rfl
end Go.Proofs.Ytmlfnlmdnhblmaa.Smp
namespace Go.Proofs.Ytmlfnlmdnhblmaa.Smp
open Go.RowKit Base Sp Flat Go.Proofs.YtmlfnlmdnhblmaaW.PrintWords
def flat (xs : List Smp) : List Value := xs.flatMap cells
theorem flat_nil : flat [] = [] := rfl
theorem flat_cons (x : Smp) (xs : List Smp) : flat (x :: xs) = cells x ++ flat xs := rfl
theorem flat_append (xs ys : List Smp) : flat (xs ++ ys) = flat xs ++ flat ys := List.flatMap_append
theorem flat_one (x : Smp) : flat [x] = cells x := by rw [flat_cons, flat_nil, List.append_nil]
theorem flat_len (xs : List Smp) : (flat xs).length = xs.length * 23 := by
  induction xs with
  | nil => rfl
  | cons x xs ih => rw [flat_cons, List.length_append, cells_len, ih, List.length_cons]; omega
theorem flat_cells {xs : List Smp} {u : Value} (h : u ∈ flat xs) : u.oneCell' = true := by
  unfold flat at h
  obtain ⟨x, _, hx⟩ := List.mem_flatMap.1 h
  exact cells_one x u hx
theorem flat_drop (xs : List Smp) (n : Nat) (hn : n ≤ xs.length) : (flat xs).drop (n * 23) = flat (xs.drop n) := by
  conv => lhs; rw [← List.take_append_drop n xs, flat_append]
  rw [List.drop_append_of_le_length (by rw [flat_len, List.length_take]; omega), List.drop_eq_nil_of_le (by rw [flat_len, List.length_take]; omega), List.nil_append]
theorem flat_take (xs : List Smp) (n : Nat) (hn : n ≤ xs.length) : (flat xs).take (n * 23) = flat (xs.take n) := by
  conv => lhs; rw [← List.take_append_drop n xs, flat_append]
  rw [List.take_append_of_le_length (by rw [flat_len, List.length_take]; omega), List.take_of_length_le (by rw [flat_len, List.length_take]; omega)]
theorem flat_at (xs : List Smp) (i : Nat) (hi : i < xs.length) (j : Nat) (hj : j < 23) (rest : List Value) : (flat xs ++ rest)[i * 23 + j]? = (cells xs[i])[j]? := by
  rw [List.getElem?_append_left (by rw [flat_len]; omega), ← List.getElem?_drop, flat_drop xs i (by omega), List.drop_eq_getElem_cons hi, flat_cons, List.getElem?_append_left (by rw [cells_len]; exact hj)]
theorem flat_set (xs : List Smp) (i : Nat) (hi : i < xs.length) (x : Smp) (rest : List Value) : (flat xs ++ rest).take (i * 23) ++ cells x ++ (flat xs ++ rest).drop (i * 23 + (cells x).length) = flat (xs.set i x) ++ rest := by
  rw [cells_len, List.take_append_of_le_length (by rw [flat_len]; omega), flat_take xs i (by omega), List.drop_append_of_le_length (by rw [flat_len]; omega), show i * 23 + 23 = (i + 1) * 23 from by omega, flat_drop xs (i + 1) (by omega),
    List.set_eq_take_append_cons_drop, if_pos hi, flat_append, flat_cons, List.append_assoc, List.append_assoc, List.append_assoc]
/-- A block behind setCells. -/
theorem setCells_heap (g : Nat) (t : TypeId) : ∀ (vs : List Value) (o : Nat) (cur : List Value) (w : World), w.heap[g]? = some (.cells cur.toArray t (0, 0)) → o + vs.length ≤ cur.length →
    (w.setCells g o vs).heap[g]? = some (.cells (cur.take o ++ vs ++ cur.drop (o + vs.length)).toArray t (0, 0))
  | [], o, cur, w, h, _ => by
    rw [World.setCells, h]
    simp
  | v :: vs, o, cur, w, h, hl => by
    rw [List.length_cons] at hl
    rw [World.setCells, setCells_heap g t vs (o + 1) (cur.set o v) _ (by rw [blk_set h]; simp) (by rw [List.length_set]; omega)]
    have e1 : (cur.set o v).take (o + 1) = cur.take o ++ [v] := by
      rw [List.take_set, List.take_succ_eq_append_getElem (by omega), List.set_append_right _ _ (by rw [List.length_take]; omega), List.length_take, Nat.min_eq_left (by omega), Nat.sub_self]
      rfl
    have e2 : (cur.set o v).drop (o + 1 + vs.length) = cur.drop (o + (vs.length + 1)) := by
      rw [List.drop_set_of_lt (by omega), show o + 1 + vs.length = o + (vs.length + 1) from by omega]
    rw [e1, e2, List.length_cons, List.append_assoc (cur.take o), List.singleton_append]
theorem setCells_other (w : World) (g o : Nat) (vs : List Value) (k : Nat) (hk : k ≠ g) : (w.setCells g o vs).heap[k]? = w.heap[k]? := by
  induction vs generalizing o w with
  | nil => rfl
  | cons v vs ih => rw [World.setCells, ih]; exact Below.heap_setCell _ _ _ _ hk
theorem setCells_size (w : World) (g o : Nat) (vs : List Value) : (w.setCells g o vs).heap.size = w.heap.size := by
  induction vs generalizing o w with
  | nil => rfl
  | cons v vs ih => rw [World.setCells, ih]; simp [World.setCell]
theorem setCells_mod (w : World) (g o : Nat) (vs : List Value) : Mod (fun k => k = g) w (w.setCells g o vs) := by
  refine ⟨?_, ?_, ?_, by rw [setCells_size]; exact Nat.le_refl _, fun k _ hk => setCells_other w g o vs k hk⟩
  all_goals
    induction vs generalizing o w with
    | nil => rfl
    | cons v vs ih => rw [World.setCells, ih]; rfl
theorem there_of {w : World} {g : Nat} {cur : List Value} {t : TypeId} (h : w.heap[g]? = some (.cells cur.toArray t (0, 0))) {o n : Nat} (hl : o + n ≤ cur.length) : w.there g o n := fun j hj => by
  refine ⟨?_, blk_frozen h _⟩
  rw [blk_cell h, List.getElem?_toArray, List.getElem?_eq_getElem (by omega)]
  rfl
/-- A slice of samples of its own: its row's block is F's. -/
def Row (w : World) (F : Nat → Prop) (v : Value) (xs : List Smp) : Prop :=
  (v = .slice none 0 0 ∧ xs = []) ∨ ∃ g cap rest, v = .slice (some ⟨g, 0, none⟩) xs.length cap ∧ F g ∧ w.heap[g]? = some (.cells (flat xs ++ rest).toArray 26 (0, 0)) ∧ rest.length = (cap - xs.length) * 23 ∧ xs.length ≤ cap ∧ cap ≤ maxLen
section
variable {w w' W : World} {F G : Nat → Prop} {v : Value} {xs : List Smp}
theorem Row.nil (w : World) (F : Nat → Prop) : Row w F (.slice none 0 0) [] := .inl ⟨rfl, rfl⟩
theorem Row.mono (h : Row w F v xs) (hF : ∀ k, F k → G k) : Row w G v xs := by
  rcases h with h | ⟨g, cap, rest, e, hf, h⟩
  · exact .inl h
  · exact .inr ⟨g, cap, rest, e, hF g hf, h⟩
theorem Row.same (h : Row w F v xs) (hs : Same F w w') : Row w' F v xs := by
  rcases h with h | ⟨g, cap, rest, e, hf, hh, h⟩
  · exact .inl h
  · exact .inr ⟨g, cap, rest, e, hf, (hs g hf).trans hh, h⟩
theorem Row.below (h : Row w F v xs) (hb : Below w.heap.size w w') : Row w' F v xs := by
  rcases h with h | ⟨g, cap, rest, e, hf, hh, h⟩
  · exact .inl h
  · exact .inr ⟨g, cap, rest, e, hf, blk_below hh hb, h⟩
theorem Row.drew (h : Row w F v xs) : Row w.drew F v xs := h
theorem Row.alloc (h : Row w F v xs) (o : Obj) : Row (w.alloc o) F v xs := h.below ((Below.refl _ _).alloc (Nat.le_refl _) o)
theorem Row.set (h : Row w F v xs) {a : Addr} (ha : ¬ F a.block) (u : Value) : Row (w.setCell a u) F v xs := h.same (fun k hk => Below.heap_setCell _ _ _ _ (fun e => ha (e ▸ hk)))
theorem Row.slice (h : Row w F v xs) : ∃ A c, v = .slice A xs.length c ∧ xs.length ≤ c ∧ (∀ a, A = some a → a.block < w.heap.size ∧ F a.block ∧ a = ⟨a.block, 0, none⟩) := by
  rcases h with ⟨rfl, rfl⟩ | ⟨g, cap, rest, rfl, hf, hh, _, hc, _⟩
  · exact ⟨none, 0, rfl, Nat.le_refl _, fun a ha => by cases ha⟩
  · exact ⟨_, cap, rfl, hc, fun a ha => by cases ha; exact ⟨blk_lt hh, hf, rfl⟩⟩
theorem Row.own (h : Row w F v xs) : ∀ k, v.ownBlock = some k → F k ∧ k < w.heap.size := by
  rcases h with ⟨rfl, rfl⟩ | ⟨g, cap, rest, rfl, hf, hh, _⟩
  · intro k hk; simp [Value.ownBlock] at hk
  · intro k hk
    have : g = k := by simpa [Value.ownBlock] using hk
    subst this
    exact ⟨hf, blk_lt hh⟩
theorem Row.small (h : Row w F v xs) : xs.length ≤ maxLen := by
  rcases h with ⟨rfl, rfl⟩ | ⟨g, cap, rest, rfl, hf, hh, _, hc, hm⟩
  · exact Nat.zero_le _
  · exact Nat.le_trans hc hm
/-- The row as the library's appends take it. -/
theorem Row.owns (h : Row w F v xs) : w.ownsRow 0 26 23 v xs.length (flat xs) := by
  refine ⟨flat_len xs, ?_⟩
  rcases h with ⟨rfl, rfl⟩ | ⟨g, cap, rest, rfl, hf, hh, hr, hc, hm⟩
  · exact .inl ⟨rfl, rfl⟩
  · refine .inr ⟨g, cap, _, rfl, Nat.zero_le _, hh, hc, hm, ?_, ?_⟩
    · rw [List.size_toArray, List.length_append, flat_len, hr, ← Nat.add_mul, Nat.add_sub_cancel' hc]
    · rw [List.take_left' (flat_len xs)]
theorem Row.of_owns (h : w.ownsRow 0 26 23 v xs.length (flat xs)) (hF : ∀ k, v.ownBlock = some k → F k) : Row w F v xs := by
  rcases h.2 with ⟨rfl, h0⟩ | ⟨g, cap, cur, rfl, _, hh, hc, hm, hs, ht⟩
  · exact .inl ⟨rfl, List.eq_nil_of_length_eq_zero h0⟩
  · refine .inr ⟨g, cap, cur.toList.drop (xs.length * 23), rfl, hF g (by simp [Value.ownBlock]), ?_, ?_, hc, hm⟩
    · rw [← ht, List.take_append_drop, Array.toArray_toList]
      exact hh
    · rw [List.length_drop, Array.length_toList, hs, Nat.sub_mul]
def zsmp : Smp := ⟨0, 0, 0, 0, 0, List.replicate 17 0, ⟨#[]⟩, by refine ⟨by decide, by decide, by decide, by decide, by decide, ⟨rfl, fun k hk => ?_⟩, by decide⟩; rw [List.eq_of_mem_replicate hk]; decide⟩
theorem info : (Try.prog.info? 26).map (fun i => (i.zero, i.size, i.bytes)) = some (some (.agg (cells zsmp).toArray), 23, 80) := by kernel_rfl
/-- append(xs, p). -/
theorem Row.append (h : Row W F v xs) (hF : ∀ k, F k → k < W.heap.size) (p : Smp) (hl : (xs.length + 1) * 80 ≤ 140737488355328) (ty : TypeId) :
    ∃ v1 w1, (Builtin.append_ #[27, 27] ty #[v, .slice (some ⟨W.heap.size, 0, none⟩) 1 1]).run Try.prog (W.alloc (.cells (cells p).toArray 26)) = .ok v1 w1 ∧
      Row w1 (fun k => F k ∨ (W.heap.size ≤ k ∧ k < w1.heap.size)) v1 (xs ++ [p]) ∧ W.grownBy w1 v.ownBlock ∧ W.heap.size < w1.heap.size := by
  obtain ⟨i0, hi, hzz⟩ := Option.map_eq_some_iff.1 info
  simp only [Prod.mk.injEq] at hzz
  obtain ⟨hz0, hz1, hz2⟩ := hzz
  have hn : (W.alloc (.cells (cells p).toArray 26)).heap[W.heap.size]? = some (.cells (cells p).toArray 26 (0, 0)) := heap_alloc_new _ _
  obtain ⟨v1, w1, hr, ho, hg, _, hat⟩ := run_append_own_at (P := Try.prog) (W.alloc (.cells (cells p).toArray 26)) 0 27 ty 26 i0 _ 23 80 Try.underlying27 hi hz0 hz1 hz2 (by show (cells zsmp).toArray.size = 23; rw [List.size_toArray, cells_len]) (by decide)
    v xs.length (flat xs) (h.alloc _).owns ⟨W.heap.size, 0, none⟩ 1 1 (cells p) (by rw [cells_len]) (fun j u hu => by
      rw [add_plain, blk_cell hn, List.getElem?_toArray]
      exact hu) (cells_one p) (by simp only [maxLen]; omega) hl (Nat.zero_le _)
  have hs1 : W.heap.size < w1.heap.size := by have := hg.size; simp at this; omega
  have hg1 : W.grownBy w1 v.ownBlock := World.grownBy.trans (World.grownBy_alloc W _ _) hg
  refine ⟨v1, w1, hr, Row.of_owns (xs := xs ++ [p]) (by rw [flat_append, flat_one, List.length_append]; exact ho) (fun k hk => ?_), hg1, hs1⟩
  rcases hat with hat | hat
  · rw [hat] at hk
    exact .inl (h.own k hk).1
  · rw [hat] at hk
    have : W.heap.size + 1 = k := by simpa using hk
    refine .inr ⟨by omega, ?_⟩
    rcases ho.2 with ⟨e, _⟩ | ⟨g, cap, cur, e, _, hh, _⟩
    · rw [e] at hat
      simp [Value.ownBlock] at hat
    · rw [e] at hat
      have : g = W.heap.size + 1 := by simpa [Value.ownBlock] using hat
      have := blk_lt hh
      omega
/-- The cells of a sample of a row. -/
theorem Row.range {g cap n : Nat} (h : Row w F (.slice (some ⟨g, 0, none⟩) n cap) xs) {i : Nat} (hi : i < xs.length) : w.rangeAt g (i * 23) (cells xs[i]) := by
  rcases h with ⟨e, _⟩ | ⟨g', cap', rest, e, _, hh, _⟩
  · cases e
  · injection e with e1 _ _
    injection e1 with e1
    injection e1 with e1
    subst e1
    intro j u hj
    have hj' : j < 23 := by rw [← cells_len xs[i]]; exact (List.getElem?_eq_some_iff.1 hj).1
    rw [blk_cell hh, List.getElem?_toArray, flat_at xs i hi j hj', hj]
/-- A sample of a row is stored. -/
theorem Row.put {g cap n : Nat} (h : Row w F (.slice (some ⟨g, 0, none⟩) n cap) xs) {i : Nat} (hi : i < xs.length) (x : Smp) :
    w.there g (i * 23) 23 ∧ Row (w.setCells g (i * 23) (cells x)) F (.slice (some ⟨g, 0, none⟩) n cap) (xs.set i x) := by
  rcases h with ⟨e, _⟩ | ⟨g', cap', rest, e, hf, hh, hr, hc, hm⟩
  · cases e
  · have hlen : (flat xs ++ rest).length = xs.length * 23 + rest.length := by rw [List.length_append, flat_len]
    injection e with e1 e2 e3
    injection e1 with e1
    injection e1 with e1
    subst e1 e2 e3
    refine ⟨there_of hh (by rw [hlen]; omega), .inr ⟨g, cap, rest, by rw [List.length_set], hf, ?_, by rw [List.length_set]; exact hr, by rw [List.length_set]; exact hc, hm⟩⟩
    have := setCells_heap g _ (cells x) (i * 23) _ w hh (by rw [hlen, cells_len]; omega)
    rw [this, flat_set xs i hi x rest]
theorem zeros (n : Nat) : (Builtin.zeroCells (cells zsmp).toArray n).toList = flat (List.replicate n zsmp) := by
  have hs : (cells zsmp).toArray.size = 23 := by rw [List.size_toArray, cells_len]
  have hl : (Builtin.zeroCells (cells zsmp).toArray n).toList.length = n * 23 := by rw [Array.length_toList, size_zeroCells, hs]
  apply List.ext_getElem?
  intro i
  by_cases hi : i < n * 23
  · have h1 : i / 23 * 23 + i % 23 = i := by omega
    have h2 : i / 23 < (List.replicate n zsmp).length := by rw [List.length_replicate]; omega
    have h3 := flat_at (List.replicate n zsmp) (i / 23) h2 (i % 23) (Nat.mod_lt _ (by decide)) []
    rw [List.append_nil, h1] at h3
    rw [h3, List.getElem_replicate, List.getElem?_eq_getElem (by omega), List.getElem?_eq_getElem (by rw [cells_len]; omega)]
    unfold Builtin.zeroCells
    simp only [hs, Array.getElem_toList, Array.getElem_map, Array.getElem_range, Option.some.injEq]
    rw [getElem!_pos _ _ (by rw [hs]; omega)]
    rfl
  · rw [List.getElem?_eq_none (by omega), List.getElem?_eq_none (by rw [flat_len, List.length_replicate]; omega)]
/-- clear(xs[k:]). -/
theorem Row.clear {g cap n : Nat} (h : Row w F (.slice (some ⟨g, 0, none⟩) n cap) xs) (k : Nat) (hk : k < xs.length) (c : Nat) (ty : TypeId) :
    (Builtin.clear_ #[27] ty #[.slice (some ⟨g, k * 23, none⟩) (xs.length - k) c]).run Try.prog w = .ok (.tuple #[]) (w.setCells g (k * 23) (flat (List.replicate (xs.length - k) zsmp))) ∧
      Row (w.setCells g (k * 23) (flat (List.replicate (xs.length - k) zsmp))) F (.slice (some ⟨g, 0, none⟩) k cap) (xs.take k) := by
  rcases h with ⟨e, _⟩ | ⟨g', cap', rest, e, hf, hh, hr, hc, hm⟩
  · cases e
  · have hlen : (flat xs ++ rest).length = xs.length * 23 + rest.length := by rw [List.length_append, flat_len]
    injection e with e1 e2 e3
    injection e1 with e1
    injection e1 with e1
    subst e1 e2 e3
    have hvl : (flat (List.replicate (xs.length - k) zsmp)).length = (xs.length - k) * 23 := by rw [flat_len, List.length_replicate]
    have hth := there_of hh (o := k * 23) (n := (xs.length - k) * 23) (by rw [hlen]; omega)
    constructor
    · have hst := run_storeCells_cells (P := Try.prog) g (k * 23) (flat (List.replicate (xs.length - k) zsmp)) 0 w (fun j hj => (hth j (by omega)).1) (fun j hj => (hth j (by omega)).2) (fun u hu => flat_cells hu)
      simp only [Nat.add_zero] at hst
      have hv : ∀ w, (zeroValue 26).run Try.prog w = .ok (.agg (cells zsmp).toArray) w := by
        intro w
        obtain ⟨i0, hi, hzz⟩ := Option.map_eq_some_iff.1 info
        simp only [Prod.mk.injEq] at hzz
        simp [zeroValue, typeInfo, hi, hzz.1]
      obtain ⟨m, hm⟩ : ∃ m, xs.length - k = m + 1 := ⟨xs.length - k - 1, by omega⟩
      have hz := zeros (xs.length - k)
      rw [hm] at hz hst ⊢
      simp [Builtin.clear_, run_underlying Try.underlying27, hv, hz, hst, Value.cells]
    · have := setCells_heap g _ (flat (List.replicate (xs.length - k) zsmp)) (k * 23) _ w hh (by rw [hlen, hvl]; omega)
      have htk : (xs.take k).length = k := by rw [List.length_take]; omega
      refine .inr ⟨g, cap, flat (List.replicate (xs.length - k) zsmp) ++ (flat xs ++ rest).drop (k * 23 + (flat (List.replicate (xs.length - k) zsmp)).length), by rw [htk], hf, ?_, ?_, by omega, hm⟩
      · rw [this, List.take_append_of_le_length (by rw [flat_len]; omega), flat_take xs k (by omega), List.append_assoc]
      · rw [List.length_append, List.length_drop, hvl, hlen, hr, htk]
        rw [← Nat.add_mul]
        omega
end
end Go.Proofs.Ytmlfnlmdnhblmaa.Smp
namespace Go.Proofs.Ytmlfnlmdnhblmaa.Reg
open Go.Proofs.YtmlfnlmdnhblmaaW.PrintLast
section
variable {P : Program} {ops : Array Oper} {Q : Exit → Act → World → Prop} {S : World → Prop} {z : Nat}

/-- Whatever order is picked from here on; S holds behind every operation but number z, for which nobody is left to wait. -/
def wpT (P : Program) (ops : Array Oper) (Q : Exit → Act → World → Prop) (S : World → Prop) (z : Nat) : Nat → Array Bool → Act → World → Prop
  | 0, listed, a, w => Region.ready .any ops listed = [] ∧ Q .normal a w
  | fuel + 1, listed, a, w =>
    (Region.ready .any ops listed = [] → Q .normal a w) ∧
    ∀ i ∈ Region.ready .any ops listed, wpOp P ops Q i (fun a' w' => (i ≠ z → S w') ∧ wpT P ops Q S z fuel (listed.setIfInBounds i true) a' w') a w

theorem wpAny_of_T : ∀ (fuel : Nat) (listed : Array Bool) (a : Act) (w : World), wpT P ops Q S z fuel listed a w → wpAny P .any ops Q fuel listed a w
  | 0, _, _, _, h => h
  | fuel + 1, _, _, _, h => ⟨h.1, fun i hi => wpOp_mono (fun _ _ h' => wpAny_of_T fuel _ _ _ h'.2) (h.2 i hi)⟩

/-- Number z waits for number i, or there is no such number. -/
def waitsB (ops : Array Oper) (z i : Nat) : Bool :=
  match ops[z]? with
  | none => true
  | some o => (o.after.any fun e => Region.binds .any e && e.on == i) || Region.reachB .any ops i 4 z

theorem not_ready {i j : Nat} {listed : Array Bool} (hc : ListedClosed .any ops listed) (hz : waitsB ops z i = true) (hi : i ∈ Region.ready .any ops listed) (hj : j ∈ Region.ready .any ops listed) : j ≠ z := by
  rintro rfl
  have hj0 := hj
  obtain ⟨_, o, ho, hall⟩ := mem_ready.1 hj
  have h0 := (mem_ready.1 hi).1
  unfold waitsB at hz
  rw [ho] at hz
  simp only [Bool.or_eq_true] at hz
  rcases hz with hz | hz
  case inr => exact Region.reach_not_ready hc hz h0 hj0
  obtain ⟨e, he, hb⟩ := Array.any_eq_true'.1 hz
  simp only [Bool.and_eq_true, beq_iff_eq] at hb
  have h1 := hall e he hb.1
  rw [hb.2] at h1
  rcases Nat.lt_or_ge i listed.size with h' | h'
  · simp [h'] at h0 h1
    rw [h0] at h1
    cases h1
  · simp [Array.getElem?_eq_none h'] at h1

theorem T_first {i : Nat} {oi : Oper} {v : Value} (hi : ops[i]? = some oi) (hsel : ∀ (j : Nat) (o : Oper) cs b, ops[j]? = some o → o.op ≠ .select cs b)
    (hQ : ∀ c a w, Q (.panic c) (a.put oi.dst v) w → Q (.panic c) a w) (hz : waitsB ops z i = true) :
    ∀ (fuel : Nat) (listed : Array Bool) (a : Act) (w : World), ListedClosed .any ops listed →
      (∀ j oj, ops[j]? = some oj → j ≠ i → listed.getD j true = false → (∀ e ∈ oj.after, Region.binds .any e = true → e.on ≠ i) → oi.apart ops oj = true) →
      i ∈ Region.ready .any ops listed → YieldsIf P ops S oi v a → S w →
      wpT P ops Q S z fuel (listed.setIfInBounds i true) (a.put oi.dst v) w → wpT P ops Q S z (fuel + 1) listed a w := by
  intro fuel
  induction fuel with
  | zero =>
    intro listed a w hc _ hr hy hS H
    refine ⟨fun h => (by rw [h] at hr; cases hr), fun j hj => ?_⟩
    by_cases hji : j = i
    · subst hji
      exact hy.wpOp hi hS ⟨fun _ => hS, H⟩
    · have := ready_mono hj hji
      rw [H.1] at this
      cases this
  | succ fuel ih =>
    intro listed a w hc hfree hr hy hS H
    refine ⟨fun h => (by rw [h] at hr; cases hr), fun j hj => ?_⟩
    by_cases hji : j = i
    · subst hji
      exact hy.wpOp hi hS ⟨fun _ => hS, H⟩
    · have hjz := not_ready hc hz hr hj
      have h1 := H.2 j (ready_mono hj hji)
      obtain ⟨hjun, oj, hoj, hall⟩ := mem_ready.1 hj
      have hnot : ∀ e ∈ oj.after, Region.binds .any e = true → e.on ≠ i := fun e he hb heq => by
        have h1 := hall e he hb
        have h0 := (mem_ready.1 hr).1
        rw [heq] at h1
        rcases Nat.lt_or_ge i listed.size with h' | h'
        · simp [h'] at h0 h1
          rw [h0] at h1
          cases h1
        · simp [Array.getElem?_eq_none h'] at h1
      have h2 := wpOp_putIf hoj (hfree j oj hoj hji hjun hnot) (fun cs b => hsel i oi cs b hi) (fun cs b => hsel j oj cs b hoj) hQ hy h1
      have hfree' : ∀ k ok, ops[k]? = some ok → k ≠ i → (listed.setIfInBounds j true).getD k true = false →
          (∀ e ∈ ok.after, Region.binds .any e = true → e.on ≠ i) → oi.apart ops ok = true := fun k ok hk hki hun hno => by
        refine hfree k ok hk hki ?_ hno
        by_cases hjk : j = k
        · subst hjk
          exact hjun
        · rw [getD_set_ne true hjk] at hun
          exact hun
      refine wpOp_mono (fun a' w' h3 => ⟨h3.2.1, ih (listed.setIfInBounds j true) a' w' (hc.set hj) hfree' (ready_mono hr (Ne.symm hji)) h3.1 (h3.2.1 hjz) ?_⟩) h2
      rw [Array.setIfInBounds_comm _ _ hji]
      exact h3.2.2

/-- Orders of a region that draws its order: fl: an operation that yields the same value in every world that meets S; one: the only one that is ready; two: two are ready. -/
inductive Pl where
  | done : Pl
  | fl : Nat → Pl → Pl
  | one : Nat → Pl → Pl
  | two : Nat → Nat → Pl → Pl → Pl
/-- S holds behind each operation but number z. -/
def wpG (P : Program) (ops : Array Oper) (Q : Exit → Act → World → Prop) (S : World → Prop) (z : Nat) : Pl → Act → World → Prop
  | .done, a, w => Q .normal a w
  | .fl i r, a, w => ∃ o v, ops[i]? = some o ∧ YieldsIf P ops S o v a ∧ wpG P ops Q S z r (a.put o.dst v) w
  | .one i r, a, w => wpOp P ops Q i (fun a' w' => (i ≠ z → S w') ∧ wpG P ops Q S z r a' w') a w
  | .two i j r q, a, w => wpOp P ops Q i (fun a' w' => (i ≠ z → S w') ∧ wpG P ops Q S z r a' w') a w ∧ wpOp P ops Q j (fun a' w' => (j ≠ z → S w') ∧ wpG P ops Q S z q a' w') a w

/-- The orders may be taken: each float is ready and free where it comes; each other is the only one that is ready, or one of two; z is the last. -/
def planB (ops : Array Oper) (z : Nat) : Array Bool → Pl → Bool
  | listed, .done => (Region.ready .any ops listed).isEmpty
  | listed, .fl i r => (Region.ready .any ops listed).contains i && Region.free .any ops listed i && waitsB ops z i && planB ops z (listed.setIfInBounds i true) r
  | listed, .one i r => (Region.ready .any ops listed == [i]) && (i != z || (match r with | .done => true | _ => false)) && planB ops z (listed.setIfInBounds i true) r
  | listed, .two i j r q => (Region.ready .any ops listed == [i, j]) && (i != z && j != z) && planB ops z (listed.setIfInBounds i true) r && planB ops z (listed.setIfInBounds j true) q

/-- How many steps the orders have at most. -/
def Pl.len : Pl → Nat
  | .done => 0
  | .fl _ r => r.len + 1
  | .one _ r => r.len + 1
  | .two _ _ r q => max r.len q.len + 1

theorem wpG_sound (hs : Region.noSelect ops = true) (hQ : ∀ c a w d v, Q (.panic c) (Act.put a d v) w → Q (.panic c) a w) :
    ∀ (l : Pl) (fuel : Nat) (listed : Array Bool) (a : Act) (w : World), ListedClosed .any ops listed → l.len ≤ fuel → planB ops z listed l = true → (l ≠ .done → S w) → wpG P ops Q S z l a w →
      wpT P ops Q S z fuel listed a w
  | .done, fuel, listed, a, w, _, _, hp, _, h => by
    simp only [planB, List.isEmpty_iff] at hp
    cases fuel with
    | zero => exact ⟨hp, h⟩
    | succ n => exact ⟨fun _ => h, by rw [hp]; simp⟩
  | .fl i r, 0, listed, a, w, _, hl, _, _, _ => by simp [Pl.len] at hl
  | .fl i r, fuel + 1, listed, a, w, hc, hl, hp, hS, h => by
    simp only [planB, Bool.and_eq_true] at hp
    obtain ⟨o, v, ho, hy, hr⟩ := h
    have hS' := hS (by simp)
    exact T_first ho (Region.noSelect_spec hs) (fun c a w h => hQ c a w _ _ h) hp.1.2 fuel listed a w hc (Region.free_spec ho hp.1.1.2) (by simpa using hp.1.1.1) hy hS'
      (wpG_sound hs hQ r fuel _ _ w (hc.set (by simpa using hp.1.1.1)) (by simpa [Pl.len] using hl) hp.2 (fun _ => hS') hr)
  | .one i r, 0, listed, a, w, _, hl, _, _, _ => by simp [Pl.len] at hl
  | .one i r, fuel + 1, listed, a, w, hc, hl, hp, hS, h => by
    simp only [planB, Bool.and_eq_true, beq_iff_eq, Bool.or_eq_true, bne_iff_ne] at hp
    refine ⟨fun h0 => (by rw [hp.1.1] at h0; cases h0), fun j hj => ?_⟩
    obtain rfl : j = i := by rw [hp.1.1] at hj; simpa using hj
    refine wpOp_mono (fun a' w' h' => ⟨h'.1, wpG_sound hs hQ r fuel _ _ w' (hc.set hj) (by simpa [Pl.len] using hl) hp.2 (fun hr => ?_) h'.2⟩) h
    refine h'.1 (hp.1.2.resolve_right ?_)
    cases r <;> simp_all
  | .two i j r q, 0, listed, a, w, _, hl, _, _, _ => by simp [Pl.len] at hl
  | .two i j r q, fuel + 1, listed, a, w, hc, hl, hp, hS, h => by
    simp only [planB, Bool.and_eq_true, beq_iff_eq, bne_iff_ne] at hp
    simp only [Pl.len] at hl
    refine ⟨fun h0 => (by rw [hp.1.1.1] at h0; cases h0), fun k hk => ?_⟩
    have hk' : k = i ∨ k = j := by rw [hp.1.1.1] at hk; simpa using hk
    rcases hk' with rfl | rfl
    · exact wpOp_mono (fun a' w' h' => ⟨h'.1, wpG_sound hs hQ r fuel _ _ w' (hc.set hk) (by omega) hp.1.2 (fun _ => h'.1 hp.1.1.2.1) h'.2⟩) h.1
    · exact wpOp_mono (fun a' w' h' => ⟨h'.1, wpG_sound hs hQ q fuel _ _ w' (hc.set hk) (by omega) hp.2 (fun _ => h'.1 hp.1.1.2.2) h'.2⟩) h.2

theorem closed_start (n : Nat) : ListedClosed .any ops (Array.replicate n false) := by
  intro j oj _ hl
  exfalso
  rw [Array.getD_eq_getD_getElem?, Array.getElem?_replicate] at hl
  split at hl <;> simp at hl
/-- The beginning. z: the last operation's number where S doesn't hold behind it; else the number of all. -/
theorem wp_plan (z : Nat) (l : Pl) {id : Nat} {a : Act} {w : World} (hm : P.follows .mixedOrders = true) (hs : Region.noSelect ops = true)
    (hp : planB ops z (Array.replicate ops.size false) l = true) (hl : decide (l.len ≤ ops.size) = true) (hQ : ∀ c a w d v, Q (.panic c) (Act.put a d v) w → Q (.panic c) a w) (hS : S w.drew)
    (h : S w.drew → wpG P ops Q S z l a w.drew) : (Code.region id ops true).wp P Q a w :=
  wp_region_any hm (wpAny_of_T _ _ _ _ (wpG_sound hs hQ l _ _ _ _ (closed_start _) (of_decide_eq_true hl) hp (fun _ => hS) (h hS)))

theorem G_on {i : Nat} {r : Pl} {a : Act} {w : World} {o : Oper} {v : Value} (ho : ops[i]? = some o) (hw : Region.wanted o (yielded ops a.tmps) = true)
    (hv : ∀ w, S w → (execOp a.eval o).run P w = .ok (.value v) w) (h : wpG P ops Q S z r (a.put o.dst v) w) : wpG P ops Q S z (.fl i r) a w :=
  ⟨o, v, ho, .inl ⟨hw, hv⟩, h⟩
theorem G_off {i : Nat} {r : Pl} {a : Act} {w : World} {o : Oper} (ho : ops[i]? = some o) (hw : Region.wanted o (yielded ops a.tmps) = false)
    (h : wpG P ops Q S z r (a.put o.dst undef) w) : wpG P ops Q S z (.fl i r) a w :=
  ⟨o, undef, ho, .inr ⟨hw, rfl⟩, h⟩
/-- One that waits its turn, and is not wanted. -/
theorem G_skip {i : Nat} {r : Pl} {a : Act} {w : World} {o : Oper} (ho : ops[i]? = some o) (hw : Region.wanted o (yielded ops a.tmps) = false) (hS : S w)
    (h : wpG P ops Q S z r (a.put o.dst undef) w) : wpG P ops Q S z (.one i r) a w := by
  show wpOp P ops Q i _ a w
  unfold wpOp
  simp only [ho, hw, Bool.false_eq_true, if_false]
  exact ⟨fun _ => hS, h⟩
/-- One that waits its turn. -/
theorem G_step {i : Nat} {r : Pl} {a : Act} {w : World} {o : Oper} (ho : ops[i]? = some o) (hw : Region.wanted o (yielded ops a.tmps) = true)
    (h : ∀ K' : Act → World → Prop, Shut (∀ a w, S w → (S w → wpG P ops Q S z r a w) → K' a w) → Oper.wp P o a w K' Q) : wpG P ops Q S z (.one i r) a w := by
  show wpOp P ops Q i _ a w
  unfold wpOp
  simp only [ho, hw, if_true]
  exact .inl (h _ (fun a w hS hW => ⟨fun _ => hS, hW hS⟩))
/-- The last. -/
theorem G_last {i : Nat} {a : Act} {w : World} {o : Oper} (hz : i = z) (ho : ops[i]? = some o) (hw : Region.wanted o (yielded ops a.tmps) = true)
    (h : ∀ K' : Act → World → Prop, Shut (∀ a w, Q .normal a w → K' a w) → Oper.wp P o a w K' Q) : wpG P ops Q S z (.one i .done) a w := by
  show wpOp P ops Q i _ a w
  unfold wpOp
  simp only [ho, hw, if_true]
  exact .inl (h _ (fun a w hW => ⟨fun h => absurd hz h, hW⟩))
/-- Two are ready: both ways. -/
theorem G_two {i j : Nat} {r q : Pl} {a : Act} {w : World} (h1 : wpG P ops Q S z (.one i r) a w) (h2 : wpG P ops Q S z (.one j q) a w) : wpG P ops Q S z (.two i j r q) a w := ⟨h1, h2⟩
theorem G_done {a : Act} {w : World} (h : Q .normal a w) : wpG P ops Q S z .done a w := h
end
attribute [irreducible] wpG
end Go.Proofs.Ytmlfnlmdnhblmaa.Reg
