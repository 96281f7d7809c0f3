import Derived.Test.YtehojcocnndniaaProg
import Derived.WalkKit
import Derived.WalkSpells
import Derived.WalkLawsBesides
import Derived.Below
import Derived.Lib.Hide
import Derived.KernelRfl
import Derived.LaidEqlPtr
import Derived.Deep.LoopGhost
import Derived.Deep.QuietTactic
import Derived.BigQuiet
import Derived.WalkSmall
import Derived.Handy
import Derived.ProofKit
import Derived.LoopTactic
import Derived.OwnWalk
import Derived.Deep.RegionHeld3
import Derived.Test.YtehojcocnndniaaWWords
import Derived.OrdersHeld
import Derived.Test.YtehojcocnndniaaWLast
import Derived.Lib.FrozenHead
import Derived.Lib.UnsafeStr
import Derived.RegionTactic
import Derived.Outline
import Derived.Test.YtehojcocnndniaaWMore
import Derived.Test.YtehojcocnndniaaPImageTakesx2
import Derived.Shelf.Strings.Builder1
import Derived.Shelf.Strings.Builder2
import Derived.Shelf.Strings.BuilderF
import Derived.Shelf.Strings.Prefix
import Derived.Shelf.Bits.Mul64
import Derived.Shelf.Strings.Repeat
set_option linter.unusedVariables false
set_option linter.unusedSimpArgs false
namespace Go.Proofs.Ytehojcocnndniaa.Base
open Go.RowKit
theorem wrapu64 {x : Int} (h0 : 0 ≤ x) (h1 : x < 18446744073709551616) : IntKind.u64.wrap x = x := by
  simp [IntKind.wrap, IntKind.bits, IntKind.signed]; omega
theorem wrapi64 {x : Int} (h0 : -9223372036854775808 ≤ x) (h1 : x < 9223372036854775808) : IntKind.i64.wrap x = x := by
  simp [IntKind.wrap, IntKind.bits, IntKind.signed]; omega
theorem wf_u64 {n : Int} (h : (Lit.int .u64 n).wf = true) : 0 ≤ n ∧ n < 18446744073709551616 := by
  simp only [Lit.wf, Bool.and_eq_true, decide_eq_true_eq] at h
  have h1 : IntKind.u64.min = 0 := by decide
  have h2 : IntKind.u64.max = 18446744073709551615 := by decide
  omega
theorem wf_i64 {n : Int} (h : (Lit.int .i64 n).wf = true) : -9223372036854775808 ≤ n ∧ n < 9223372036854775808 := by
  simp only [Lit.wf, Bool.and_eq_true, decide_eq_true_eq] at h
  have h1 : IntKind.i64.min = -9223372036854775808 := by decide
  have h2 : IntKind.i64.max = 9223372036854775807 := by decide
  omega
theorem wf_u32 {n : Int} (h : (Lit.int .u32 n).wf = true) : 0 ≤ n ∧ n < 4294967296 := by
  simp only [Lit.wf, Bool.and_eq_true, decide_eq_true_eq] at h
  have h1 : IntKind.u32.min = 0 := by decide
  have h2 : IntKind.u32.max = 4294967295 := by decide
  omega
theorem wf_u8 {n : Int} (h : (Lit.int .u8 n).wf = true) : 0 ≤ n ∧ n < 256 := by
  simp only [Lit.wf, Bool.and_eq_true, decide_eq_true_eq] at h
  have h1 : IntKind.u8.min = 0 := by decide
  have h2 : IntKind.u8.max = 255 := by decide
  omega
theorem cfar {w : World} {p a : Addr} {v u : Value} (h : w.cell? a = some u) (hn : p.block ≠ a.block) : (w.setCell p v).cell? a = some u :=
  (World.cell?_setCell_far w p a v hn).trans h
theorem csame {w : World} {a : Addr} {v u : Value} (h : w.cell? a = some u) : (w.setCell a v).cell? a = some v := World.cell?_setCell_same _ _ _ h
theorem coff {w : World} {b i j : Nat} {v u : Value} (h : w.cell? ⟨b, j, none⟩ = some u) (hn : i ≠ j) : (w.setCell ⟨b, i, none⟩ v).cell? ⟨b, j, none⟩ = some u :=
  by
  rw [World.cell?_setCell_other]
  · exact h
  · intro e
    injection e with _ e
    exact hn e
theorem cnew {w : World} {o : Obj} {a : Addr} {u : Value} (h : w.cell? a = some u) : (w.alloc o).cell? a = some u := by
  rw [World.cell?_alloc_old]
  · exact h
  · intro e
    unfold World.cell? at h
    rw [e] at h
    simp at h
theorem cbel {B : Nat} {w w' : World} {a : Addr} {u : Value} (hb : Below B w w') (h : w.cell? a = some u) (ha : a.block < B) : w'.cell? a = some u := (hb.cell ha).trans h
theorem fbel {B : Nat} {w w' : World} {a : Addr} {u : Bool} (hb : Below B w w') (h : w.frozen? a = u) (ha : a.block < B) : w'.frozen? a = u := (hb.frozen ha).trans h
theorem bx {x y : Int} (h : x = y) {k : IntKind} : Ending.returned (Value.int k x) = Ending.returned (Value.int k y) := by rw [h]
theorem bb {x y : Bool} (h : x = y) : Ending.returned (Value.bool x) = Ending.returned (Value.bool y) := by rw [h]
end Go.Proofs.Ytehojcocnndniaa.Base
namespace Go.Proofs.Ytehojcocnndniaa.Base
open Go.RowKit
theorem bstep {a b c : World} (h : Below a.heap.size a b) (k : Below b.heap.size b c) : Below a.heap.size a c := h.trans (k.mono h.size)
end Go.Proofs.Ytehojcocnndniaa.Base
namespace Go.Proofs.Ytehojcocnndniaa.Sp
open Go.RowKit Base
/-- Only blocks of F, and new ones, may have turned. -/
structure Mod (F : Nat → Prop) (w w' : World) : Prop where
  os : w'.os = w.os
  tape : w'.tape = w.tape
  output : w'.output = w.output
  size : w.heap.size ≤ w'.heap.size
  block : ∀ k, k < w.heap.size → ¬ F k → w'.heap[k]? = w.heap[k]?
theorem Mod.refl (F : Nat → Prop) (w : World) : Mod F w w := ⟨rfl, rfl, rfl, Nat.le_refl _, fun _ _ _ => rfl⟩
theorem Mod.of {F : Nat → Prop} {w w' : World} (h : Below w.heap.size w w') : Mod F w w' := ⟨h.os, h.tape, h.output, h.size, fun k hk _ => h.block k hk⟩
theorem Mod.trans {F G : Nat → Prop} {a b c : World} (h : Mod F a b) (k : Mod G b c) (hG : ∀ i, G i → F i ∨ a.heap.size ≤ i) : Mod F a c :=
  ⟨k.os.trans h.os, k.tape.trans h.tape, k.output.trans h.output, Nat.le_trans h.size k.size, fun i hi hF => (k.block i (Nat.lt_of_lt_of_le hi h.size) (fun g => (hG i g).elim hF (fun h => by omega))).trans (h.block i hi hF)⟩
theorem Mod.mono {F G : Nat → Prop} {w w' : World} (h : Mod F w w') (hG : ∀ k, F k → G k ∨ w.heap.size ≤ k) : Mod G w w' := (Mod.refl G w).trans h hG
theorem Mod.below {F : Nat → Prop} {B : Nat} {w0 w w' : World} (hb : Below B w0 w) (h : Mod F w w') (hB : B ≤ w.heap.size) (hF : ∀ k, F k → B ≤ k) : Below B w0 w' :=
  hb.trans ⟨h.os, h.tape, h.output, h.size, fun k hk => h.block k (by omega) (fun hf => by have := hF k hf; omega)⟩
theorem Mod.set {F : Nat → Prop} {w w' : World} (h : Mod F w w') {p : Addr} (hp : F p.block ∨ w.heap.size ≤ p.block) (u : Value) : Mod F w (w'.setCell p u) :=
  ⟨h.os, h.tape, h.output, by simpa [World.setCell] using h.size, fun k hk hF => (Below.heap_setCell _ _ _ _ (fun e => by subst e; exact hp.elim hF (fun h => by omega))).trans (h.block k hk hF)⟩
theorem Mod.alloc {F : Nat → Prop} {w w' : World} (h : Mod F w w') (o : Obj) : Mod F w (w'.alloc o) :=
  ⟨h.os, h.tape, h.output, by have := h.size; simp; omega, fun k hk hF => (Below.heap_alloc _ _ _ (by have := h.size; omega)).trans (h.block k hk hF)⟩
theorem Mod.drew {F : Nat → Prop} {w w' : World} (h : Mod F w w') : Mod F w w'.drew := ⟨h.os, h.tape, h.output, h.size, h.block⟩
theorem Mod.grown {F : Nat → Prop} {w w1 w' : World} {row : Option Nat} (h : Mod F w w1) (hg : w1.grownBy w' row) (hr : ∀ k, row = some k → F k ∨ w.heap.size ≤ k) : Mod F w w' :=
  ⟨hg.os.trans h.os, hg.tape.trans h.tape, hg.output.trans h.output, Nat.le_trans h.size hg.size, fun k hk hF => (hg.block k (Nat.lt_of_lt_of_le hk h.size) (fun e => (hr k e.symm).elim hF (fun h => by omega))).trans (h.block k hk hF)⟩
theorem Mod.cell {F : Nat → Prop} {w w' : World} {a : Addr} {u : Value} (h : Mod F w w') (hc : w.cell? a = some u) (hF : ¬ F a.block) : w'.cell? a = some u := by
  have hl := World.block_lt_of_cell? w a hc
  unfold World.cell? at hc ⊢
  rw [h.block a.block hl hF]
  exact hc
theorem Mod.froz {F : Nat → Prop} {w w' : World} {a : Addr} {u : Bool} (h : Mod F w w') (hc : w.frozen? a = u) (hl : a.block < w.heap.size) (hF : ¬ F a.block) : w'.frozen? a = u := by
  unfold World.frozen? at hc ⊢
  rw [h.block a.block hl hF]
  exact hc
/-- Blocks of F are as they were. -/
def Same (F : Nat → Prop) (w w' : World) : Prop := ∀ k, F k → w'.heap[k]? = w.heap[k]?
theorem Mod.same {F G : Nat → Prop} {w w' : World} (h : Mod F w w') (hl : ∀ k, G k → k < w.heap.size) (hd : ∀ k, G k → ¬ F k) : Same G w w' := fun k hk => h.block k (hl k hk) (hd k hk)
theorem Same.of {G : Nat → Prop} {w w' : World} (h : Below w.heap.size w w') (hl : ∀ k, G k → k < w.heap.size) : Same G w w' := fun k hk => h.block k (hl k hk)
theorem Same.cell {F : Nat → Prop} {w w' : World} (h : Same F w w') {b i : Nat} (hb : F b) : w'.cell? ⟨b, i, none⟩ = w.cell? ⟨b, i, none⟩ := by unfold World.cell?; rw [h b hb]
theorem Same.frozen {F : Nat → Prop} {w w' : World} (h : Same F w w') {b i : Nat} (hb : F b) : w'.frozen? ⟨b, i, none⟩ = w.frozen? ⟨b, i, none⟩ := by unfold World.frozen?; rw [h b hb]
/-- What is F's then is F's before, or new. -/
def Grow (F F' : Nat → Prop) (w : World) : Prop := ∀ k, F' k → F k ∨ w.heap.size ≤ k
theorem Grow.refl (F : Nat → Prop) (w : World) : Grow F F w := fun _ h => .inl h
end Go.Proofs.Ytehojcocnndniaa.Sp
namespace Go.Proofs.Ytehojcocnndniaa.Flat
open Go.RowKit Base Sp Go.Proofs.YtehojcocnndniaaW.PrintWords
section
variable {α : Type} {d : Kd α} {e : Nat} {w w' W : World} {F G : Nat → Prop} {v : Value} {xs : List α}
/-- A kind whose cells hang on nothing else in memory. -/
structure Flat (d : Kd α) : Prop where
  k : ∀ {w w' : World} {x : α} {c : List Value}, d.K w x c → d.K w' x c
  m : ∀ {w : World} {base : Nat} {ok : Nat → Prop} {x : α} {c : List Value}, d.K w x c → d.M w base ok x c
theorem flat_string : Flat Kd.string := ⟨fun h => h, fun h => h⟩
theorem flat_int (k : IntKind) : Flat (Kd.int k) := ⟨fun h => h, fun h => h⟩
theorem flat_bool : Flat Kd.bool := ⟨fun h => h, fun h => h⟩
theorem flat_pair {β : Type} {d1 : Kd α} {d2 : Kd β} (h1 : Flat d1) (h2 : Flat d2) : Flat (Kd.pair d1 d2) :=
  ⟨fun ⟨c0, c1, e, a, b⟩ => ⟨c0, c1, e, h1.k a, h2.k b⟩, fun ⟨c0, c1, e, a, b⟩ => ⟨c0, c1, e, h1.m a, h2.m b⟩⟩
theorem flat_iso {β : Type} {f : β → α} (h : Flat d) : Flat (Kd.iso d f) := ⟨fun a => h.k a, fun a => h.m a⟩
/-- A slice that reads as a list; its block is one of F's. -/
def Rd (d : Kd α) (w : World) (F : Nat → Prop) (v : Value) (xs : List α) : Prop :=
  ∃ A c, v = .slice A xs.length c ∧ xs.length ≤ c ∧ d.C w A xs.length xs ∧ ∀ a, A = some a → F a.block
/-- A slice that reads as a list, and may be appended to. -/
def Own (d : Kd α) (e : Nat) (w : World) (F : Nat → Prop) (v : Value) (xs : List α) : Prop :=
  d.Q e w 0 F v xs ∨ ∃ a, v = .slice (some a) xs.length xs.length ∧ d.C w (some a) xs.length xs ∧ F a.block
theorem Rd.mono (h : Rd d w F v xs) (hF : ∀ k, F k → G k) : Rd d w G v xs := by
  obtain ⟨A, c, e, hl, hC, hA⟩ := h
  exact ⟨A, c, e, hl, hC, fun a ha => hF _ (hA a ha)⟩
theorem Own.mono (h : Own d e w F v xs) (hF : ∀ k, F k → G k) : Own d e w G v xs := by
  rcases h with h | ⟨a, ev, hC, hA⟩
  · exact .inl (Kd.Q_mono h hF)
  · exact .inr ⟨a, ev, hC, hF _ hA⟩
theorem Own.rd (h : Own d e w F v xs) : Rd d w F v xs := by
  rcases h with h | ⟨a, ev, hC, hA⟩
  · obtain ⟨A, c, ev, hl, hC⟩ := Kd.Q_reads h
    refine ⟨A, c, ev, hl, hC, fun a ha => h.1 _ ?_⟩
    rw [ev, ha]
    rfl
  · exact ⟨some a, xs.length, ev, Nat.le_refl _, hC, fun a' ha' => by cases ha'; exact hA⟩
theorem Own.away {b : Nat} (h : Own d e w F v xs) (hb : ¬ F b) : some b ≠ v.ownBlock := by
  rcases h with h | ⟨a, ev, hC, hA⟩
  · exact fun he => hb (h.1 b he.symm)
  · rw [ev]
    intro he
    have : b = a.block := by simpa [Value.ownBlock] using he
    rw [this] at hb
    exact hb hA
theorem Own.base (h : Own d e w F v xs) : ∀ k, v.ownBlock = some k → F k := by
  intro k hk
  refine Classical.byContradiction fun hn => ?_
  exact h.away hn hk.symm
theorem Own.nil (d : Kd α) (e : Nat) (w : World) (F : Nat → Prop) : Own d e w F (.slice none 0 0) [] := .inl (Kd.Q_nil _ _ _ _ _)
theorem Rd.nil (d : Kd α) (w : World) (F : Nat → Prop) : Rd d w F (.slice none 0 0) [] := (Own.nil d 0 w F).rd
theorem C_same {A : Option Addr} {n : Nat} (hd : Flat d) (h : d.C w A n xs) (hA : ∀ a, A = some a → w'.heap[a.block]? = w.heap[a.block]?) : d.C w' A n xs := by
  obtain ⟨h1, h2, h3⟩ := h
  refine ⟨h1, h2, fun hn => ?_⟩
  obtain ⟨ad, e, hc⟩ := h3 hn
  refine ⟨ad, e, fun j p hj => ?_⟩
  obtain ⟨c, c1, c2, c3⟩ := hc j p hj
  refine ⟨c, c1, hd.k c2, fun i u hi => ?_⟩
  have h4 := c3 i u hi
  have hb : (ad.add (j * d.sz + i)).block = ad.block := by unfold Addr.add; split <;> rfl
  unfold World.cell? at h4 ⊢
  rw [hb, hA ad e]
  rw [hb] at h4
  exact h4
theorem Rd.same (hd : Flat d) (h : Rd d w F v xs) (hs : Same F w w') : Rd d w' F v xs := by
  obtain ⟨A, c, e, hl, hC, hA⟩ := h
  exact ⟨A, c, e, hl, C_same hd hC (fun a ha => hs _ (hA a ha)), hA⟩
theorem Own.same (hd : Flat d) (h : Own d e w F v xs) (hs : Same F w w') : Own d e w' F v xs := by
  rcases h with h | ⟨a, ev, hC, hA⟩
  · exact .inl (Kd.Q_move h hs)
  · exact .inr ⟨a, ev, C_same hd hC (fun a' ha' => by cases ha'; exact hs _ hA), hA⟩
theorem Rd.get (h : Rd d w F v xs) : ∃ A c, v = .slice A xs.length c ∧ xs.length ≤ c ∧ d.C w A xs.length xs := by
  obtain ⟨A, c, e, hl, hC, _⟩ := h
  exact ⟨A, c, e, hl, hC⟩
theorem Rd.max (h : Rd d w F v xs) : xs.length ≤ 9223372036854775807 := by
  obtain ⟨A, c, e, hl, hC, _⟩ := h
  exact hC.2.1
/-- The cells of a list, one behind the other. -/
theorem row_of_C {ad : Addr} (h : d.C w (some ad) xs.length xs) : ∀ m, m ≤ xs.length → ∃ cs : List Value, Reps (d.K w) d.sz (xs.take m) cs ∧ ∀ j u, cs[j]? = some u → w.cell? (ad.add j) = some u
  | 0, _ => ⟨[], by rw [List.take_zero]; exact Reps.none _ _, fun j u hj => by simp at hj⟩
  | m + 1, hm => by
    obtain ⟨cs, h1, h2⟩ := row_of_C h m (by omega)
    obtain ⟨_, e, hc⟩ := h.2.2 (by omega)
    obtain rfl := Option.some.inj e
    obtain ⟨c, c1, c2, c3⟩ := hc m _ (List.getElem?_eq_getElem (show m < xs.length by omega))
    have hlen : cs.length = m * d.sz := by rw [h1.1, List.length_take, Nat.min_eq_left (by omega)]
    refine ⟨cs ++ c, by rw [List.take_succ_eq_append_getElem (by omega)]; exact h1.snoc c2 c1, fun j u hj => ?_⟩
    rcases Nat.lt_or_ge j cs.length with hjl | hjl
    · rw [List.getElem?_append_left hjl] at hj
      exact h2 j u hj
    · rw [List.getElem?_append_right hjl, hlen] at hj
      have := c3 _ u hj
      rw [show m * d.sz + (j - m * d.sz) = j from by omega] at this
      exact this
theorem reps_append {R : α → List Value → Prop} {sz : Nat} {xs ys : List α} {cs ds : List Value} (h : Reps R sz xs cs) (k : Reps R sz ys ds) : Reps R sz (xs ++ ys) (cs ++ ds) := by
  refine ⟨by rw [List.length_append, List.length_append, h.1, k.1, Nat.add_mul], fun j p hj => ?_⟩
  rcases Nat.lt_or_ge j xs.length with hjl | hjl
  · rw [List.getElem?_append_left hjl] at hj
    have h1 : j * sz + sz ≤ cs.length := by rw [h.1, ← Nat.succ_mul]; exact Nat.mul_le_mul_right _ hjl
    have h2 := h.2 j p hj
    rw [List.drop_append_of_le_length (by omega), List.take_append_of_le_length (by rw [List.length_drop]; omega)]
    exact h2
  · rw [List.getElem?_append_right hjl] at hj
    have h2 := k.2 _ p hj
    have h1 : xs.length * sz ≤ j * sz := Nat.mul_le_mul_right _ hjl
    rw [List.drop_append, h.1, List.drop_eq_nil_of_le (by rw [h.1]; exact h1), List.nil_append, ← Nat.sub_mul]
    exact h2
/-- append(xs, p). -/
theorem Own.append {P : Program} (hd : Flat d) (t ty : TypeId) (z : Value) (bytes : Nat) (ht : P.underlying t = some (.slice e))
    (hinfo : (P.info? e).map (fun i => (i.zero, i.size, i.bytes)) = some (some z, d.sz, bytes)) (hz : z.cells.size = d.sz) (hs0 : 0 < d.sz) (hb0 : 0 < bytes)
    (p : α) (cs : List Value) (hp : d.K W p cs) (h : Own d e W F v xs) (hF : ∀ k, F k → k < W.heap.size) (hl : (xs.length + 1) * bytes ≤ 140737488355328) :
    ∃ v1 w1, (Builtin.append_ #[t, t] ty #[v, .slice (some ⟨W.heap.size, 0, none⟩) 1 1]).run P (W.alloc (.cells cs.toArray e)) = .ok v1 w1 ∧
      Own d e w1 (fun k => F k ∨ (W.heap.size ≤ k ∧ k < w1.heap.size)) v1 (xs ++ [p]) ∧ W.grownBy w1 v.ownBlock ∧ W.heap.size < w1.heap.size := by
  have hlen : xs.length + 1 ≤ 140737488355328 := Nat.le_trans (Nat.le_mul_of_pos_right _ hb0) hl
  have lt1 : ∀ {w1 : World} {r : Option Nat}, (W.alloc (.cells cs.toArray e)).grownBy w1 r → W.heap.size < w1.heap.size := fun {w1 r} hg => by
    have := hg.size
    simp at this
    omega
  rcases h with h | ⟨a, rfl, hC, hA⟩
  · have h' : d.Q e W 0 (fun k => F k ∨ W.heap.size ≤ k) v xs := Kd.Q_mono h (fun k hk => .inl hk)
    have hq : d.Q e (W.alloc (.cells cs.toArray e)) 0 F v xs := Kd.Q_alloc h _
    obtain ⟨h0, inner, hown, hr⟩ := h
    obtain ⟨v1, w1, hrun, h1, _, h3, h4⟩ := Kd.Q_run (P := P) d (w0 := W) 0 t ty e z bytes ht hinfo hz hs0 hb0 v xs p cs (fun k => F k ∨ W.heap.size ≤ k) (fun k => False) (hd.m hp) (fun k hk => hk.elim) (fun k hk => .inr hk) h'
      (Below.refl 0 W) (by omega) hl
    obtain ⟨i0, hi, hzz⟩ := Option.map_eq_some_iff.1 hinfo
    have hs1 : W.heap.size < w1.heap.size := by
      simp only [Prod.mk.injEq] at hzz
      obtain ⟨hz0, hz1, hz2⟩ := hzz
      have hcl := d.K_len hp
      obtain ⟨v2, w2, hrun2, _, hg2, _⟩ := q_append (P := P) (W.alloc (.cells cs.toArray e)) 0 t ty e i0 z d.sz bytes ht hi hz0 hz1 hz2 hz hs0 v xs.length inner (q_move hown (fun k hk => Below.heap_alloc W _ k (q_lt hown k hk))) ⟨W.heap.size, 0, none⟩ 1 1 cs (by rw [hcl, Nat.one_mul])
        (by simpa using World.news_of_block (cs := cs.toArray) (t := e) (fr := (0, 0)) (heap_alloc_new W (.cells cs.toArray e))) (d.K_one hp) (by omega) (by simp only [maxLen]; omega) hl (by omega)
      rw [hrun] at hrun2
      injection hrun2 with _ hw
      subst hw
      exact lt1 hg2
    refine ⟨v1, w1, hrun, .inl (Kd.Q_mono (Kd.Q_bound h1) (fun k hk => ?_)), h3, hs1⟩
    rcases hk.1 with hf | hf
    · exact .inl hf
    · exact .inr ⟨hf, hk.2.2.1⟩
  · obtain ⟨i0, hi, hzz⟩ := Option.map_eq_some_iff.1 hinfo
    simp only [Prod.mk.injEq] at hzz
    obtain ⟨hz0, hz1, hz2⟩ := hzz
    obtain ⟨olds, ho, hoc⟩ := row_of_C hC xs.length (Nat.le_refl _)
    rw [List.take_length] at ho
    have hcl := d.K_len hp
    obtain ⟨v1, w1, hrun, hown, hg⟩ := run_append_arg_grows (P := P) (w := W.alloc (.cells cs.toArray e)) t ty e i0 z d.sz bytes ht hi hz0 hz1 hz2 hz hs0 a xs.length xs.length olds ho.1
      (fun j u hj => by
        have := hoc j u hj
        exact cnew this) ⟨W.heap.size, 0, none⟩ 1 1 cs (by rw [hcl, Nat.one_mul])
      (by simpa using World.news_of_block (cs := cs.toArray) (t := e) (fr := (0, 0)) (heap_alloc_new W (.cells cs.toArray e))) (by omega) (by simp only [maxLen]; omega) hl
    have hs1 := lt1 hg
    have hg1 : W.grownBy w1 none := World.grownBy.trans (World.grownBy_alloc W _ _) hg
    refine ⟨v1, w1, hrun, .inl ?_, ⟨hg1.os, hg1.tape, hg1.output, hg1.size, fun k hk _ => hg1.block k hk (by simp)⟩, hs1⟩
    have hq : QRow w1 (W.alloc (.cells cs.toArray e)).heap.size e d.sz v1 (xs.length + 1) (olds ++ cs) := q_of_own hown
    refine ⟨fun k hk => ?_, olds ++ cs, by rw [List.length_append, List.length_singleton]; exact q_lower hq (Nat.zero_le _), ?_⟩
    · have h1 := (q_typed hq k hk).1
      have h2 := q_lt hq k hk
      simp at h1
      exact .inr ⟨by omega, h2⟩
    · exact (ho.imp_ (fun _ _ hq => hd.m (hd.k hq))).snoc (hd.m (hd.k hp)) hcl
/-- append(xs, ys...), ys not empty. -/
theorem Own.appends {P : Program} (hd : Flat d) (t ty : TypeId) (z : Value) (bytes : Nat) (ht : P.underlying t = some (.slice e))
    (hinfo : (P.info? e).map (fun i => (i.zero, i.size, i.bytes)) = some (some z, d.sz, bytes)) (hz : z.cells.size = d.sz) (hs0 : 0 < d.sz) (hb0 : 0 < bytes)
    (ys : List α) (B : Addr) (cB : Nat) (hy : d.C W (some B) ys.length ys) (hy0 : 0 < ys.length) (h : Own d e W F v xs) (hF : ∀ k, F k → k < W.heap.size) (hl : (xs.length + ys.length) * bytes ≤ 140737488355328) :
    ∃ v1 w1, (Builtin.append_ #[t, t] ty #[v, .slice (some B) ys.length cB]).run P W = .ok v1 w1 ∧
      Own d e w1 (fun k => F k ∨ (W.heap.size ≤ k ∧ k < w1.heap.size)) v1 (xs ++ ys) ∧ W.grownBy w1 v.ownBlock := by
  have hlen : xs.length + ys.length ≤ 140737488355328 := Nat.le_trans (Nat.le_mul_of_pos_right _ hb0) hl
  obtain ⟨i0, hi, hzz⟩ := Option.map_eq_some_iff.1 hinfo
  simp only [Prod.mk.injEq] at hzz
  obtain ⟨hz0, hz1, hz2⟩ := hzz
  obtain ⟨news, hn, hnc⟩ := row_of_C hy ys.length (Nat.le_refl _)
  rw [List.take_length] at hn
  have hone : ∀ u ∈ news, u.oneCell' = true := by
    intro u hu
    obtain ⟨j, hj, hju⟩ := List.getElem_of_mem hu
    have hjlt : j / d.sz < ys.length := by
      rw [Nat.div_lt_iff_lt_mul hs0, ← hn.1]
      exact hj
    have h1 := hn.2 (j / d.sz) _ (List.getElem?_eq_getElem hjlt)
    refine d.K_one h1 u ?_
    refine List.mem_iff_getElem?.2 ⟨j % d.sz, ?_⟩
    rw [List.getElem?_take, if_pos (Nat.mod_lt _ hs0), List.getElem?_drop, Nat.div_add_mod', List.getElem?_eq_getElem hj, hju]
  rcases h with h | ⟨a, rfl, hC, hA⟩
  · obtain ⟨h0, inner, hown, hr⟩ := h
    obtain ⟨v1, w1, hrun, hq, hg, hat⟩ := q_append (P := P) W 0 t ty e i0 z d.sz bytes ht hi hz0 hz1 hz2 hz hs0 v xs.length inner hown B ys.length cB news hn.1 hnc hone hy0 (by simp only [maxLen]; omega) hl (by omega)
    refine ⟨v1, w1, hrun, .inl ⟨fun k hk => ?_, inner ++ news, by rw [List.length_append]; exact hq, ?_⟩, hg⟩
    · rcases hat with hat | ⟨b, hb, hle⟩
      · rw [hat] at hk
        exact .inl (h0 k hk)
      · have := q_lt hq k hk
        rw [hb] at hk
        injection hk with hk
        exact .inr ⟨by omega, this⟩
    · refine reps_append (hr.imp_ (fun _ _ h => hd.m (hd.k (d.K_of_M h)))) (hn.imp_ (fun _ _ h => hd.m (hd.k h)))
  · obtain ⟨olds, ho, hoc⟩ := row_of_C hC xs.length (Nat.le_refl _)
    rw [List.take_length] at ho
    obtain ⟨v1, w1, hrun, hown, hg⟩ := run_append_arg_grows (P := P) (w := W) t ty e i0 z d.sz bytes ht hi hz0 hz1 hz2 hz hs0 a xs.length xs.length olds ho.1 hoc B ys.length cB news hn.1 hnc (by omega) (by simp only [maxLen]; omega) hl
    refine ⟨v1, w1, hrun, .inl ?_, ⟨hg.os, hg.tape, hg.output, hg.size, fun k hk _ => hg.block k hk (by simp)⟩⟩
    have hq : QRow w1 W.heap.size e d.sz v1 (xs.length + ys.length) (olds ++ news) := q_of_own hown
    refine ⟨fun k hk => .inr ⟨(q_typed hq k hk).1, q_lt hq k hk⟩, olds ++ news, by rw [List.length_append]; exact q_lower hq (Nat.zero_le _), ?_⟩
    exact reps_append (ho.imp_ (fun _ _ h => hd.m (hd.k h))) (hn.imp_ (fun _ _ h => hd.m (hd.k h)))
/-- xs[k:n:n]. -/
theorem Rd.cut {k : Nat} (h : Rd d w F v xs) (hk : k ≤ xs.length) : ∃ A c, v = .slice A xs.length c ∧ xs.length ≤ c ∧
    Own d e w F (.slice (if xs.length = k then A else A.map (·.add (k * d.sz))) (xs.length - k) (xs.length - k)) (xs.drop k) := by
  obtain ⟨A, c, rfl, hl, hC, hA⟩ := h
  refine ⟨A, c, rfl, hl, ?_⟩
  have h1 := Kd.C_drop hC hk (Nat.le_refl _)
  cases A with
  | none =>
    have h0 : xs.length = 0 := by
      by_cases h0 : 0 < xs.length
      · obtain ⟨_, e, _⟩ := hC.2.2 h0
        cases e
      · omega
    obtain rfl := List.eq_nil_of_length_eq_zero h0
    simpa using Own.nil d e w F
  | some a =>
    refine .inr ⟨if xs.length = k then a else a.add (k * d.sz), ?_, ?_, ?_⟩
    · rw [List.length_drop]
      split <;> simp_all
    · split
      · rw [if_pos (by assumption)] at h1; exact h1
      · rw [if_neg (by assumption)] at h1; exact h1
    · split
      · exact hA a rfl
      · have : (a.add (k * d.sz)).block = a.block := by unfold Addr.add; split <;> rfl
        rw [this]
        exact hA a rfl
/-- xs[k:], to be appended to. -/
theorem Own.drop {A : Option Addr} {c k : Nat} (h : Own d e w F (.slice A xs.length c) xs) (hk : k ≤ xs.length) : Own d e w F (.slice (if c = k then A else A.map (·.add (k * d.sz))) (xs.length - k) (c - k)) (xs.drop k) := by
  rcases h with h | ⟨a, ev, hC, hA⟩
  · exact .inl (Kd.Q_drop h hk)
  · injection ev with e1 _ e3
    subst e1 e3
    obtain ⟨A', c', e, _, h1⟩ := Rd.cut (e := e) (F := F) (d := d) (w := w) (v := .slice (some a) xs.length xs.length) ⟨some a, xs.length, rfl, Nat.le_refl _, hC, fun a' ha' => by cases ha'; exact hA⟩ hk
    injection e with e1
    subst e1
    exact h1
/-- A new, empty slice. -/
theorem Own.empty {g : Nat} {cs : Array Value} (hg : w.heap[g]? = some (.cells cs e (0, 0))) (hF : F g) : Own d e w F (.slice (some ⟨g, 0, none⟩) 0 0) [] := by
  refine .inl ⟨fun k hk => ?_, [], ⟨by simp, .inl ⟨rfl, some ⟨g, 0, none⟩, rfl, fun a ha => ?_⟩⟩, Reps.none _ _⟩
  · have : g = k := by simpa [Value.ownBlock] using hk
    rw [← this]
    exact hF
  · cases ha
    exact ⟨Nat.zero_le _, cs, hg⟩
theorem Rd.set {a : Addr} {u : Value} (hd : Flat d) (h : Rd d w F v xs) (ha : ¬ F a.block) : Rd d (w.setCell a u) F v xs :=
  h.same hd (fun k hk => Below.heap_setCell _ _ _ _ (fun e => ha (e ▸ hk)))
theorem Own.set {a : Addr} {u : Value} (hd : Flat d) (h : Own d e w F v xs) (ha : ¬ F a.block) : Own d e (w.setCell a u) F v xs :=
  h.same hd (fun k hk => Below.heap_setCell _ _ _ _ (fun e => ha (e ▸ hk)))
theorem Rd.alloc (hd : Flat d) (h : Rd d w F v xs) (o : Obj) (hF : ∀ k, F k → k < w.heap.size) : Rd d (w.alloc o) F v xs := h.same hd (fun k hk => Below.heap_alloc _ _ _ (hF k hk))
/-- append([]T{}, ys...). -/
theorem Own.copied {P : Program} (hd : Flat d) (t ty : TypeId) (z : Value) (bytes : Nat) (ht : P.underlying t = some (.slice e)) (ht' : P.underlying t = some (.slice (P.elem t)))
    (hinfo : (P.info? e).map (fun i => (i.zero, i.size, i.bytes)) = some (some z, d.sz, bytes)) (hz : z.cells.size = d.sz) (hs0 : 0 < d.sz) (hb0 : 0 < bytes)
    {g : Nat} {cs : Array Value} (hg : W.heap[g]? = some (.cells cs e (0, 0))) (ys : List α) (A : Option Addr) (c : Nat) (h : Rd d W G (.slice A ys.length c) ys) (hl : ys.length * bytes ≤ 140737488355328) :
    ∃ v1 w1, (Builtin.append_ #[t, t] ty #[.slice (some ⟨g, 0, none⟩) 0 0, .slice A ys.length c]).run P W = .ok v1 w1 ∧
      Own d e w1 (fun k => k = g ∨ (W.heap.size ≤ k ∧ k < w1.heap.size)) v1 ys ∧ W.grownBy w1 (some g) := by
  have hgl := blk_lt hg
  have hO : Own d e W (fun k => k = g) (.slice (some ⟨g, 0, none⟩) 0 0) [] := Own.empty hg rfl
  by_cases h0 : 0 < ys.length
  · obtain ⟨A', c', ev, hc, hC, hA⟩ := h
    injection ev with e1 _ e3
    subst e1 e3
    obtain ⟨B, rfl, _⟩ := hC.2.2 h0
    obtain ⟨v1, w1, hr, ho, hgr⟩ := hO.appends (P := P) hd t ty z bytes ht hinfo hz hs0 hb0 ys B c hC h0 (fun k hk => by rw [hk]; exact hgl) (by simpa using hl)
    exact ⟨v1, w1, hr, ho, hgr⟩
  · obtain rfl : ys = [] := List.eq_nil_of_length_eq_zero (by omega)
    obtain ⟨i0, hi, hzz⟩ := Option.map_eq_some_iff.1 hinfo
    refine ⟨.slice (some ⟨g, 0, none⟩) 0 0, W, ?_, hO.mono (fun k hk => .inl hk), ⟨rfl, rfl, rfl, Nat.le_refl _, fun _ _ _ => rfl⟩⟩
    have hsz : (sizeOf e).run P W = .ok d.sz W := by
      simp only [Prod.mk.injEq] at hzz
      simp [sizeOf, typeInfo, hi, hzz.2.1]
    cases A <;> simp [Builtin.append_, run_underlying ht, hsz, Result.andThen, Builtin.lenOf, Builtin.firstCells, storeCells, go_sem]
/-- xs[k:]. -/
theorem Rd.drop {A : Option Addr} {c k : Nat} (h : Rd d w F (.slice A xs.length c) xs) (hk : k ≤ xs.length) : Rd d w F (.slice (if c = k then A else A.map (·.add (k * d.sz))) (xs.length - k) (c - k)) (xs.drop k) := by
  obtain ⟨A', c', e, hl, hC, hA⟩ := h
  injection e with e1 _ e3
  subst e1 e3
  refine ⟨_, c - k, by rw [List.length_drop], by rw [List.length_drop]; omega, Kd.C_drop hC hk hl, fun a ha => ?_⟩
  cases A with
  | none => split at ha <;> simp at ha
  | some b =>
    split at ha
    · exact hA a ha
    · have e : b.add (k * d.sz) = a := by simpa using ha
      have : (b.add (k * d.sz)).block = b.block := by unfold Addr.add; split <;> rfl
      rw [← e, this]
      exact hA b rfl
/-- xs[:k]. -/
theorem Rd.take {A : Option Addr} {c k : Nat} (h : Rd d w F (.slice A xs.length c) xs) (hk : k ≤ xs.length) : Rd d w F (.slice A k c) (xs.take k) := by
  obtain ⟨A', c', e, hl, hC, hA⟩ := h
  injection e with e1 _ e3
  subst e1 e3
  have hk' : (xs.take k).length = k := by rw [List.length_take]; omega
  exact ⟨A, c, by rw [hk'], by omega, Kd.C_take hC hk, hA⟩
end
section
variable {P : Program} {ops : Array Oper} {rest : List Oper} {o : Oper} {a : Act} {Q : Exit → Act → World → Prop}
/-- An append whose run is known. -/
theorem wp_append {W w1 : World} {v1 v u : Value} (hgd : o.guard = none) (s x : Operand) (t : TypeId) (ho : o.op = .call { callee := .builtin .append, args := #[s, x], argTypes := #[t, t] })
    (hs : a.eval s = v) (hx : a.eval x = u) (hrun : (Builtin.append_ #[t, t] o.type #[v, u]).run P W = .ok v1 w1) (h : wpList P ops Q rest (a.put o.dst v1) w1) : wpList P ops Q (o :: rest) a W := by
  refine wpList_plain hgd fun K hK => ?_
  unfold Oper.wp execOp
  simp only [ho, resolve, invoke, builtin, Sem.run_bind, Sem.run_pure, Result.andThen_ok, List.map_toArray, List.map_cons, List.map_nil, hs, hx, hrun]
  exact hK _ _ h
end
end Go.Proofs.Ytehojcocnndniaa.Flat
namespace Go.Proofs.Ytehojcocnndniaa.Reg
open Go.Proofs.YtehojcocnndniaaW.PrintLast
section
variable {P : Program} {ops : Array Oper} {Q : Exit → Act → World → Prop} {S : World → Prop} {z : Nat}

/-- Whatever order is picked from here on; S holds behind every operation but number z, for which nobody is left to wait. -/
def wpT (P : Program) (ops : Array Oper) (Q : Exit → Act → World → Prop) (S : World → Prop) (z : Nat) : Nat → Array Bool → Act → World → Prop
  | 0, listed, a, w => Region.ready .any ops listed = [] ∧ Q .normal a w
  | fuel + 1, listed, a, w =>
    (Region.ready .any ops listed = [] → Q .normal a w) ∧
    ∀ i ∈ Region.ready .any ops listed, wpOp P ops Q i (fun a' w' => (i ≠ z → S w') ∧ wpT P ops Q S z fuel (listed.setIfInBounds i true) a' w') a w

theorem wpAny_of_T : ∀ (fuel : Nat) (listed : Array Bool) (a : Act) (w : World), wpT P ops Q S z fuel listed a w → wpAny P .any ops Q fuel listed a w
  | 0, _, _, _, h => h
  | fuel + 1, _, _, _, h => ⟨h.1, fun i hi => wpOp_mono (fun _ _ h' => wpAny_of_T fuel _ _ _ h'.2) (h.2 i hi)⟩

/-- Number z waits for number i, or there is no such number. -/
def waitsB (ops : Array Oper) (z i : Nat) : Bool :=
  match ops[z]? with
  | none => true
  | some o => (o.after.any fun e => Region.binds .any e && e.on == i) || Region.reachB .any ops i 4 z

theorem not_ready {i j : Nat} {listed : Array Bool} (hc : ListedClosed .any ops listed) (hz : waitsB ops z i = true) (hi : i ∈ Region.ready .any ops listed) (hj : j ∈ Region.ready .any ops listed) : j ≠ z := by
  rintro rfl
  have hj0 := hj
  obtain ⟨_, o, ho, hall⟩ := mem_ready.1 hj
  have h0 := (mem_ready.1 hi).1
  unfold waitsB at hz
  rw [ho] at hz
  simp only [Bool.or_eq_true] at hz
  rcases hz with hz | hz
  case inr => exact Region.reach_not_ready hc hz h0 hj0
  obtain ⟨e, he, hb⟩ := Array.any_eq_true'.1 hz
  simp only [Bool.and_eq_true, beq_iff_eq] at hb
  have h1 := hall e he hb.1
  rw [hb.2] at h1
  rcases Nat.lt_or_ge i listed.size with h' | h'
  · simp [h'] at h0 h1
    rw [h0] at h1
    cases h1
  · simp [Array.getElem?_eq_none h'] at h1

theorem T_first {i : Nat} {oi : Oper} {v : Value} (hi : ops[i]? = some oi) (hsel : ∀ (j : Nat) (o : Oper) cs b, ops[j]? = some o → o.op ≠ .select cs b)
    (hQ : ∀ c a w, Q (.panic c) (a.put oi.dst v) w → Q (.panic c) a w) (hz : waitsB ops z i = true) :
    ∀ (fuel : Nat) (listed : Array Bool) (a : Act) (w : World), ListedClosed .any ops listed →
      (∀ j oj, ops[j]? = some oj → j ≠ i → listed.getD j true = false → (∀ e ∈ oj.after, Region.binds .any e = true → e.on ≠ i) → oi.apart ops oj = true) →
      i ∈ Region.ready .any ops listed → YieldsIf P ops S oi v a → S w →
      wpT P ops Q S z fuel (listed.setIfInBounds i true) (a.put oi.dst v) w → wpT P ops Q S z (fuel + 1) listed a w := by
  intro fuel
  induction fuel with
  | zero =>
    intro listed a w hc _ hr hy hS H
    refine ⟨fun h => (by rw [h] at hr; cases hr), fun j hj => ?_⟩
    by_cases hji : j = i
    · subst hji
      exact hy.wpOp hi hS ⟨fun _ => hS, H⟩
    · have := ready_mono hj hji
      rw [H.1] at this
      cases this
  | succ fuel ih =>
    intro listed a w hc hfree hr hy hS H
    refine ⟨fun h => (by rw [h] at hr; cases hr), fun j hj => ?_⟩
    by_cases hji : j = i
    · subst hji
      exact hy.wpOp hi hS ⟨fun _ => hS, H⟩
    · have hjz := not_ready hc hz hr hj
      have h1 := H.2 j (ready_mono hj hji)
      obtain ⟨hjun, oj, hoj, hall⟩ := mem_ready.1 hj
      have hnot : ∀ e ∈ oj.after, Region.binds .any e = true → e.on ≠ i := fun e he hb heq => by
        have h1 := hall e he hb
        have h0 := (mem_ready.1 hr).1
        rw [heq] at h1
        rcases Nat.lt_or_ge i listed.size with h' | h'
        · simp [h'] at h0 h1
          rw [h0] at h1
          cases h1
        · simp [Array.getElem?_eq_none h'] at h1
      have h2 := wpOp_putIf hoj (hfree j oj hoj hji hjun hnot) (fun cs b => hsel i oi cs b hi) (fun cs b => hsel j oj cs b hoj) hQ hy h1
      have hfree' : ∀ k ok, ops[k]? = some ok → k ≠ i → (listed.setIfInBounds j true).getD k true = false →
          (∀ e ∈ ok.after, Region.binds .any e = true → e.on ≠ i) → oi.apart ops ok = true := fun k ok hk hki hun hno => by
        refine hfree k ok hk hki ?_ hno
        by_cases hjk : j = k
        · subst hjk
          exact hjun
        · rw [getD_set_ne true hjk] at hun
          exact hun
      refine wpOp_mono (fun a' w' h3 => ⟨h3.2.1, ih (listed.setIfInBounds j true) a' w' (hc.set hj) hfree' (ready_mono hr (Ne.symm hji)) h3.1 (h3.2.1 hjz) ?_⟩) h2
      rw [Array.setIfInBounds_comm _ _ hji]
      exact h3.2.2

/-- Orders of a region that draws its order: fl: an operation that yields the same value in every world that meets S; one: the only one that is ready; two: two are ready. -/
inductive Pl where
  | done : Pl
  | fl : Nat → Pl → Pl
  | one : Nat → Pl → Pl
  | two : Nat → Nat → Pl → Pl → Pl
/-- S holds behind each operation but number z. -/
def wpG (P : Program) (ops : Array Oper) (Q : Exit → Act → World → Prop) (S : World → Prop) (z : Nat) : Pl → Act → World → Prop
  | .done, a, w => Q .normal a w
  | .fl i r, a, w => ∃ o v, ops[i]? = some o ∧ YieldsIf P ops S o v a ∧ wpG P ops Q S z r (a.put o.dst v) w
  | .one i r, a, w => wpOp P ops Q i (fun a' w' => (i ≠ z → S w') ∧ wpG P ops Q S z r a' w') a w
  | .two i j r q, a, w => wpOp P ops Q i (fun a' w' => (i ≠ z → S w') ∧ wpG P ops Q S z r a' w') a w ∧ wpOp P ops Q j (fun a' w' => (j ≠ z → S w') ∧ wpG P ops Q S z q a' w') a w

/-- The orders may be taken: each float is ready and free where it comes; each other is the only one that is ready, or one of two; z is the last. -/
def planB (ops : Array Oper) (z : Nat) : Array Bool → Pl → Bool
  | listed, .done => (Region.ready .any ops listed).isEmpty
  | listed, .fl i r => (Region.ready .any ops listed).contains i && Region.free .any ops listed i && waitsB ops z i && planB ops z (listed.setIfInBounds i true) r
  | listed, .one i r => (Region.ready .any ops listed == [i]) && (i != z || (match r with | .done => true | _ => false)) && planB ops z (listed.setIfInBounds i true) r
  | listed, .two i j r q => (Region.ready .any ops listed == [i, j]) && (i != z && j != z) && planB ops z (listed.setIfInBounds i true) r && planB ops z (listed.setIfInBounds j true) q

/-- How many steps the orders have at most. -/
def Pl.len : Pl → Nat
  | .done => 0
  | .fl _ r => r.len + 1
  | .one _ r => r.len + 1
  | .two _ _ r q => max r.len q.len + 1

theorem wpG_sound (hs : Region.noSelect ops = true) (hQ : ∀ c a w d v, Q (.panic c) (Act.put a d v) w → Q (.panic c) a w) :
    ∀ (l : Pl) (fuel : Nat) (listed : Array Bool) (a : Act) (w : World), ListedClosed .any ops listed → l.len ≤ fuel → planB ops z listed l = true → (l ≠ .done → S w) → wpG P ops Q S z l a w →
      wpT P ops Q S z fuel listed a w
  | .done, fuel, listed, a, w, _, _, hp, _, h => by
    simp only [planB, List.isEmpty_iff] at hp
    cases fuel with
    | zero => exact ⟨hp, h⟩
    | succ n => exact ⟨fun _ => h, by rw [hp]; simp⟩
  | .fl i r, 0, listed, a, w, _, hl, _, _, _ => by simp [Pl.len] at hl
  | .fl i r, fuel + 1, listed, a, w, hc, hl, hp, hS, h => by
    simp only [planB, Bool.and_eq_true] at hp
    obtain ⟨o, v, ho, hy, hr⟩ := h
    have hS' := hS (by simp)
    exact T_first ho (Region.noSelect_spec hs) (fun c a w h => hQ c a w _ _ h) hp.1.2 fuel listed a w hc (Region.free_spec ho hp.1.1.2) (by simpa using hp.1.1.1) hy hS'
      (wpG_sound hs hQ r fuel _ _ w (hc.set (by simpa using hp.1.1.1)) (by simpa [Pl.len] using hl) hp.2 (fun _ => hS') hr)
  | .one i r, 0, listed, a, w, _, hl, _, _, _ => by simp [Pl.len] at hl
  | .one i r, fuel + 1, listed, a, w, hc, hl, hp, hS, h => by
    simp only [planB, Bool.and_eq_true, beq_iff_eq, Bool.or_eq_true, bne_iff_ne] at hp
    refine ⟨fun h0 => (by rw [hp.1.1] at h0; cases h0), fun j hj => ?_⟩
    obtain rfl : j = i := by rw [hp.1.1] at hj; simpa using hj
    refine wpOp_mono (fun a' w' h' => ⟨h'.1, wpG_sound hs hQ r fuel _ _ w' (hc.set hj) (by simpa [Pl.len] using hl) hp.2 (fun hr => ?_) h'.2⟩) h
    refine h'.1 (hp.1.2.resolve_right ?_)
    cases r <;> simp_all
  | .two i j r q, 0, listed, a, w, _, hl, _, _, _ => by simp [Pl.len] at hl
  | .two i j r q, fuel + 1, listed, a, w, hc, hl, hp, hS, h => by
    simp only [planB, Bool.and_eq_true, beq_iff_eq, bne_iff_ne] at hp
    simp only [Pl.len] at hl
    refine ⟨fun h0 => (by rw [hp.1.1.1] at h0; cases h0), fun k hk => ?_⟩
    have hk' : k = i ∨ k = j := by rw [hp.1.1.1] at hk; simpa using hk
    rcases hk' with rfl | rfl
    · exact wpOp_mono (fun a' w' h' => ⟨h'.1, wpG_sound hs hQ r fuel _ _ w' (hc.set hk) (by omega) hp.1.2 (fun _ => h'.1 hp.1.1.2.1) h'.2⟩) h.1
    · exact wpOp_mono (fun a' w' h' => ⟨h'.1, wpG_sound hs hQ q fuel _ _ w' (hc.set hk) (by omega) hp.2 (fun _ => h'.1 hp.1.1.2.2) h'.2⟩) h.2

theorem closed_start (n : Nat) : ListedClosed .any ops (Array.replicate n false) := by
  intro j oj _ hl
  exfalso
  rw [Array.getD_eq_getD_getElem?, Array.getElem?_replicate] at hl
  split at hl <;> simp at hl
/-- The beginning. z: the last operation's number where S doesn't hold behind it; else the number of all. -/
theorem wp_plan (z : Nat) (l : Pl) {id : Nat} {a : Act} {w : World} (hm : P.follows .mixedOrders = true) (hs : Region.noSelect ops = true)
    (hp : planB ops z (Array.replicate ops.size false) l = true) (hl : decide (l.len ≤ ops.size) = true) (hQ : ∀ c a w d v, Q (.panic c) (Act.put a d v) w → Q (.panic c) a w) (hS : S w.drew)
    (h : S w.drew → wpG P ops Q S z l a w.drew) : (Code.region id ops true).wp P Q a w :=
  wp_region_any hm (wpAny_of_T _ _ _ _ (wpG_sound hs hQ l _ _ _ _ (closed_start _) (of_decide_eq_true hl) hp (fun _ => hS) (h hS)))

theorem G_on {i : Nat} {r : Pl} {a : Act} {w : World} {o : Oper} {v : Value} (ho : ops[i]? = some o) (hw : Region.wanted o (yielded ops a.tmps) = true)
    (hv : ∀ w, S w → (execOp a.eval o).run P w = .ok (.value v) w) (h : wpG P ops Q S z r (a.put o.dst v) w) : wpG P ops Q S z (.fl i r) a w :=
  ⟨o, v, ho, .inl ⟨hw, hv⟩, h⟩
theorem G_off {i : Nat} {r : Pl} {a : Act} {w : World} {o : Oper} (ho : ops[i]? = some o) (hw : Region.wanted o (yielded ops a.tmps) = false)
    (h : wpG P ops Q S z r (a.put o.dst undef) w) : wpG P ops Q S z (.fl i r) a w :=
  ⟨o, undef, ho, .inr ⟨hw, rfl⟩, h⟩
/-- One that waits its turn, and is not wanted. -/
theorem G_skip {i : Nat} {r : Pl} {a : Act} {w : World} {o : Oper} (ho : ops[i]? = some o) (hw : Region.wanted o (yielded ops a.tmps) = false) (hS : S w)
    (h : wpG P ops Q S z r (a.put o.dst undef) w) : wpG P ops Q S z (.one i r) a w := by
  show wpOp P ops Q i _ a w
  unfold wpOp
  simp only [ho, hw, Bool.false_eq_true, if_false]
  exact ⟨fun _ => hS, h⟩
/-- One that waits its turn. -/
theorem G_step {i : Nat} {r : Pl} {a : Act} {w : World} {o : Oper} (ho : ops[i]? = some o) (hw : Region.wanted o (yielded ops a.tmps) = true)
    (h : ∀ K' : Act → World → Prop, Shut (∀ a w, S w → (S w → wpG P ops Q S z r a w) → K' a w) → Oper.wp P o a w K' Q) : wpG P ops Q S z (.one i r) a w := by
  show wpOp P ops Q i _ a w
  unfold wpOp
  simp only [ho, hw, if_true]
  exact .inl (h _ (fun a w hS hW => ⟨fun _ => hS, hW hS⟩))
/-- The last. -/
theorem G_last {i : Nat} {a : Act} {w : World} {o : Oper} (hz : i = z) (ho : ops[i]? = some o) (hw : Region.wanted o (yielded ops a.tmps) = true)
    (h : ∀ K' : Act → World → Prop, Shut (∀ a w, Q .normal a w → K' a w) → Oper.wp P o a w K' Q) : wpG P ops Q S z (.one i .done) a w := by
  show wpOp P ops Q i _ a w
  unfold wpOp
  simp only [ho, hw, if_true]
  exact .inl (h _ (fun a w hW => ⟨fun h => absurd hz h, hW⟩))
/-- Two are ready: both ways. -/
theorem G_two {i j : Nat} {r q : Pl} {a : Act} {w : World} (h1 : wpG P ops Q S z (.one i r) a w) (h2 : wpG P ops Q S z (.one j q) a w) : wpG P ops Q S z (.two i j r q) a w := ⟨h1, h2⟩
theorem G_done {a : Act} {w : World} (h : Q .normal a w) : wpG P ops Q S z .done a w := h
end
attribute [irreducible] wpG
end Go.Proofs.Ytehojcocnndniaa.Reg
namespace Go.Proofs.Ytehojcocnndniaa.Buf
open Go.RowKit Base Sp Flat Go.Proofs.YtehojcocnndniaaW.PrintWords Go.Lib
theorem ownF_up {w : World} {base base' : Nat} {e : TypeId} {size : Nat} {v : Value} {n : Nat} {xs : List Value} (h : w.ownsRowF base e size v n xs) (hb : base' ≤ base) : w.ownsRowF base' e size v n xs := by
  refine ⟨h.1, ?_⟩
  rcases h.2 with h1 | ⟨g, cap, cur, fz, hv, hg, r⟩
  · exact .inl h1
  · exact .inr ⟨g, cap, cur, fz, hv, Nat.le_trans hb hg, r⟩
theorem ownF_same {w w' : World} {base : Nat} {e : TypeId} {size : Nat} {v : Value} {n : Nat} {xs : List Value} (h : w.ownsRowF base e size v n xs) (hs : ∀ k, v.ownBlock = some k → w'.heap[k]? = w.heap[k]?) : w'.ownsRowF base e size v n xs := by
  refine ⟨h.1, ?_⟩
  rcases h.2 with h1 | ⟨g, cap, cur, fz, rfl, hb, hg, r⟩
  · exact .inl h1
  · exact .inr ⟨g, cap, cur, fz, rfl, hb, (hs g rfl).trans hg, r⟩
theorem own_str {w : World} {v : Value} {n : Nat} {xs : List Value} (ty : TypeId) (hown : w.ownsRowF 0 5 1 v n xs) (s : ByteArray) (hl : n + s.size ≤ 140737488355328) :
    ∃ v' w', (Builtin.append_ #[67, 9] ty #[v, .string s]).run Try.prog w = .ok v' w' ∧ w'.ownsRowF 0 5 1 v' (n + s.size) (xs ++ strCells s) ∧ w.grownBy w' v.ownBlock ∧ (∀ k, v'.ownBlock = some k → v.ownBlock = some k ∨ w.heap.size ≤ k) := by
  have hinfo : ((Try.prog).info? 5).map (fun i => (i.zero, i.size, i.bytes)) = some (some (.int .u8 0), 1, 1) := by kernel_rfl
  obtain ⟨i0, hi, hz0, hz1, hz2⟩ := info_parts hinfo
  have h63 : n + s.size ≤ maxLen := by simp only [maxLen]; omega
  rcases hown.2 with ⟨rfl, rfl⟩ | ⟨g, cap, cur, fz, rfl, hbg, hg, hfz, hnc, hcm, hcs, htake⟩
  · obtain ⟨v', w', h1, h2, h3, h4⟩ := run_append_own_stringF (P := Try.prog) w w.heap.size 67 9 ty 5 i0 Try.underlying67 Try.underlying9 hi hz0 hz1 hz2 (.slice none 0 0) 0 xs ⟨hown.1, .inl ⟨rfl, rfl⟩⟩ s h63 hl (Nat.le_refl _)
    exact ⟨v', w', h1, ownF_up h2 (Nat.zero_le _), h3, fun k hk => .inr (h2.lt k hk).1⟩
  · obtain ⟨v', w', h1, h2, h3, h4⟩ := run_append_own_stringF (P := Try.prog) w 0 67 9 ty 5 i0 Try.underlying67 Try.underlying9 hi hz0 hz1 hz2 _ n xs hown s h63 hl (Nat.zero_le _)
    refine ⟨v', w', h1, h2, h3, fun k hk => ?_⟩
    by_cases hroom : n + s.size ≤ cap
    · have hr := run_append_room_stringF (P := Try.prog) w 67 9 ty 5 i0 Try.underlying67 Try.underlying9 hi hz1 g n cap cur fz hg (by simpa using hfz) s hroom (by omega)
      rw [h1] at hr
      injection hr with hv _
      subst hv
      left
      simpa [Value.ownBlock] using hk
    · have hxl : xs.length = n := by simpa using hown.1
      have hr := run_append_grow_string (P := Try.prog) w 67 9 ty 5 i0 (.int .u8 0) Try.underlying67 Try.underlying9 hi hz0 ⟨g, 0, none⟩ n cap xs (by rw [hz1]; simpa using hxl) (hown.cells (g := g) rfl) s (by omega) (by omega) (by rw [hz2]; exact growslice_fits (by omega) (by omega))
      rw [h1] at hr
      injection hr with hv _
      subst hv
      right
      have : w.heap.size = k := by simpa [Value.ownBlock] using hk
      omega
/-- Block b. -/
def At (b : Nat) : Nat → Prop := fun k => k = b
theorem at_set {b : Nat} {w w' : World} (h : Mod (At b) w w') (i : Nat) (v : Value) : Mod (At b) w (w'.setCell ⟨b, i, none⟩ v) := h.set (p := ⟨b, i, none⟩) (.inl (show At b b from rfl)) v
theorem freeze_other (w : World) (g n k : Nat) (h : k ≠ g) : (w.freeze ⟨g, 0, none⟩ n).heap[k]? = w.heap[k]? := by
  unfold World.freeze
  split
  · rfl
  · simp only [Array.getElem?_modify]
    rw [if_neg (Ne.symm h)]
theorem freeze_size (w : World) (g n : Nat) : (w.freeze ⟨g, 0, none⟩ n).heap.size = w.heap.size := by
  unfold World.freeze
  split
  · rfl
  · simp
theorem freeze_row (w : World) (g n : Nat) (cur : Array Value) (e : TypeId) (fz : Nat × Nat) (h : w.heap[g]? = some (.cells cur e fz)) (hf : fz.2 ≤ n) : ∃ fz', (w.freeze ⟨g, 0, none⟩ n).heap[g]? = some (.cells cur e fz') ∧ fz'.2 ≤ n := by
  unfold World.freeze
  split
  · exact ⟨fz, h, hf⟩
  · obtain ⟨lo, hi⟩ := fz
    refine ⟨(if lo == hi then (0, 0 + n) else (min lo 0, max hi (0 + n))), by simp [Array.getElem?_modify, h], ?_⟩
    simp only at hf
    split <;> simp <;> omega
theorem Mod.freeze {F : Nat → Prop} {w w' : World} (h : Mod F w w') (g n : Nat) (hg : F g ∨ w.heap.size ≤ g) : Mod F w (w'.freeze ⟨g, 0, none⟩ n) := by
  refine ⟨?_, ?_, ?_, by rw [freeze_size]; exact h.size, fun k hk hF => ?_⟩
  · unfold World.freeze; split <;> exact h.os
  · unfold World.freeze; split <;> exact h.tape
  · unfold World.freeze; split <;> exact h.output
  · rw [freeze_other w' g n k (fun e => by subst e; exact hg.elim hF (fun hg => by omega))]
    exact h.block k hk hF
theorem ownF_froze {w : World} {g cap : Nat} {l : List Value} {n : Nat} (h : w.ownsRowF 0 5 1 (.slice (some ⟨g, 0, none⟩) n cap) n l) : (w.freeze ⟨g, 0, none⟩ n).ownsRowF 0 5 1 (.slice (some ⟨g, 0, none⟩) n cap) n l := by
  refine ⟨h.1, ?_⟩
  rcases h.2 with ⟨hv, _⟩ | ⟨g', cap', cur, fz, hv, hb, hg, hfz, r⟩
  · cases hv
  · injection hv with ha _ hc
    injection ha with ha
    injection ha with hgg _ _
    subst hgg hc
    obtain ⟨fz', h1, h2⟩ := freeze_row w g n cur _ fz hg (by simpa using hfz)
    exact .inr ⟨g, cap, cur, fz', rfl, hb, h1, by simpa using h2, r⟩
theorem unsafeString_none (W : World) (q : Option Addr) : (Builtin.unsafeString_ #[130, 3] 9 #[.pointer q, .int .i64 0]).run Try.prog W = .ok (.string .empty) W :=
  Lib.run_unsafeString_none W 130 3 9 q
/-- An append of a string whose run is known. -/
theorem wp_append' {P : Program} {ops : Array Oper} {rest : List Oper} {o : Oper} {a : Act} {Q : Exit → Act → World → Prop} {W w1 : World} {v1 v u : Value} (hgd : o.guard = none) (s x : Operand) (t t' : TypeId) (ho : o.op = .call { callee := .builtin .append, args := #[s, x], argTypes := #[t, t'] })
    (hs : a.eval s = v) (hx : a.eval x = u) (hrun : (Builtin.append_ #[t, t'] o.type #[v, u]).run P W = .ok v1 w1) (h : wpList P ops Q rest (a.put o.dst v1) w1) : wpList P ops Q (o :: rest) a W := by
  refine wpList_plain hgd fun K hK => ?_
  unfold Oper.wp execOp
  simp only [ho, resolve, invoke, builtin, Sem.run_bind, Sem.run_pure, Result.andThen_ok, List.map_toArray, List.map_cons, List.map_nil, hs, hx, hrun]
  exact hK _ _ h
/-- A builder at cell 1 of block b, whose blocks are F's. -/
def uB (w : World) (F : Nat → Prop) (b : Nat) (at_ : Int) (l : List UInt8) : Prop :=
  ∃ p v, w.heap[b]? = some (.cells #[.int .i64 at_, p, v] 123 (0, 0)) ∧ (p = .pointer none ∨ p = .pointer (some ⟨b, 1, none⟩)) ∧ w.ownsRowF 0 5 1 v l.length (byteCells l) ∧ v.ownBlock ≠ some b ∧ F b ∧ (∀ k, v.ownBlock = some k → F k) ∧ ∀ k, F k → k < w.heap.size
theorem uB.lt {w : World} {F : Nat → Prop} {b : Nat} {at_ : Int} {l : List UInt8} (h : uB w F b at_ l) : ∀ k, F k → k < w.heap.size := by
  obtain ⟨p, v, _, _, _, _, _, _, h⟩ := h
  exact h
theorem uB.at_ {w : World} {F : Nat → Prop} {b : Nat} {at_ : Int} {l : List UInt8} (h : uB w F b at_ l) : F b := by
  obtain ⟨p, v, _, _, _, _, h, _⟩ := h
  exact h
theorem uB.same {w w' : World} {F : Nat → Prop} {b : Nat} {at_ : Int} {l : List UInt8} (h : uB w F b at_ l) (hs : Same F w w') (hz : w.heap.size ≤ w'.heap.size) : uB w' F b at_ l := by
  obtain ⟨p, v, h1, h2, h3, h4, h5, h6, h7⟩ := h
  exact ⟨p, v, (hs b h5).trans h1, h2, ownF_same h3 (fun k hk => hs k (h6 k hk)), h4, h5, h6, fun k hk => Nat.lt_of_lt_of_le (h7 k hk) hz⟩
theorem uB.far {w w' : World} {F G : Nat → Prop} {b : Nat} {at_ : Int} {l : List UInt8} (h : uB w F b at_ l) (hm : Mod G w w') (hd : ∀ k, F k → ¬ G k) : uB w' F b at_ l := h.same (hm.same h.lt hd) hm.size
theorem uB.below {w w' : World} {F : Nat → Prop} {b : Nat} {at_ : Int} {l : List UInt8} (h : uB w F b at_ l) (hb : Below w.heap.size w w') : uB w' F b at_ l := h.same (Same.of hb h.lt) hb.size
set_option maxRecDepth 100000 in
theorem ucheck (b : Nat) (at_ : Int) (p v : Value) (w : World) (h : w.heap[b]? = some (.cells #[.int .i64 at_, p, v] 123 (0, 0))) (hp : p = .pointer none ∨ p = .pointer (some ⟨b, 1, none⟩)) :
    Calls Try.prog 74 #[.pointer (some ⟨b, 1, none⟩)] w fun e w' => e = .returned (.tuple #[]) ∧ w'.heap[b]? = some (.cells #[.int .i64 at_, .pointer (some ⟨b, 1, none⟩), v] 123 (0, 0)) ∧ Mod (At b) w w' := by
  have hsz : ((Try.prog).info? 82).map (·.size) = some 2 := by kernel_rfl
  obtain ⟨j, hj, hjs⟩ := Option.map_eq_some_iff.1 hsz
  have hsh : w.shape? b = some (123, 1 + 2) := by simp [World.shape?, h]
  have hlies : liesAt Try.prog (Try.prog).depth 123 ((1 + 2) / (Try.prog).cellsOf 123) 1 82 1 = true := by kernel_rfl
  have h0 : w.cell? ⟨b, 1, none⟩ = some p := blk_cell h 1
  have hf0 : w.frozen? ⟨b, 1, none⟩ = false := blk_frozen h 1
  have H := Lib.hid h
  clear h
  rcases hp with rfl | rfl
  · go_enter Try.func74, Try.ntmps74
    go_wp2
    rw [Lib.run_to_unsafe w ⟨b, 1, none⟩ Try.underlying80 Try.underlying146 hj (by rw [hjs]; decide) hsh (by show 1 < 1 + 2; omega)]
    simp only [Result.andThen]
    rw [Oper.upon_value]
    go_wp2
    rw [run_callFunc_extern Try.func94 (by kernel_rfl) (by kernel_rfl) (by kernel_rfl) (e := Extern.AbiNoEscape.same) (by kernel_rfl)]
    rw [Lib.run_noEscape]
    simp only [Result.andThen]
    rw [Oper.upon_value]
    go_wp2
    rw [Lib.run_from_unsafe w ⟨b, 1, none⟩ Try.underlying146 Try.underlying80 hj hsh hlies]
    simp only [Result.andThen]
    rw [Oper.upon_value]
    go_wp2
    go_end0
    refine ⟨rfl, ?_, at_set (Mod.refl _ _) _ _⟩
    have := blk_set H.out 1 (.pointer (some ⟨b, 1, none⟩))
    simpa using this
  · go_enter Try.func74, Try.ntmps74
    go_wp2
    rw [Lib.run_neq_ptr_same w _ Try.underlying80 hj]
    go_wp2
    go_end0
    exact ⟨rfl, H.out, Mod.refl _ _⟩
/-- Bytes were written. -/
def uWrote (w : World) (F : Nat → Prop) (b : Nat) (at_ : Int) (l s : List UInt8) (w' : World) : Prop := ∃ F', uB w' F' b at_ (l ++ s) ∧ Mod F w w' ∧ Grow F F' w
set_option maxHeartbeats 1000000 in
set_option maxRecDepth 100000 in
theorem uwrite (F : Nat → Prop) (b : Nat) (at_ : Int) (l : List UInt8) (s : ByteArray) (w : World) (h : uB w F b at_ l) (hl : l.length + s.size ≤ 140737488355328) :
    Calls Try.prog 47 #[.pointer (some ⟨b, 1, none⟩), .string s] w fun e w' => e = .returned (.tuple #[.int .i64 s.size, .nilIface]) ∧ uWrote w F b at_ l s.data.toList w' := by
  obtain ⟨p, v, h1, h2, h3, h4, h5, h6, h7⟩ := h
  have HC := ucheck b at_ p v w h1 h2
  have HL := Lib.hid hl
  have H3 := Lib.hid h3
  have H7 := Lib.hid h7
  have H6 := Lib.hid h6
  have hlt := blk_lt h1
  clear h1 h2 h3 hl h7 h6
  go_enter Try.func47, Try.ntmps47
  go_wp2_with fail
  refine HC.mono ?_
  rintro e w1 ⟨rfl, g1, m1⟩
  have hlt1 := Nat.lt_of_lt_of_le hlt m1.size
  have k1 := ownF_same H3.out (fun k hk => m1.block k (H7.out k (H6.out k hk)) (fun e => h4 (by rw [hk, show k = b from e])))
  obtain ⟨v', w2, hr, o2, gr, hk⟩ := own_str 67 k1 s (by have := HL.out; omega)
  have g2 : w2.heap[b]? = some (.cells #[.int .i64 at_, .pointer (some ⟨b, 1, none⟩), v] 123 (0, 0)) := (gr.block b hlt1 (fun e => h4 e.symm)).trans g1
  obtain ⟨ao, n', cap, rfl⟩ : ∃ ao n' cap, v' = .slice ao n' cap := by
    rcases o2.2 with ⟨hv, _⟩ | ⟨g, cap, cur, fz, hv, _⟩
    · exact ⟨_, _, _, hv⟩
    · exact ⟨_, _, _, hv⟩
  have HR := Lib.hid hr
  have HO := Lib.hid o2
  have HG := Lib.hid gr
  have HK := Lib.hid hk
  have H1 := Lib.hid g1
  have H2 := Lib.hid g2
  have c1 : w1.cell? ⟨b, 1 + 1, none⟩ = some v := blk_cell g1 (1 + 1)
  have d1 : w2.cell? ⟨b, 1 + 1, none⟩ = some v := blk_cell g2 (1 + 1)
  have f1 : w2.frozen? ⟨b, 1 + 1, none⟩ = false := blk_frozen g2 (1 + 1)
  clear hr o2 gr hk g1 g2 k1
  go_wp2_with (at_builtin; refine wp_append' rfl (.tmp 12) (.tmp 13) 67 9 rfl rfl rfl HR.out ?_)
  go_ret2
  refine ⟨rfl, ?_⟩
  have hb1 : (Value.slice ao n' cap).ownBlock ≠ some b := fun e => by
    rcases HK.out b e with hx | hx
    · exact h4 hx
    · omega
  refine ⟨fun k => F k ∨ (Value.slice ao n' cap).ownBlock = some k, ⟨_, .slice ao n' cap, by have := blk_set H2.out (1 + 1) (.slice ao n' cap); simpa using this, .inr rfl, ?_, hb1, .inl h5, fun k hk => .inr hk, fun k hk => ?_⟩, ?_, fun k hk => ?_⟩
  · have o2 := HO.out
    have e1 : (l ++ s.data.toList).length = l.length + s.size := by rw [List.length_append]; rfl
    rw [e1, byteCells_append]
    exact ownF_same o2 (fun k hk => Below.heap_setCell _ _ _ _ (fun e => hb1 (by rw [hk]; exact congrArg _ e)))
  · have hz : (w2.setCell ⟨b, 1 + 1, none⟩ (.slice ao n' cap)).heap.size = w2.heap.size := by simp
    rw [hz]
    rcases hk with hk | hk
    · exact Nat.lt_of_lt_of_le (H7.out k hk) (Nat.le_trans m1.size HG.out.size)
    · exact (HO.out.lt k hk).2
  · refine Mod.set ?_ (.inl h5) _
    refine Mod.grown (m1.mono (fun k hk => .inl (by rw [show k = b from hk]; exact h5))) HG.out (fun k hk => .inl (H6.out k hk))
  · rcases hk with hk | hk
    · exact .inl hk
    · rcases HK.out k hk with hx | hx
      · exact .inl (H6.out k hx)
      · exact .inr (Nat.le_trans m1.size hx)
set_option maxHeartbeats 2000000 in
set_option maxRecDepth 100000 in
theorem ustring (F : Nat → Prop) (b : Nat) (at_ : Int) (l : List UInt8) (w : World) (h : uB w F b at_ l) :
    Calls Try.prog 46 #[.pointer (some ⟨b, 1, none⟩)] w fun e w' => e = .returned (.string ⟨l.toArray⟩) ∧ uB w' F b at_ l ∧ Mod F w w' := by
  obtain ⟨p, v, h1, h2, h3, h4, h5, h6, h7⟩ := h
  have hlt := blk_lt h1
  rcases h3.2 with ⟨rfl, hz⟩ | ⟨g, cap, cur, fz, rfl, hbg, hg, hfz, hnc, hcm, hcs, htake⟩
  · obtain rfl : l = [] := List.eq_nil_of_length_eq_zero hz
    have hA : uB w.drew F b at_ [] ∧ Mod F w w.drew := ⟨⟨p, _, h1, h2, h3, h4, h5, h6, h7⟩, (Mod.refl F w).drew⟩
    have hUS := unsafeString_none
    have c1 : w.drew.cell? ⟨b, 1 + 1, none⟩ = some (.slice none 0 0) := blk_cell (w := w.drew) h1 (1 + 1)
    have hSD : (Builtin.unsafeSliceData_ #[67] 130 #[.slice none 0 0]).run Try.prog w.drew = .ok (.pointer none) w.drew := rfl
    have HA := Lib.hid hA
    clear hA h1 h3 hz h4 h6 h7 hlt
    go_enter Try.func46, Try.ntmps46
    go_wp2
    go_region
    all_goals (go_wp2; go_ret; exact ⟨rfl, HA.out⟩)
  · by_cases hl0 : l = []
    · subst hl0
      by_cases hc0 : cap = 0
      · subst hc0
        have hk : ∀ k, k < w.heap.size → (w.drew.alloc (.view ⟨g, 0, none⟩ 5)).heap[k]? = w.heap[k]? := fun k hk => Lib.alloc_old w.drew _ k hk
        have hA : uB (w.drew.alloc (.view ⟨g, 0, none⟩ 5)) F b at_ [] ∧ Mod F w (w.drew.alloc (.view ⟨g, 0, none⟩ 5)) :=
          ⟨⟨p, _, (hk b hlt).trans h1, h2, ownF_same h3 (fun k he => hk k (h7 k (h6 k he))), h4, h5, h6, fun k he => Nat.lt_succ_of_lt (h7 k he) |> (by simpa using ·)⟩, ((Mod.refl F w).drew).alloc _⟩
        have hUS := unsafeString_none
        have c1 : w.drew.cell? ⟨b, 1 + 1, none⟩ = some (.slice (some ⟨g, 0, none⟩) 0 0) := blk_cell (w := w.drew) h1 (1 + 1)
        have hSD : (Builtin.unsafeSliceData_ #[67] 130 #[.slice (some ⟨g, 0, none⟩) 0 0]).run Try.prog w.drew = .ok (.pointer (some ⟨w.drew.heap.size, 0, none⟩)) (w.drew.alloc (.view ⟨g, 0, none⟩ 5)) :=
          Lib.run_unsafeSliceData_zero w.drew _ _ 5 Try.underlying130 ⟨g, 0, none⟩ 0 (5, cur.size) (by have hg' : w.drew.heap[g]? = some (.cells cur 5 fz) := hg; simp [World.shape?, hg'])
        have c2 : (w.drew.alloc (.view ⟨g, 0, none⟩ 5)).cell? ⟨b, 1 + 1, none⟩ = some (.slice (some ⟨g, 0, none⟩) 0 0) := blk_cell ((hk b hlt).trans h1) (1 + 1)
        have c3 : (w.alloc (.view ⟨g, 0, none⟩ 5)).drew.cell? ⟨b, 1 + 1, none⟩ = some (.slice (some ⟨g, 0, none⟩) 0 0) := c2
        have c0 : w.cell? ⟨b, 1 + 1, none⟩ = some (.slice (some ⟨g, 0, none⟩) 0 0) := c1
        have HA := Lib.hid hA
        clear hA h1 h3 h4 h6 h7 hlt hk hg hfz hcs htake
        go_enter Try.func46, Try.ntmps46
        go_wp2
        go_region
        all_goals (go_wp2; go_ret; exact ⟨rfl, HA.out⟩)
      · have hA : uB w.drew F b at_ [] ∧ Mod F w w.drew := ⟨⟨p, _, h1, h2, h3, h4, h5, h6, h7⟩, (Mod.refl F w).drew⟩
        have hUS := unsafeString_none
        have c1 : w.drew.cell? ⟨b, 1 + 1, none⟩ = some (.slice (some ⟨g, 0, none⟩) 0 cap) := blk_cell (w := w.drew) h1 (1 + 1)
        have hSD : (Builtin.unsafeSliceData_ #[67] 130 #[.slice (some ⟨g, 0, none⟩) 0 cap]).run Try.prog w.drew = .ok (.pointer (some ⟨g, 0, none⟩)) w.drew :=
          Lib.run_unsafeSliceData_row _ _ _ _ _ _ hc0
        have HA := Lib.hid hA
        clear hA h1 h3 h4 h6 h7 hlt hg hfz hcs htake hc0 hnc hcm
        go_enter Try.func46, Try.ntmps46
        go_wp2
        go_region
        all_goals (go_wp2; go_ret; exact ⟨rfl, HA.out⟩)
    · have hl1 : l.length ≠ 0 := by simpa using hl0
      have hcap : cap ≠ 0 := by omega
      have hgb : g ≠ b := fun e => h4 (by simp [Value.ownBlock, e])
      have hFg : F g := h6 g rfl
      have c1 : w.drew.cell? ⟨b, 1 + 1, none⟩ = some (.slice (some ⟨g, 0, none⟩) l.length cap) := blk_cell (w := w.drew) h1 (1 + 1)
      have hSD : (Builtin.unsafeSliceData_ #[67] 130 #[.slice (some ⟨g, 0, none⟩) l.length cap]).run Try.prog w.drew = .ok (.pointer (some ⟨g, 0, none⟩)) w.drew :=
        Lib.run_unsafeSliceData_row _ _ _ _ _ _ hcap
      have hUS : (Builtin.unsafeString_ #[130, 3] 9 #[.pointer (some ⟨g, 0, none⟩), .int .i64 l.length]).run Try.prog w.drew = .ok (.string ⟨l.toArray⟩) (w.drew.freeze ⟨g, 0, none⟩ l.length) := by
        refine Lib.run_unsafeString_row w.drew 130 3 9 5 Try.underlying130 (by kernel_rfl) g cur.size (by have hg' : w.drew.heap[g]? = some (.cells cur 5 fz) := hg; simp [World.shape?, hg']) l hl0 (by omega) (by unfold maxLen at hcm; omega) ?_
        intro j x hx
        have := h3.cells (g := g) rfl j (.int .u8 x.toNat) (by simp [Lib.byteCells, hx])
        exact this
      have hA : uB (w.drew.freeze ⟨g, 0, none⟩ l.length) F b at_ l ∧ Mod F w (w.drew.freeze ⟨g, 0, none⟩ l.length) := by
        refine ⟨⟨p, .slice (some ⟨g, 0, none⟩) l.length cap, (freeze_other w.drew g l.length b (Ne.symm hgb)).trans h1, h2, ?_, h4, h5, h6, fun k hk => by rw [freeze_size]; exact h7 k hk⟩, Mod.freeze (Mod.refl F w).drew g l.length (.inl hFg)⟩
        exact ownF_froze (w := w.drew) h3
      have HA := Lib.hid hA
      clear hA h1 h3 h4 h6 h7 hlt hg hfz hcs htake hgb
      go_enter Try.func46, Try.ntmps46
      go_wp2
      go_region
      all_goals (go_wp2; go_ret; exact ⟨rfl, HA.out⟩)
end Go.Proofs.Ytehojcocnndniaa.Buf
namespace Go.Proofs.Ytehojcocnndniaa.Wd
open Go.RowKit Base Go.Proofs.YtehojcocnndniaaW.PrintWords Go.Proofs.YtehojcocnndniaaW.PrintLast Go.Proofs.YtehojcocnndniaaW.PrintMore
/-- Is it a size? -/
def sz (s : Int) : Bool := s == 1 || s == 2 || s == 4 || s == 8
theorem sz_cases {s : Int} (h : sz s = true) : s = 1 ∨ s = 2 ∨ s = 4 ∨ s = 8 := by
  unfold sz at h
  simp at h
  omega
/-- 256 to a size. -/
def pw (s : Int) : Int := if s = 1 then 256 else if s = 2 then 65536 else if s = 4 then 4294967296 else 18446744073709551616
def hf (s : Int) : Int := if s = 1 then 128 else if s = 2 then 32768 else if s = 4 then 2147483648 else 9223372036854775808
/-- The number with a sign of some lowest bits. -/
def sgn (n s : Int) : Int := if n % pw s < hf s then n % pw s else n % pw s - pw s
theorem u64_mod (x : Int) : IntKind.u64.wrap x = x % 18446744073709551616 := by
  simp [IntKind.wrap, IntKind.bits, IntKind.signed]
theorem sh (x : Int) (n : Nat) (h : n ≤ 64) : shr .u64 x (n : Int) = x / 2 ^ n := by
  unfold shr
  rw [Int.toNat_natCast, show IntKind.u64.bits = 64 from rfl, Nat.min_eq_left h]
theorem shi (x : Int) (n : Nat) (h : n ≤ 64) : shr .i64 x (n : Int) = x / 2 ^ n := by
  unfold shr
  rw [Int.toNat_natCast, show IntKind.i64.bits = 64 from rfl, Nat.min_eq_left h]
theorem sl_ (x : Int) (n : Nat) (h : n ≤ 64) : shl .u64 x (n : Int) = x * 2 ^ n % 18446744073709551616 := by
  unfold shl
  rw [Int.toNat_natCast, show IntKind.u64.bits = 64 from rfl, Nat.min_eq_left h, u64_mod]
theorem of_nat (n : Nat) : BitVec.ofInt 64 (n : Int) = BitVec.ofNat 64 n := by rw [BitVec.ofInt_natCast]
theorem and_pow (n k : Nat) (hn : n < 2 ^ 64) (hk : k ≤ 64) : Go.bits .and .u64 (n : Int) (((2 ^ k - 1 : Nat)) : Int) = ((n % 2 ^ k : Nat) : Int) := by
  have hp : 2 ^ k ≤ 2 ^ 64 := Nat.pow_le_pow_right (by decide) hk
  have hp0 : 0 < 2 ^ k := Nat.pow_pos (by decide)
  show IntKind.u64.wrap (((BitVec.ofInt 64 (n : Int) &&& BitVec.ofInt 64 (((2 ^ k - 1 : Nat)) : Int)).toNat : Nat) : Int) = _
  rw [of_nat, of_nat, BitVec.toNat_and, BitVec.toNat_ofNat, BitVec.toNat_ofNat, Nat.mod_eq_of_lt hn, Nat.mod_eq_of_lt (by omega), Nat.and_two_pow_sub_one_eq_mod, u64_mod]
  have := Nat.mod_lt n hp0
  have h64 : (2 : Nat) ^ 64 = 18446744073709551616 := by decide
  omega
theorem andNot_pow (n k : Nat) (hn : n < 2 ^ 64) (hk : k ≤ 64) : Go.bits .andNot .u64 (n : Int) (((2 ^ k - 1 : Nat)) : Int) = 0 ↔ n < 2 ^ k := by
  have hp : 2 ^ k ≤ 2 ^ 64 := Nat.pow_le_pow_right (by decide) hk
  have hp0 : 0 < 2 ^ k := Nat.pow_pos (by decide)
  have h64 : (2 : Nat) ^ 64 = 18446744073709551616 := by decide
  have e : Go.bits .andNot .u64 (n : Int) (((2 ^ k - 1 : Nat)) : Int) = (((BitVec.ofNat 64 n &&& ~~~ BitVec.ofNat 64 (2 ^ k - 1)).toNat : Nat) : Int) := by
    show IntKind.u64.wrap (((BitVec.ofInt 64 (n : Int) &&& ~~~ BitVec.ofInt 64 (((2 ^ k - 1 : Nat)) : Int)).toNat : Nat) : Int) = _
    rw [of_nat, of_nat, u64_mod]
    have := (BitVec.ofNat 64 n &&& ~~~ BitVec.ofNat 64 (2 ^ k - 1)).isLt
    omega
  rw [e]
  have key : BitVec.ofNat 64 n &&& ~~~ BitVec.ofNat 64 (2 ^ k - 1) = 0#64 ↔ BitVec.ofNat 64 n &&& BitVec.ofNat 64 (2 ^ k - 1) = BitVec.ofNat 64 n := by
    generalize BitVec.ofNat 64 n = x
    generalize BitVec.ofNat 64 (2 ^ k - 1) = m
    constructor
    · intro h
      apply BitVec.eq_of_getLsbD_eq
      intro i hi
      have := congrArg (fun z => z.getLsbD i) h
      simp [hi] at this ⊢
      cases hx : x.getLsbD i <;> cases hm : m.getLsbD i <;> simp_all
    · intro h
      apply BitVec.eq_of_getLsbD_eq
      intro i hi
      have := congrArg (fun z => z.getLsbD i) h
      simp [hi] at this ⊢
      cases hx : x.getLsbD i <;> cases hm : m.getLsbD i <;> simp_all
  have hz : (((BitVec.ofNat 64 n &&& ~~~ BitVec.ofNat 64 (2 ^ k - 1)).toNat : Nat) : Int) = 0 ↔ BitVec.ofNat 64 n &&& ~~~ BitVec.ofNat 64 (2 ^ k - 1) = 0#64 := by
    constructor
    · intro h
      apply BitVec.eq_of_toNat_eq
      simpa using h
    · intro h
      rw [h]
      rfl
  rw [hz, key]
  constructor
  · intro h
    have h := congrArg BitVec.toNat h
    rw [BitVec.toNat_and, BitVec.toNat_ofNat, BitVec.toNat_ofNat, Nat.mod_eq_of_lt hn, Nat.mod_eq_of_lt (by omega), Nat.and_two_pow_sub_one_eq_mod] at h
    have := Nat.mod_lt n hp0
    omega
  · intro h
    apply BitVec.eq_of_toNat_eq
    rw [BitVec.toNat_and, BitVec.toNat_ofNat, BitVec.toNat_ofNat, Nat.mod_eq_of_lt hn, Nat.mod_eq_of_lt (by omega), Nat.and_two_pow_sub_one_eq_mod, Nat.mod_eq_of_lt h]
theorem andNot_mask {a s : Int} (h : sz s = true) (h0 : 0 ≤ a) (h1 : a < 18446744073709551616) : Go.bits .andNot .u64 a (pw s - 1) = 0 ↔ a < pw s := by
  obtain ⟨n, rfl⟩ : ∃ n : Nat, a = (n : Int) := ⟨a.toNat, by omega⟩
  have h64 : (2 : Nat) ^ 64 = 18446744073709551616 := by decide
  rcases sz_cases h with rfl | rfl | rfl | rfl
  · exact (andNot_pow n 8 (by omega) (by decide)).trans (by show n < 256 ↔ (n : Int) < 256; omega)
  · exact (andNot_pow n 16 (by omega) (by decide)).trans (by show n < 65536 ↔ (n : Int) < 65536; omega)
  · exact (andNot_pow n 32 (by omega) (by decide)).trans (by show n < 4294967296 ↔ (n : Int) < 4294967296; omega)
  · exact (andNot_pow n 64 (by omega) (by decide)).trans (by show n < 18446744073709551616 ↔ (n : Int) < 18446744073709551616; omega)
theorem and_mask {a s : Int} (h : sz s = true) (h0 : 0 ≤ a) (h1 : a < 18446744073709551616) : Go.bits .and .u64 a (pw s - 1) = a % pw s := by
  obtain ⟨n, rfl⟩ : ∃ n : Nat, a = (n : Int) := ⟨a.toNat, by omega⟩
  have h64 : (2 : Nat) ^ 64 = 18446744073709551616 := by decide
  rcases sz_cases h with rfl | rfl | rfl | rfl
  · exact (and_pow n 8 (by omega) (by decide)).trans (by show ((n % 256 : Nat) : Int) = (n : Int) % 256; omega)
  · exact (and_pow n 16 (by omega) (by decide)).trans (by show ((n % 65536 : Nat) : Int) = (n : Int) % 65536; omega)
  · exact (and_pow n 32 (by omega) (by decide)).trans (by show ((n % 4294967296 : Nat) : Int) = (n : Int) % 4294967296; omega)
  · exact (and_pow n 64 (by omega) (by decide)).trans (by show ((n % 18446744073709551616 : Nat) : Int) = (n : Int) % 18446744073709551616; omega)
/-- A number's two's complement. -/
def bitv (n s : Int) : Int × Int := if -hf s ≤ n ∧ n < hf s then (n % pw s, 0) else (0, 7)
theorem sgn_back (n s : Int) (h : sz s = true) (h0 : -9223372036854775808 ≤ n) (h1 : n < 9223372036854775808) : sgn (IntKind.u64.wrap n) s = n ↔ (-hf s ≤ n ∧ n < hf s) := by
  rw [u64_mod]
  unfold sgn
  rcases sz_cases h with rfl | rfl | rfl | rfl
  · show (if n % 18446744073709551616 % 256 < 128 then n % 18446744073709551616 % 256 else n % 18446744073709551616 % 256 - 256) = n ↔ (-128 ≤ n ∧ n < 128)
    split <;> omega
  · show (if n % 18446744073709551616 % 65536 < 32768 then n % 18446744073709551616 % 65536 else n % 18446744073709551616 % 65536 - 65536) = n ↔ (-32768 ≤ n ∧ n < 32768)
    split <;> omega
  · show (if n % 18446744073709551616 % 4294967296 < 2147483648 then n % 18446744073709551616 % 4294967296 else n % 18446744073709551616 % 4294967296 - 4294967296) = n ↔ (-2147483648 ≤ n ∧ n < 2147483648)
    split <;> omega
  · show (if n % 18446744073709551616 % 18446744073709551616 < 9223372036854775808 then n % 18446744073709551616 % 18446744073709551616 else n % 18446744073709551616 % 18446744073709551616 - 18446744073709551616) = n ↔ (-9223372036854775808 ≤ n ∧ n < 9223372036854775808)
    split <;> omega
/-- A number's lowest bytes. -/
def le : Int → Nat → List Int
  | _, 0 => []
  | n, k + 1 => n % 256 :: le (n / 256) k
theorem le_len : ∀ (n : Int) (k : Nat), (le n k).length = k
  | _, 0 => rfl
  | n, k + 1 => by rw [le, List.length_cons, le_len]
/-- What Put answers. -/
def putv (n s : Int) : ByteArray × Int := if n < pw s then (strOfNums (le n s.toNat), 0) else (⟨#[]⟩, 7)
theorem shr_8 (a : Int) (i : Nat) (h : i ≤ 8) : shr .u64 a (IntKind.u64.wrap (wrap64 (8 * (i : Int)))) = a / 256 ^ i := by
  have e : IntKind.u64.wrap (wrap64 (8 * (i : Int))) = ((8 * i : Nat) : Int) := by
    rw [u64_mod]
    unfold wrap64
    omega
  rw [e, sh a (8 * i) (by omega), show (256 : Int) = 2 ^ 8 from by decide, ← Int.pow_mul]
/-- The number of bytes, the lowest first. -/
def lev (f : Nat → Int) : Nat → Int
  | 0 => 0
  | k + 1 => f 0 + 256 * lev (fun i => f (i + 1)) k
theorem lev_lo (f : Nat → Int) (hf : ∀ i, 0 ≤ f i ∧ f i ≤ 255) : ∀ k, 0 ≤ lev f k := by
  intro k
  induction k generalizing f with
  | zero => exact Int.le_refl 0
  | succ k ih =>
    have := ih (fun i => f (i + 1)) (fun i => hf (i + 1))
    have := (hf 0).1
    rw [lev]
    omega
theorem lev_hi (f : Nat → Int) (hf : ∀ i, 0 ≤ f i ∧ f i ≤ 255) : ∀ k, lev f k < 256 ^ k := by
  intro k
  induction k generalizing f with
  | zero => simp [lev]
  | succ k ih =>
    have := ih (fun i => f (i + 1)) (fun i => hf (i + 1))
    have := (hf 0).2
    rw [lev, Int.pow_succ]
    omega
theorem lev_snoc (f : Nat → Int) : ∀ k, lev f (k + 1) = lev f k + f k * 256 ^ k := by
  intro k
  induction k generalizing f with
  | zero => simp [lev]
  | succ k ih =>
    rw [lev, ih (fun i => f (i + 1)), lev, Int.pow_succ, Int.mul_add]
    generalize lev (fun i => f (i + 1)) k = x
    generalize (256 : Int) ^ k = p
    have e : f (k + 1) * (p * 256) = 256 * (f (k + 1) * p) := by rw [Int.mul_comm p 256, ← Int.mul_assoc, Int.mul_comm (f (k + 1)) 256, Int.mul_assoc]
    rw [e]
    omega
/-- What Take answers. -/
def takev (b : ByteArray) (at_ s : Int) : Int × Int :=
  if at_ < 0 ∨ (b.size : Int) < at_ then (0, 7) else if (b.size : Int) - at_ < s then (0, 2) else (lev (fun i => bt b (at_ + i)) s.toNat, 0)
theorem or_add (x c : Int) (i : Nat) (hi : i < 8) (hx0 : 0 ≤ x) (hx : x < 256 ^ i) (hc0 : 0 ≤ c) (hc : c ≤ 255) :
    Go.bits .or .u64 x (shl .u64 (IntKind.u64.wrap c) (IntKind.u64.wrap (wrap64 (8 * (i : Int))))) = x + c * 256 ^ i := by
  have e : IntKind.u64.wrap (wrap64 (8 * (i : Int))) = ((8 * i : Nat) : Int) := by
    rw [u64_mod]
    unfold wrap64
    omega
  have ew : IntKind.u64.wrap c = c := by rw [u64_mod]; omega
  obtain ⟨n, rfl⟩ : ∃ n : Nat, x = (n : Int) := ⟨x.toNat, by omega⟩
  obtain ⟨m, rfl⟩ : ∃ m : Nat, c = (m : Int) := ⟨c.toNat, by omega⟩
  have hp : (256 : Int) ^ i = ((2 ^ (8 * i) : Nat) : Int) := by
    rw [Nat.pow_mul]
    simp
  have hn : n < 2 ^ (8 * i) := by rw [hp] at hx; omega
  have hq : 2 ^ (8 * i) ≤ 2 ^ 56 := Nat.pow_le_pow_right (by decide) (by omega)
  have h56 : (2 : Nat) ^ 56 = 72057594037927936 := by decide
  have h64 : (2 : Nat) ^ 64 = 18446744073709551616 := by decide
  have hm : m * 2 ^ (8 * i) ≤ 255 * 2 ^ 56 := Nat.mul_le_mul (by omega) hq
  have hd : m * 2 ^ (8 * i) + 2 ^ (8 * i) ≤ 2 ^ 64 := by
    have h1 : (m + 1) * 2 ^ (8 * i) ≤ 256 * 2 ^ 56 := Nat.mul_le_mul (by omega) hq
    rw [Nat.add_mul, Nat.one_mul] at h1
    omega
  rw [e, ew, sl_ _ (8 * i) (by omega), hp]
  have e2 : (m : Int) * 2 ^ (8 * i) % 18446744073709551616 = ((m * 2 ^ (8 * i) : Nat) : Int) := by
    have e3 : (m : Int) * 2 ^ (8 * i) = ((m * 2 ^ (8 * i) : Nat) : Int) := by simp
    rw [e3]
    generalize m * 2 ^ (8 * i) = y at *
    omega
  rw [e2]
  show IntKind.u64.wrap (((BitVec.ofInt 64 (n : Int) ||| BitVec.ofInt 64 ((m * 2 ^ (8 * i) : Nat) : Int)).toNat : Nat) : Int) = _
  have eor : n ||| (m * 2 ^ (8 * i)) = m * 2 ^ (8 * i) + n := by rw [Nat.or_comm, Nat.mul_comm m, ← Nat.two_pow_add_eq_or_of_lt hn]
  rw [of_nat, of_nat, BitVec.toNat_or, BitVec.toNat_ofNat, BitVec.toNat_ofNat, Nat.mod_eq_of_lt (by omega), Nat.mod_eq_of_lt (by omega), eor, u64_mod]
  have e4 : (m : Int) * ((2 ^ (8 * i) : Nat) : Int) = ((m * 2 ^ (8 * i) : Nat) : Int) := by simp
  rw [e4]
  generalize m * 2 ^ (8 * i) = y at *
  generalize 2 ^ (8 * i) = q at *
  omega
theorem pow_8 (m : Nat) (h : m ≤ 8) : (256 : Int) ^ m ≤ 256 ^ 8 := by
  have : m = 0 ∨ m = 1 ∨ m = 2 ∨ m = 3 ∨ m = 4 ∨ m = 5 ∨ m = 6 ∨ m = 7 ∨ m = 8 := by omega
  rcases this with rfl | rfl | rfl | rfl | rfl | rfl | rfl | rfl | rfl <;> decide
theorem str_app (a b : List Int) : strOfNums a ++ strOfNums b = strOfNums (a ++ b) := by
  apply ByteArray.ext
  simp [strOfNums]
theorem app_empty (t : ByteArray) : t ++ strOfNums [] = t := by
  apply ByteArray.ext
  simp [strOfNums]
theorem empty_app (t : ByteArray) : (⟨#[]⟩ : ByteArray) ++ t = t := by
  apply ByteArray.ext
  simp
theorem app_assoc (a b c : ByteArray) : (a ++ b) ++ c = a ++ (b ++ c) := by
  apply ByteArray.ext
  simp
theorem lev_le : ∀ (k : Nat) (n : Int), 0 ≤ n → n < 256 ^ k → lev (fun i => (le n k).getD i 0) k = n
  | 0, n, h0, h1 => by
    have : (256 : Int) ^ 0 = 1 := rfl
    show 0 = n
    omega
  | k + 1, n, h0, h1 => by
    have hp : (256 : Int) ^ (k + 1) = 256 ^ k * 256 := Int.pow_succ _ _
    have ih := lev_le k (n / 256) (by omega) (by omega)
    rw [lev]
    have e : (fun i => (le n (k + 1)).getD (i + 1) 0) = (fun i => (le (n / 256) k).getD i 0) := by
      funext i
      rw [le]
      simp [List.getD_eq_getElem?_getD]
    rw [e, ih]
    show (le n (k + 1)).getD 0 0 + 256 * (n / 256) = n
    rw [le]
    simp [List.getD_eq_getElem?_getD]
    omega
theorem le_range : ∀ (k : Nat) (n : Int), ∀ x ∈ le n k, 0 ≤ x ∧ x < 256
  | 0, n, x, h => by cases h
  | k + 1, n, x, h => by
    rw [le] at h
    rcases List.mem_cons.1 h with rfl | h
    · omega
    · exact le_range k (n / 256) x h
theorem bt_mid (a b : ByteArray) (xs : List Int) (hx : ∀ x ∈ xs, 0 ≤ x ∧ x < 256) (i : Nat) (hi : i < xs.length) : bt (a ++ strOfNums xs ++ b) ((a.size : Int) + i) = xs.getD i 0 := by
  have e : ((a.size : Int) + i).toNat = a.size + i := by omega
  have hl : a.size + i < (a ++ strOfNums xs ++ b).size := by
    rw [ByteArray.size_append, ByteArray.size_append, strOfNums_size]
    omega
  unfold bt
  rw [e, dif_pos hl]
  have hg : (a ++ strOfNums xs ++ b)[a.size + i] = UInt8.ofNat (xs.getD i 0).toNat := by
    rw [ByteArray.getElem_append_left (by rw [ByteArray.size_append, strOfNums_size]; omega), ByteArray.getElem_append_right (by omega)]
    show (strOfNums xs).data[a.size + i - a.size]'_ = _
    simp [strOfNums, List.getD_eq_getElem?_getD, List.getElem?_eq_getElem hi]
  have hm := hx (xs.getD i 0) (by rw [List.getD_eq_getElem?_getD, List.getElem?_eq_getElem hi]; exact List.getElem_mem hi)
  rw [hg, UInt8.toNat_ofNat']
  omega
theorem lev_congr (f g : Nat → Int) : ∀ k, (∀ i, i < k → f i = g i) → lev f k = lev g k := by
  intro k
  induction k generalizing f g with
  | zero => intro _; rfl
  | succ k ih =>
    intro h
    rw [lev, lev, h 0 (by omega), ih (fun i => f (i + 1)) (fun i => g (i + 1)) (fun i hi => h (i + 1) (by omega))]
theorem pw_pow {s : Int} (h : sz s = true) : (256 : Int) ^ s.toNat = pw s := by
  rcases sz_cases h with rfl | rfl | rfl | rfl <;> kernel_rfl
theorem take_back (a b : ByteArray) (n s : Int) (h : sz s = true) (h0 : 0 ≤ n) (h1 : n < pw s) : takev (a ++ strOfNums (le n s.toNat) ++ b) (a.size : Int) s = (n, 0) := by
  have hs := sz_cases h
  have hsz : (a ++ strOfNums (le n s.toNat) ++ b).size = a.size + s.toNat + b.size := by rw [ByteArray.size_append, ByteArray.size_append, strOfNums_size, le_len]
  unfold takev
  rw [hsz, if_neg (by omega), if_neg (by omega)]
  have e : lev (fun i => bt (a ++ strOfNums (le n s.toNat) ++ b) ((a.size : Int) + i)) s.toNat = lev (fun i => (le n s.toNat).getD i 0) s.toNat :=
    lev_congr _ _ _ (fun i hi => bt_mid a b _ (le_range _ _) i (by rw [le_len]; exact hi))
  rw [e, lev_le s.toNat n h0 (by rw [pw_pow h]; exact h1)]
/-- What only draws changes nothing below. -/
theorem drawn_below {w w' : World} (h : Drawn0 w w') : Below w.heap.size w w' := by
  obtain ⟨n, rfl⟩ := h.out
  exact pw_below_drewN (Below.refl _ _) n
end Go.Proofs.Ytehojcocnndniaa.Wd
namespace Go.Proofs.Ytehojcocnndniaa.Al
open Go.RowKit Base Go.Proofs.YtehojcocnndniaaW.PrintWords Go.Proofs.YtehojcocnndniaaW.PrintLast Wd Go.Proofs.Ytehojcocnndniaa.PImageTakes
/-- How many bytes are needed till a place is a multiple of a size. -/
def gapv (a s : Int) : Int := if a < 0 then 0 else if sz s then (-a) % s else 0
theorem gapv_le (a s : Int) : 0 ≤ gapv a s ∧ gapv a s ≤ 7 := by
  unfold gapv
  split
  · omega
  · split
    · rename_i h
      rcases sz_cases h with rfl | rfl | rfl | rfl <;> omega
    · omega
theorem and_small (x : Int) (k : Nat) (hk : k ≤ 3) : Go.bits .and .i64 x ((2 ^ k - 1 : Nat) : Int) = x % ((2 ^ k : Nat) : Int) := by
  have hp : 2 ^ k ≤ 2 ^ 3 := Nat.pow_le_pow_right (by decide) hk
  have hp0 : 0 < 2 ^ k := Nat.pow_pos (by decide)
  show IntKind.i64.wrap (((BitVec.ofInt 64 x &&& BitVec.ofInt 64 (((2 ^ k - 1 : Nat)) : Int)).toNat : Nat) : Int) = _
  rw [of_nat, BitVec.toNat_and, BitVec.toNat_ofNat, BitVec.toNat_ofInt, Nat.mod_eq_of_lt (a := 2 ^ k - 1) (by omega), Nat.and_two_pow_sub_one_eq_mod]
  have h1 := Nat.mod_lt (x % ((2 ^ 64 : Nat) : Int)).toNat hp0
  rw [wrapi64 (by omega) (by omega)]
  have h64 : (2 : Nat) ^ 64 = 18446744073709551616 := by decide
  rw [h64]
  have hk4 : k = 0 ∨ k = 1 ∨ k = 2 ∨ k = 3 := by omega
  rcases hk4 with rfl | rfl | rfl | rfl <;> simp only [Nat.reducePow] <;> omega
theorem gap_eq (a s : Int) (h0 : -9223372036854775808 ≤ a) (h1 : a < 9223372036854775808) : align_Gap.f a s = some (gapv a s) := by
  have hm : wrap64 (-(mx a 0)) = -(mx a 0) := by unfold mx wrap64; split <;> omega
  have hmv : mx a 0 = if a < 0 then 0 else a := by unfold mx; repeat' split
                                                   all_goals omega
  unfold align_Gap.f gapv
  rw [hm, hmv]
  by_cases c1 : s = 1
  · subst c1
    rw [if_pos rfl, show sz 1 = true from rfl, show wrap64 (1 - 1) = ((2 ^ 0 - 1 : Nat) : Int) from by kernel_rfl, and_small _ 0 (by decide)]
    congr 1
    simp only [Nat.reducePow]
    split <;> simp <;> omega
  by_cases c2 : s = 2
  · subst c2
    rw [if_neg (by decide), if_pos rfl, show sz 2 = true from rfl, show wrap64 (2 - 1) = ((2 ^ 1 - 1 : Nat) : Int) from by kernel_rfl, and_small _ 1 (by decide)]
    congr 1
    simp only [Nat.reducePow]
    split <;> simp <;> omega
  by_cases c4 : s = 4
  · subst c4
    rw [if_neg (by decide), if_neg (by decide), if_pos rfl, show sz 4 = true from rfl, show wrap64 (4 - 1) = ((2 ^ 2 - 1 : Nat) : Int) from by kernel_rfl, and_small _ 2 (by decide)]
    congr 1
    simp only [Nat.reducePow]
    split <;> simp <;> omega
  by_cases c8 : s = 8
  · subst c8
    rw [if_neg (by decide), if_neg (by decide), if_neg (by decide), if_pos rfl, show sz 8 = true from rfl, show wrap64 (8 - 1) = ((2 ^ 3 - 1 : Nat) : Int) from by kernel_rfl, and_small _ 3 (by decide)]
    congr 1
    simp only [Nat.reducePow]
    split <;> simp <;> omega
  · rw [if_neg c1, if_neg c2, if_neg c4, if_neg c8, show sz s = false from by unfold sz; simp [c1, c2, c4, c8]]
    simp
theorem gap (a s : Int) (h0 : -9223372036854775808 ≤ a) (h1 : a < 9223372036854775808) (w : World) :
    Calls Try.prog 40 #[.int .i64 a, .int .i64 s] w fun e w' => e = .returned (.int .i64 (gapv a s)) ∧ Below w.heap.size w w' :=
  align_Gap.calls a s _ w (gap_eq a s h0 h1)
end Go.Proofs.Ytehojcocnndniaa.Al
namespace Go.Proofs.Ytehojcocnndniaa.Wd
open Go.RowKit Base Go.Proofs.YtehojcocnndniaaW.PrintWords Go.Proofs.YtehojcocnndniaaW.PrintLast Go.Proofs.YtehojcocnndniaaW.PrintMore Go.Proofs.Ytehojcocnndniaa.PImageTakes
theorem sized_eq (s : Int) : word_sized.f s = some (sz s) := by
  unfold word_sized.f sz
  by_cases h1 : s = 1
  · simp [h1]
  · by_cases h2 : s = 2
    · simp [h2]
    · by_cases h4 : s = 4
      · simp [h4]
      · simp [h1, h2, h4]
theorem mask_eq {s : Int} (h : sz s = true) : word_mask.f s = some (pw s - 1) := by
  rcases sz_cases h with rfl | rfl | rfl | rfl <;> kernel_rfl
theorem put_loop (a s : Int) (hs : s ≤ 8) : ∀ (j i : Nat) (pre : List Int) (k : Nat), ((i + j : Nat) : Int) = s → pre.length = i →
    word_Put.l0 (j + 1 + k) a (pre ++ List.replicate j 0) s (i : Int) = some (strOfNums (pre ++ le (a / 256 ^ i) j), 0)
  | 0, i, pre, k, h, hp => by
    rw [show 0 + 1 + k = k + 1 from by omega]
    simp only [word_Put.l0]
    rw [if_neg (by omega)]
    simp [le]
  | j + 1, i, pre, k, h, hp => by
    rw [show j + 1 + 1 + k = (j + 1 + k) + 1 from by omega]
    simp only [word_Put.l0]
    have e0 : (0 : Int) ≤ IntKind.u64.wrap (wrap64 (8 * (i : Int))) := by
      rw [u64_mod]
      omega
    have ew : wrap64 ((i : Int) + 1) = ((i + 1 : Nat) : Int) := by unfold wrap64; omega
    have es : (pre ++ List.replicate (j + 1) 0).set ((i : Int)).toNat (shr .u64 a (IntKind.u64.wrap (wrap64 (8 * (i : Int)))) % 256) = (pre ++ [a / 256 ^ i % 256]) ++ List.replicate j 0 := by
      rw [Int.toNat_natCast, List.set_append_right _ _ (by omega), hp, Nat.sub_self, shr_8 a i (by omega)]
      simp [List.replicate_succ]
    rw [if_pos (by omega), if_pos e0, if_pos (by omega), if_pos (by simp; omega), ew, es, put_loop a s hs j (i + 1) (pre ++ [a / 256 ^ i % 256]) k (by omega) (by simp [hp])]
    congr 2
    rw [le, List.append_assoc, List.singleton_append, Int.pow_succ, Int.ediv_ediv_of_nonneg (Int.pow_nonneg (by decide))]
theorem put_eq (a s : Int) (k : Nat) (hk : 12 ≤ k) (h0 : 0 ≤ a) (h1 : a < 18446744073709551616) : word_Put.f k a s = some (if sz s then putv a s else (⟨#[]⟩, 4)) := by
  unfold word_Put.f
  rw [sized_eq, Option.bind_some]
  cases h : sz s with
  | false => rfl
  | true =>
    have hs := sz_cases h
    rw [if_pos rfl, mask_eq h, Option.bind_some, if_pos rfl]
    unfold putv
    by_cases hp : a < pw s
    · rw [if_pos ((andNot_mask h h0 h1).2 hp), if_pos (by omega), if_pos (by omega), if_pos hp]
      obtain ⟨n, rfl⟩ : ∃ n : Nat, s = (n : Int) := ⟨s.toNat, by omega⟩
      have := put_loop a n (by omega) n 0 [] (k - n - 1) (by omega) rfl
      rw [show n + 1 + (k - n - 1) = k from by omega, List.nil_append, List.nil_append] at this
      simp only [Int.toNat_natCast]
      rw [show ((0 : Nat) : Int) = 0 from rfl] at this
      rw [this]
      simp
    · rw [if_neg (fun h' => hp ((andNot_mask h h0 h1).1 h')), if_neg hp]
theorem put (a s : Int) (h0 : 0 ≤ a) (h1 : a < 18446744073709551616) (w : World) :
    Calls Try.prog 68 #[.int .u64 a, .int .i64 s] w fun e w' => e = .returned (.tuple #[.string (if sz s then putv a s else (⟨#[]⟩, 4)).1, .int .i64 (if sz s then putv a s else (⟨#[]⟩, 4)).2]) ∧ Below w.heap.size w w' :=
  word_Put.calls 12 a s _ _ w (put_eq a s 12 (by decide) h0 h1)
end Go.Proofs.Ytehojcocnndniaa.Wd
/-
  DERIVED: THE SHELF's CONTRACTS AT THIS DUMP, IN PLAIN WORDS (tools/lay-plain.mjs out of 'TryShelf.lean', which tools/lay-shelf.mjs wrote): THE SAME DECLARATIONS UNDER THE SAME NAMES: 'import', 'namespace', 'open', 'def', 'theorem' AND NOTHING ELSE: no command of the shelf's: FOR A HAND-IN. Each laying: the table of numbers ('.._ren') and one theorem, a field a fact of the dump's own or the kernel's comparison; each contract: ONE APPLICATION.
-/
namespace Go.Proofs
open Go.Shelf
def Try.lays105_ren : Go.Shelf.Ren := ⟨fun | 105 => 39 | 212 => 71 | 99 => 61 | 165 => 72 | 166 => 47 | 170 => 45 | 169 => 46 | 263 => 91 | 264 => 92 | 206 => 85 | 240 => 74 | 241 => 93 | 276 => 94 | 277 => 97 | n => n, fun | 9 => 9 | 3 => 3 | 4 => 4 | 20 => 20 | 0 => 0 | 46 => 126 | 109 => 127 | 5 => 5 | 72 => 82 | 76 => 85 | 51 => 99 | 146 => 142 | 53 => 22 | 148 => 144 | 70 => 80 | 37 => 67 | 75 => 84 | 127 => 130 | 164 => 146 | 80 => 77 | n => n, fun | n => n⟩
theorem Try.lays105 : Go.Proofs.Lays.n105 Try.prog Try.lays105_ren := {
  mixed := by kernel_rfl
  f99 := Try.func61.trans (congrArg some (by kernel_rfl))
  f105 := Try.func39.trans (congrArg some (by kernel_rfl))
  f165 := Try.func72.trans (congrArg some (by kernel_rfl))
  f166 := Try.func47.trans (congrArg some (by kernel_rfl))
  f169 := Try.func46.trans (congrArg some (by kernel_rfl))
  f170 := Try.func45.trans (congrArg some (by kernel_rfl))
  f206 := Try.func85.trans (congrArg some (by kernel_rfl))
  f212 := Try.func71.trans (congrArg some (by kernel_rfl))
  f240 := Try.func74.trans (congrArg some (by kernel_rfl))
  f241 := Try.func93.trans (congrArg some (by kernel_rfl))
  f263 := Try.func91.trans (congrArg some (by kernel_rfl))
  f264 := Try.func92.trans (congrArg some (by kernel_rfl))
  f276 := Try.func94.trans (congrArg some (by kernel_rfl))
  f277 := Try.func97.trans (congrArg some (by kernel_rfl))
  t0 := Try.underlying0
  a0 := Try.isAgg0
  z0 := Try.sizeOf0
  v0 := Try.zeroValue0
  t3 := Try.underlying3
  a3 := Try.isAgg3
  z3 := Try.sizeOf3
  v3 := Try.zeroValue3
  t4 := Try.underlying4
  a4 := Try.isAgg4
  z4 := Try.sizeOf4
  v4 := Try.zeroValue4
  t5 := Try.underlying5
  a5 := Try.isAgg5
  z5 := Try.sizeOf5
  v5 := Try.zeroValue5
  t9 := Try.underlying9
  a9 := Try.isAgg9
  z9 := Try.sizeOf9
  v9 := Try.zeroValue9
  t20 := Try.underlying20
  a20 := Try.isAgg20
  z20 := Try.sizeOf20
  v20 := Try.zeroValue20
  t37 := Try.underlying67
  a37 := Try.isAgg67
  z37 := Try.sizeOf67
  v37 := Try.zeroValue67
  t46 := Try.underlying126
  a46 := Try.isAgg126
  z46 := Try.sizeOf126
  v46 := Try.zeroValue126
  t51 := Try.underlying99
  a51 := Try.isAgg99
  z51 := Try.sizeOf99
  v51 := Try.zeroValue99
  t53 := Try.underlying22
  a53 := Try.isAgg22
  z53 := Try.sizeOf22
  v53 := Try.zeroValue22
  t70 := Try.underlying80
  a70 := Try.isAgg80
  z70 := Try.sizeOf80
  v70 := Try.zeroValue80
  t72 := Try.underlying82
  a72 := Try.isAgg82
  z72 := Try.sizeOf82
  v72 := Try.zeroValue82
  t75 := Try.underlying84
  a75 := Try.isAgg84
  z75 := Try.sizeOf84
  v75 := Try.zeroValue84
  t76 := Try.underlying85
  a76 := Try.isAgg85
  z76 := Try.sizeOf85
  v76 := Try.zeroValue85
  t109 := Try.underlying127
  a109 := Try.isAgg127
  z109 := Try.sizeOf127
  v109 := Try.zeroValue127
  t127 := Try.underlying130
  a127 := Try.isAgg130
  z127 := Try.sizeOf130
  v127 := Try.zeroValue130
  t146 := Try.underlying142
  a146 := Try.isAgg142
  z146 := Try.sizeOf142
  v146 := Try.zeroValue142
  t148 := Try.underlying144
  a148 := Try.isAgg144
  z148 := Try.sizeOf144
  v148 := Try.zeroValue144
  t164 := Try.underlying146
  a164 := Try.isAgg146
  z164 := Try.sizeOf146
  v164 := Try.zeroValue146 }
theorem Try.Builder_Extra_105 : Builder.Extra Try.prog Try.lays105_ren := {
  sizeBuilder := by kernel_rfl
  liesBuilder := by kernel_rfl
  t5 := Try.underlying5
  a5 := Try.isAgg5
  z5 := Try.sizeOf5
  v5 := Try.zeroValue5
  infoByte := by kernel_rfl
  cellsByte := by kernel_rfl
  sizeByte := by kernel_rfl
  neB5 := by decide }
open Go.RowKit Go.Lib in
/-- **strings.Repeat: count ≥ 0, the result within one allocation: count copies of s.** (LAID: no walk: one application.) -/
theorem Try.strings_Repeat (s : ByteArray) (c : Nat) (w : World) (hc : c ≤ 9223372036854775807) (hlen : s.size * c ≤ 140737488355328) :
    Calls Try.prog 39 #[.string s, .int .i64 c] w fun e w' => e = .returned (.string ⟨(Lib.repeatL s.data.toList c).toArray⟩) ∧ Below w.heap.size w w' := Any.strings_Repeat Try.lays105 Try.Builder_Extra_105 s c w hc hlen
end Go.Proofs
