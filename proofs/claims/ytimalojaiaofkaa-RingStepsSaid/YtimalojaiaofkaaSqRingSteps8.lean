import Derived.Test.YtimalojaiaofkaaSqRingSteps7
set_option linter.unusedVariables false
set_option linter.unusedSimpArgs false
namespace Go.Proofs.Ytimalojaiaofkaa.Rng
open Go.RowKit Base Sp Flat Go.Proofs.YtimalojaiaofkaaW.PrintWords Go.Shelf Smp His
/-- A queue's numbers. -/
structure Qn where
  room : Int
  depth : Int
  newest : Bool
/-- A queue: where it lies, what waits; its row's block is F's. -/
structure QS (w : World) (F : Nat → Prop) (b : Nat) (n : Qn) (lost ev : Int) (xs : List Smp) : Prop where
  at_ : ∃ v, w.heap[b]? = some (.cells #[.int .i64 n.room, .int .i64 n.depth, .bool n.newest, v, .int .u64 lost, .int .u64 ev] 97 (0, 0)) ∧ Row w F v xs
  off : ¬ F b
  old : ∀ k, F k → k < w.heap.size
  r0 : 0 ≤ n.room
  d0 : 0 ≤ n.depth
  rm : n.room < 9223372036854775808
  dm : n.depth < 9223372036854775808
theorem QS.lt {w : World} {F : Nat → Prop} {b : Nat} {n : Qn} {lost ev : Int} {xs : List Smp} (h : QS w F b n lost ev xs) : b < w.heap.size := by
  obtain ⟨v, h1, _⟩ := h.at_
  exact blk_lt h1
theorem QS.below {w w' : World} {F : Nat → Prop} {b : Nat} {n : Qn} {lost ev : Int} {xs : List Smp} (h : QS w F b n lost ev xs) (hb : Below w.heap.size w w') : QS w' F b n lost ev xs := by
  obtain ⟨v, h1, h2⟩ := h.at_
  exact ⟨⟨v, blk_below h1 hb, h2.below hb⟩, h.off, fun k hk => Nat.lt_of_lt_of_le (h.old k hk) hb.size, h.r0, h.d0, h.rm, h.dm⟩
theorem QS.same {w w' : World} {F : Nat → Prop} {b : Nat} {n : Qn} {lost ev : Int} {xs : List Smp} (h : QS w F b n lost ev xs) {G : Nat → Prop} (hm : Mod G w w') (hd : ∀ k, G k → ¬ F k ∧ k ≠ b) : QS w' F b n lost ev xs := by
  obtain ⟨v, h1, h2⟩ := h.at_
  refine ⟨⟨v, (hm.block b (blk_lt h1) (fun hg => (hd b hg).2 rfl)).trans h1, h2.same (fun k hk => hm.block k (h.old k hk) (fun hg => (hd k hg).1 hk))⟩, h.off, fun k hk => Nat.lt_of_lt_of_le (h.old k hk) hm.size, h.r0, h.d0, h.rm, h.dm⟩
/-- The row is stored. -/
theorem QS.store {w w' : World} {F G : Nat → Prop} {b : Nat} {n : Qn} {lost ev : Int} {xs ys : List Smp} (h : QS w F b n lost ev xs) {v : Value} (hR : Row w' G v ys) (hG : ¬ G b) (hGs : ∀ k, G k → k < w'.heap.size) (hM : Mod F w w') :
    QS (w'.setCell ⟨b, 3, none⟩ v) G b n lost ev ys ∧ Mod (HM F b) w (w'.setCell ⟨b, 3, none⟩ v) := by
  obtain ⟨u, h1, h2⟩ := h.at_
  have h3 := (hM.block b (blk_lt h1) h.off).trans h1
  refine ⟨⟨⟨v, blk_put h3 3 v rfl, hR.set (a := ⟨b, 3, none⟩) hG v⟩, hG, fun k hk => by have := hGs k hk; simpa [World.setCell] using this, h.r0, h.d0, h.rm, h.dm⟩, ?_⟩
  exact (hM.mono (G := HM F b) (fun k hk => .inl (.inr hk))).set (p := ⟨b, 3, none⟩) (.inl (.inl rfl)) v
theorem QS.lost_ {w : World} {F : Nat → Prop} {b : Nat} {n : Qn} {lost ev : Int} {xs : List Smp} (h : QS w F b n lost ev xs) (k : Int) : QS (w.setCell ⟨b, 4, none⟩ (.int .u64 k)) F b n k ev xs ∧ Mod (HM F b) w (w.setCell ⟨b, 4, none⟩ (.int .u64 k)) := by
  obtain ⟨u, h1, h2⟩ := h.at_
  refine ⟨⟨⟨u, blk_put h1 4 _ rfl, h2.set (a := ⟨b, 4, none⟩) h.off _⟩, h.off, fun k hk => by have := h.old k hk; simpa [World.setCell] using this, h.r0, h.d0, h.rm, h.dm⟩, ?_⟩
  exact (Mod.refl (HM F b) w).set (p := ⟨b, 4, none⟩) (.inl (.inl rfl)) _
theorem QS.ev_ {w : World} {F : Nat → Prop} {b : Nat} {n : Qn} {lost ev : Int} {xs : List Smp} (h : QS w F b n lost ev xs) (k : Int) : QS (w.setCell ⟨b, 5, none⟩ (.int .u64 k)) F b n lost k xs ∧ Mod (HM F b) w (w.setCell ⟨b, 5, none⟩ (.int .u64 k)) := by
  obtain ⟨u, h1, h2⟩ := h.at_
  refine ⟨⟨⟨u, blk_put h1 5 _ rfl, h2.set (a := ⟨b, 5, none⟩) h.off _⟩, h.off, fun k hk => by have := h.old k hk; simpa [World.setCell] using this, h.r0, h.d0, h.rm, h.dm⟩, ?_⟩
  exact (Mod.refl (HM F b) w).set (p := ⟨b, 5, none⟩) (.inl (.inl rfl)) _
/-- How many of a sample's instance wait. -/
def cntr (s : Smp) (xs : List Smp) : Nat := xs.countP (itr s)
/-- Behind an eviction. -/
def evm (d : Int) (xs : List Smp) (ev : Int) (x : Smp) : List Smp × Int := if x.op = 1 ∧ 0 < d ∧ d ≤ (cntr x xs : Int) then (dropf (itr x) xs, ev + 1) else (xs, ev)
theorem evm_le (d : Int) (xs : List Smp) (ev : Int) (x : Smp) : (evm d xs ev x).1.length ≤ xs.length := by
  unfold evm
  split
  · exact dropf_le _ _
  · exact Nat.le_refl _
set_option maxRecDepth 20000 in
theorem new (r d k : Int) (w : World) (hr : r < 9223372036854775808) (hd : d < 9223372036854775808) :
    Calls Try.prog 44 #[.int .i64 r, .int .i64 d, .int .i64 k] w fun e w' => e = .returned (.pointer (some ⟨w.heap.size, 0, none⟩)) ∧ QS w' (fun _ => False) w.heap.size ⟨mx0 r, mx0 d, k != 0⟩ 0 0 [] ∧ Below w.heap.size w w' := by
  have HH : QS (w.alloc (.cells #[.int .i64 (mx0 r), .int .i64 (mx0 d), .bool (k != 0), .slice none 0 0, .int .u64 0, .int .u64 0] 97)) (fun _ => False) w.heap.size ⟨mx0 r, mx0 d, k != 0⟩ 0 0 [] :=
    ⟨⟨_, heap_alloc_new _ _, Row.nil _ _⟩, fun h => h, fun k h => h.elim, mx0_0 r, mx0_0 d, mx0_m hr, mx0_m hd⟩
  have b1 : Below w.heap.size w (w.alloc (.cells #[.int .i64 (mx0 r), .int .i64 (mx0 d), .bool (k != 0), .slice none 0 0, .int .u64 0, .int .u64 0] 97)) := (Below.refl _ _).alloc (Nat.le_refl _) _
  clear hr hd
  generalize hq : (k != 0) = q at *
  unfold mx0 at *
  by_cases h1 : r < 0
  · rw [if_pos h1] at *
    by_cases h2 : d < 0
    · rw [if_pos h2] at *
      go_enter Try.func44, Try.ntmps44
      go_wp2
      go_ret
      exact ⟨rfl, HH, b1⟩
    · rw [if_neg h2] at *
      go_enter Try.func44, Try.ntmps44
      go_wp2
      go_ret
      exact ⟨rfl, HH, b1⟩
  · rw [if_neg h1] at *
    by_cases h2 : d < 0
    · rw [if_pos h2] at *
      go_enter Try.func44, Try.ntmps44
      go_wp2
      go_ret
      exact ⟨rfl, HH, b1⟩
    · rw [if_neg h2] at *
      go_enter Try.func44, Try.ntmps44
      go_wp2
      go_ret
      exact ⟨rfl, HH, b1⟩
set_option maxRecDepth 20000 in
theorem len_nil (w : World) : Calls Try.prog 48 #[.pointer none] w fun e w' => e = .returned (.int .i64 0) ∧ w = w' := by
  go_enter Try.func48, Try.ntmps48
  go_wp2
  go_ret
  exact ⟨rfl, rfl⟩
set_option maxRecDepth 20000 in
theorem len {w : World} {F : Nat → Prop} {b : Nat} {n : Qn} {lost ev : Int} {xs : List Smp} (h : QS w F b n lost ev xs) :
    Calls Try.prog 48 #[.pointer (some ⟨b, 0, none⟩)] w fun e w' => e = .returned (.int .i64 (xs.length : Int)) ∧ w = w' := by
  obtain ⟨v, h1, h2⟩ := h.at_
  have c3 : w.cell? ⟨b, 3, none⟩ = some v := blk_cell h1 3
  have c4 : w.cell? ⟨b, 4, none⟩ = some (.int .u64 lost) := blk_cell h1 4
  have c5 : w.cell? ⟨b, 5, none⟩ = some (.int .u64 ev) := blk_cell h1 5
  obtain ⟨A, c, rfl, _, _⟩ := h2.slice
  clear h h1 h2
  go_enter Try.func48, Try.ntmps48
  go_wp2
  go_ret
  exact ⟨rfl, rfl⟩
set_option maxRecDepth 20000 in
theorem lost_nil (w : World) : Calls Try.prog 49 #[.pointer none] w fun e w' => e = .returned (.int .u64 0) ∧ w = w' := by
  go_enter Try.func49, Try.ntmps49
  go_wp2
  go_ret
  exact ⟨rfl, rfl⟩
set_option maxRecDepth 20000 in
theorem lost {w : World} {F : Nat → Prop} {b : Nat} {n : Qn} {lost ev : Int} {xs : List Smp} (h : QS w F b n lost ev xs) :
    Calls Try.prog 49 #[.pointer (some ⟨b, 0, none⟩)] w fun e w' => e = .returned (.int .u64 lost) ∧ w = w' := by
  obtain ⟨v, h1, h2⟩ := h.at_
  have c3 : w.cell? ⟨b, 3, none⟩ = some v := blk_cell h1 3
  have c4 : w.cell? ⟨b, 4, none⟩ = some (.int .u64 lost) := blk_cell h1 4
  have c5 : w.cell? ⟨b, 5, none⟩ = some (.int .u64 ev) := blk_cell h1 5
  obtain ⟨A, c, rfl, _, _⟩ := h2.slice
  clear h h1 h2
  go_enter Try.func49, Try.ntmps49
  go_wp2
  go_ret
  exact ⟨rfl, rfl⟩
set_option maxRecDepth 20000 in
theorem evicted_nil (w : World) : Calls Try.prog 50 #[.pointer none] w fun e w' => e = .returned (.int .u64 0) ∧ w = w' := by
  go_enter Try.func50, Try.ntmps50
  go_wp2
  go_ret
  exact ⟨rfl, rfl⟩
set_option maxRecDepth 20000 in
theorem evicted {w : World} {F : Nat → Prop} {b : Nat} {n : Qn} {lost ev : Int} {xs : List Smp} (h : QS w F b n lost ev xs) :
    Calls Try.prog 50 #[.pointer (some ⟨b, 0, none⟩)] w fun e w' => e = .returned (.int .u64 ev) ∧ w = w' := by
  obtain ⟨v, h1, h2⟩ := h.at_
  have c3 : w.cell? ⟨b, 3, none⟩ = some v := blk_cell h1 3
  have c4 : w.cell? ⟨b, 4, none⟩ = some (.int .u64 lost) := blk_cell h1 4
  have c5 : w.cell? ⟨b, 5, none⟩ = some (.int .u64 ev) := blk_cell h1 5
  obtain ⟨A, c, rfl, _, _⟩ := h2.slice
  clear h h1 h2
  go_enter Try.func50, Try.ntmps50
  go_wp2
  go_ret
  exact ⟨rfl, rfl⟩
end Go.Proofs.Ytimalojaiaofkaa.Rng
namespace Go.Proofs.Ytimalojaiaofkaa.Rng
open Go.RowKit Base Sp Flat Go.Proofs.YtimalojaiaofkaaW.PrintWords Go.Shelf Smp His
theorem wrapk {k k1 n : Nat} (h : k < n) (hl : n * 80 ≤ 140737488355328) (e : k1 = k + 1) : wrap64 ((k : Int) + 1) = (k1 : Int) := by
  unfold wrap64; omega
theorem filter_none {p : Smp → Bool} {xs : List Smp} (h : xs.filter (fun y => !p y) = xs) : (xs.filter p).length = 0 := by
  have : xs.filter p = [] := by
    rw [List.filter_eq_nil_iff]
    intro y hy hp
    rw [← h] at hy
    have := (List.mem_filter.1 hy).2
    rw [hp] at this
    cases this
  rw [this]
  rfl
set_option maxHeartbeats 1000000 in
set_option maxRecDepth 20000 in
theorem evict_a {w : World} {F : Nat → Prop} {b : Nat} {n : Qn} {lost ev : Int} {xs : List Smp} (h : QS w F b n lost ev xs) (x : Smp) (ho : x.op ≠ 1) :
    Calls Try.prog 78 #[.pointer (some ⟨b, 0, none⟩), .agg (cells x).toArray] w fun e w' => e = .returned (.tuple #[]) ∧ QS w' F b n lost ev xs ∧ Mod (HM F b) w w' := by
  obtain ⟨v0, h1, h2⟩ := h.at_
  have hmf : ∀ (fn : Fn) (first cap : Array Value) (w : World), (Instr.makeFunc fn first cap).run Try.prog w = .ok (.func fn first cap) w := fun _ _ _ _ => rfl
  have b1 : Below w.heap.size w (w.alloc (.cells (cells x).toArray 60)) := (Below.refl _ _).alloc (Nat.le_refl _) _
  have n1 := heap_alloc_new w (.cells (cells x).toArray 60)
  have o0 : (w.alloc (.cells (cells x).toArray 60)).cell? ⟨w.heap.size, 0, none⟩ = some (.int .i64 x.op) := blk_cell n1 0
  have HB := Lib.hid (h.below b1)
  have hd1 : (w.alloc (.cells (cells x).toArray 60)).cell? ⟨b, 1, none⟩ = some (.int .i64 n.depth) := blk_cell (blk_alloc h1 _) 1
  have hd3 : (w.alloc (.cells (cells x).toArray 60)).cell? ⟨b, 3, none⟩ = some v0 := blk_cell (blk_alloc h1 _) 3
  have M1 := Lib.hid (Mod.of (F := HM F b) b1)
  have ho2 : (x.op != 1) = true := bne_iff_ne.2 ho
  generalize x.op = q at *
  clear h h1 h2 ho b1 n1
  go_enter Try.func78, Try.ntmps78
  go_wp2
  refine bodyPost_ret (results_none rfl _ _ _) rfl ?_
  exact ⟨rfl, HB.out, M1.out⟩
set_option maxHeartbeats 1000000 in
set_option maxRecDepth 20000 in
theorem evict_b {w : World} {F : Nat → Prop} {b : Nat} {n : Qn} {lost ev : Int} {xs : List Smp} (h : QS w F b n lost ev xs) (x : Smp) (ho : x.op = 1) (hd : n.depth = 0) :
    Calls Try.prog 78 #[.pointer (some ⟨b, 0, none⟩), .agg (cells x).toArray] w fun e w' => e = .returned (.tuple #[]) ∧ QS w' F b n lost ev xs ∧ Mod (HM F b) w w' := by
  obtain ⟨v0, h1, h2⟩ := h.at_
  have hmf : ∀ (fn : Fn) (first cap : Array Value) (w : World), (Instr.makeFunc fn first cap).run Try.prog w = .ok (.func fn first cap) w := fun _ _ _ _ => rfl
  have b1 : Below w.heap.size w (w.alloc (.cells (cells x).toArray 60)) := (Below.refl _ _).alloc (Nat.le_refl _) _
  have n1 := heap_alloc_new w (.cells (cells x).toArray 60)
  have o0 : (w.alloc (.cells (cells x).toArray 60)).cell? ⟨w.heap.size, 0, none⟩ = some (.int .i64 x.op) := blk_cell n1 0
  have HB := Lib.hid (h.below b1)
  have hd1 : (w.alloc (.cells (cells x).toArray 60)).cell? ⟨b, 1, none⟩ = some (.int .i64 n.depth) := blk_cell (blk_alloc h1 _) 1
  have hd3 : (w.alloc (.cells (cells x).toArray 60)).cell? ⟨b, 3, none⟩ = some v0 := blk_cell (blk_alloc h1 _) 3
  have M1 := Lib.hid (Mod.of (F := HM F b) b1)
  rw [ho] at o0
  rw [hd] at hd1
  clear h h1 h2 ho hd b1 n1
  go_enter Try.func78, Try.ntmps78
  go_wp2
  refine bodyPost_ret (results_none rfl _ _ _) rfl ?_
  exact ⟨rfl, HB.out, M1.out⟩
set_option maxHeartbeats 1000000 in
set_option maxRecDepth 20000 in
theorem evict_c {w : World} {F : Nat → Prop} {b : Nat} {n : Qn} {lost ev : Int} {xs : List Smp} (h : QS w F b n lost ev xs) (x : Smp) (ho : x.op = 1) (hd : 0 < n.depth) (hl : xs.length * 80 ≤ 140737488355328) (hc : ¬ n.depth ≤ (cntr x xs : Int)) :
    Calls Try.prog 78 #[.pointer (some ⟨b, 0, none⟩), .agg (cells x).toArray] w fun e w' => e = .returned (.tuple #[]) ∧ QS w' F b n lost ev xs ∧ Mod (HM F b) w w' := by
  obtain ⟨v0, h1, h2⟩ := h.at_
  have hmf : ∀ (fn : Fn) (first cap : Array Value) (w : World), (Instr.makeFunc fn first cap).run Try.prog w = .ok (.func fn first cap) w := fun _ _ _ _ => rfl
  have b1 : Below w.heap.size w (w.alloc (.cells (cells x).toArray 60)) := (Below.refl _ _).alloc (Nat.le_refl _) _
  have n1 := heap_alloc_new w (.cells (cells x).toArray 60)
  have o0 : (w.alloc (.cells (cells x).toArray 60)).cell? ⟨w.heap.size, 0, none⟩ = some (.int .i64 x.op) := blk_cell n1 0
  have HB := Lib.hid (h.below b1)
  have hd1 : (w.alloc (.cells (cells x).toArray 60)).cell? ⟨b, 1, none⟩ = some (.int .i64 n.depth) := blk_cell (blk_alloc h1 _) 1
  have hd3 : (w.alloc (.cells (cells x).toArray 60)).cell? ⟨b, 3, none⟩ = some v0 := blk_cell (blk_alloc h1 _) 3
  have M1 := Lib.hid (Mod.of (F := HM F b) b1)
  have hd0 : (n.depth == 0) = false := beq_eq_false_iff_ne.2 (by omega)
  have hP := Lib.hid (its_pr w.heap.size x _ n1)
  have H2 := Lib.hid (h2.alloc (.cells (cells x).toArray 60))
  have H1 := Lib.hid (blk_alloc h1 (.cells (cells x).toArray 60))
  have N1 := Lib.hid n1
  have HN := Lib.hid (And.intro h.lt (And.intro h.off h.old))
  have hcl : (xs.filter (itr x)).length = cntr x xs := (List.countP_eq_length_filter ..).symm
  have C1 := parted hP.out H2.out hl
  rw [ho] at o0
  obtain ⟨A0, c0, rfl, _, _⟩ := h2.slice
  have hc1 : (cntr x xs : Int) < n.depth := by omega
  rw [← hcl] at hc1
  generalize xs.filter (itr x) = ys at *
  generalize n.depth = dd at hd1 hd0 hc1
  clear h h1 h2 ho hc hd b1 n1 hcl hl
  go_enter Try.func78, Try.ntmps78
  go_wp2_with fail
  refine C1.mono ?_
  rintro e w2 ⟨v1, v2, rfl, r1, r2, b2⟩
  obtain ⟨A1, c1, rfl, _, _⟩ := r1.slice
  obtain ⟨A2, c2, rfl, _, _⟩ := r2.slice
  have e1 := cbel b2 hd1 (blk_lt H1.out)
  clear C1 r1 r2 hd1 hd3 o0
  go_wp2
  refine bodyPost_ret (results_none rfl _ _ _) rfl ?_
  exact ⟨rfl, HB.out.below b2, M1.out.trans (Mod.of (F := HM F b) b2) (fun _ h => .inl h)⟩
set_option maxHeartbeats 1000000 in
set_option maxRecDepth 20000 in
theorem evict_d {w : World} {F : Nat → Prop} {b : Nat} {n : Qn} {lost ev : Int} {xs : List Smp} (h : QS w F b n lost ev xs) (x : Smp) (ho : x.op = 1) (hd : 0 < n.depth) (hl : xs.length * 80 ≤ 140737488355328) (hc : n.depth ≤ (cntr x xs : Int)) (he : 0 ≤ ev ∧ ev < 1000000000) :
    Calls Try.prog 78 #[.pointer (some ⟨b, 0, none⟩), .agg (cells x).toArray] w fun e w' => e = .returned (.tuple #[]) ∧ QS w' F b n lost (ev + 1) (dropf (itr x) xs) ∧ Mod (HM F b) w w' := by
  obtain ⟨v0, h1, h2⟩ := h.at_
  have hmf : ∀ (fn : Fn) (first cap : Array Value) (w : World), (Instr.makeFunc fn first cap).run Try.prog w = .ok (.func fn first cap) w := fun _ _ _ _ => rfl
  have b1 : Below w.heap.size w (w.alloc (.cells (cells x).toArray 60)) := (Below.refl _ _).alloc (Nat.le_refl _) _
  have n1 := heap_alloc_new w (.cells (cells x).toArray 60)
  have o0 : (w.alloc (.cells (cells x).toArray 60)).cell? ⟨w.heap.size, 0, none⟩ = some (.int .i64 x.op) := blk_cell n1 0
  have HB := Lib.hid (h.below b1)
  have hd1 : (w.alloc (.cells (cells x).toArray 60)).cell? ⟨b, 1, none⟩ = some (.int .i64 n.depth) := blk_cell (blk_alloc h1 _) 1
  have hd3 : (w.alloc (.cells (cells x).toArray 60)).cell? ⟨b, 3, none⟩ = some v0 := blk_cell (blk_alloc h1 _) 3
  have M1 := Lib.hid (Mod.of (F := HM F b) b1)
  have hd0 : (n.depth == 0) = false := beq_eq_false_iff_ne.2 (by omega)
  have hP := Lib.hid (its_pr w.heap.size x _ n1)
  have H2 := Lib.hid (h2.alloc (.cells (cells x).toArray 60))
  have H1 := Lib.hid (blk_alloc h1 (.cells (cells x).toArray 60))
  have N1 := Lib.hid n1
  have HN := Lib.hid (And.intro h.lt (And.intro h.off h.old))
  have hcl : (xs.filter (itr x)).length = cntr x xs := (List.countP_eq_length_filter ..).symm
  have C1 := parted hP.out H2.out hl
  rw [ho] at o0
  obtain ⟨A0, c0, rfl, _, _⟩ := h2.slice
  have hc1 : ¬ (cntr x xs : Int) < n.depth := by omega
  have hne : fi (itr x) xs 0 ≠ -1 := fun hh => by
    have := fi_none (itr x) xs 0 hh
    have h5 : (xs.filter (itr x)).length = 0 := filter_none this
    rw [hcl] at h5
    omega
  obtain ⟨k, hk, e1, e2, e3⟩ := fi_some (itr x) xs 0 hne
  rw [Nat.zero_add] at e1
  have hdf : dropf (itr x) xs = xs.take k ++ xs.drop (k + 1) := by unfold dropf; rw [if_neg hne, e1, Int.toNat_natCast]
  obtain ⟨k1, hk1⟩ : ∃ k1, k1 = k + 1 := ⟨_, rfl⟩
  rw [hdf, ← hk1]
  have hw : wrap64 ((k : Int) + 1) = (k1 : Int) := wrapk hk hl hk1
  have hwe : IntKind.u64.wrap (ev + 1) = ev + 1 := wrapu64 (by omega) (by omega)
  have hkk : Hid (k < k1 ∧ k1 ≤ xs.length) := Lib.hid ⟨hk1 ▸ Nat.lt_succ_self k, hk1 ▸ hk⟩
  rw [← hcl] at hc1
  have CF := Lib.hid (fun (w2 : World) (b2 : Below (w.alloc (.cells (cells x).toArray 60)).heap.size (w.alloc (.cells (cells x).toArray 60)) w2) => indexFunc (its_pr w.heap.size x w2 (blk_below N1.out b2)) (H2.out.below b2))
  rw [e1] at CF
  have CD := Lib.hid (fun (w3 : World) (b3 : Below (w.alloc (.cells (cells x).toArray 60)).heap.size (w.alloc (.cells (cells x).toArray 60)) w3) => delete_ (H2.out.below b3) hkk.out.1 hkk.out.2)
  generalize xs.filter (itr x) = ys at *
  generalize xs.take k ++ xs.drop k1 = zs at CD hdf ⊢
  generalize n.depth = dd at hd1 hd0 hc1
  have h0 : (0 : Int) ≤ (k : Int) := by omega
  clear h h1 h2 ho hc hd b1 n1 hcl hl hne e1 e2 e3 hdf hk hk1 he
  go_enter Try.func78, Try.ntmps78
  go_wp2_with fail
  refine C1.mono ?_
  rintro e w2 ⟨v1, v2, rfl, r1, r2, b2⟩
  obtain ⟨A1, c1, rfl, _, _⟩ := r1.slice
  obtain ⟨A2, c2, rfl, _, _⟩ := r2.slice
  have g1 := cbel b2 hd1 (blk_lt H1.out)
  have g3 := cbel b2 hd3 (blk_lt H1.out)
  have C2 := CF.out w2 b2
  clear C1 r1 r2 hd1 hd3 o0 CF
  go_wp2_with fail
  refine C2.mono ?_
  rintro e w3 ⟨rfl, b3⟩
  have B3 := bstep b2 b3
  have f3 := cbel b3 g3 (by exact Nat.lt_of_lt_of_le (blk_lt H1.out) b2.size)
  have C3 := CD.out w3 B3
  clear C2 CD g1 g3 b2 b3
  go_wp2_with fail
  refine C3.mono ?_
  rintro e w4 ⟨v4, rfl, r4, m4⟩
  have hS := (HB.out.below B3).store r4 HN.out.2.1 (fun k hk => Nat.lt_of_lt_of_le (HN.out.2.2 k hk) (Nat.le_trans (by simp) (Nat.le_trans B3.size m4.size))) m4
  have H4 := (m4.block b (blk_lt (blk_below H1.out B3)) HN.out.2.1).trans (blk_below H1.out B3)
  have z3 := blk_frozen H4 3
  have y3 : w4.cell? ⟨b, 3, none⟩ = some (.slice A0 xs.length c0) := blk_cell H4 3
  have H5 := blk_put H4 3 v4 rfl
  have y5 : (w4.setCell ⟨b, 3, none⟩ v4).cell? ⟨b, 5, none⟩ = some (.int .u64 ev) := blk_cell H5 5
  have z5 := blk_frozen H5 5
  have hS5 := hS.1.ev_ (ev + 1)
  have HX := Lib.hid (And.intro hS5.1 (M1.out.trans ((Mod.of (F := HM F b) B3).trans (hS.2.trans hS5.2 (fun _ h => .inl h)) (fun _ h => .inl h)) (fun _ h => .inl h)))
  obtain ⟨A4, c4, rfl, _, _⟩ := r4.slice
  clear C3 r4 m4 hS H4 H5 hS5 f3
  go_wp2
  go_end0
  exact ⟨rfl, HX.out.1, HX.out.2⟩
end Go.Proofs.Ytimalojaiaofkaa.Rng
namespace Go.Proofs.Ytimalojaiaofkaa.Rng
open Go.RowKit Base Sp Flat Go.Proofs.YtimalojaiaofkaaW.PrintWords Go.Shelf Smp His
theorem evict {w : World} {F : Nat → Prop} {b : Nat} {n : Qn} {lost ev : Int} {xs : List Smp} (h : QS w F b n lost ev xs) (x : Smp) (hl : xs.length * 80 ≤ 140737488355328) (he : 0 ≤ ev ∧ ev < 1000000000) :
    Calls Try.prog 78 #[.pointer (some ⟨b, 0, none⟩), .agg (cells x).toArray] w fun e w' => e = .returned (.tuple #[]) ∧ QS w' F b n lost (evm n.depth xs ev x).2 (evm n.depth xs ev x).1 ∧ Mod (HM F b) w w' := by
  have d0 := h.d0
  unfold evm
  by_cases ho : x.op = 1
  · by_cases hd : 0 < n.depth
    · by_cases hc : n.depth ≤ (cntr x xs : Int)
      · rw [if_pos ⟨ho, hd, hc⟩]; exact evict_d h x ho hd hl hc he
      · rw [if_neg (fun hh => hc hh.2.2)]; exact evict_c h x ho hd hl hc
    · rw [if_neg (fun hh => hd hh.2.1)]; exact evict_b h x ho (Int.le_antisymm (Int.not_lt.1 hd) d0)
  · rw [if_neg (fun hh => ho hh.1)]; exact evict_a h x ho
/-- Push: what waits, was lost, and evicted then. -/
def pushm (n : Qn) (xs : List Smp) (lost ev : Int) (x : Smp) : List Smp × Int × Int :=
  if n.room ≤ ((evm n.depth xs ev x).1.length : Int) then
    (if n.newest = true ∨ n.room = 0 then ((evm n.depth xs ev x).1, lost + 1, (evm n.depth xs ev x).2) else ((evm n.depth xs ev x).1.drop 1 ++ [x], lost + 1, (evm n.depth xs ev x).2))
  else ((evm n.depth xs ev x).1 ++ [x], lost, (evm n.depth xs ev x).2)
set_option maxRecDepth 20000 in
theorem push_nil (x : Smp) (w : World) : Calls Try.prog 45 #[.pointer none, .agg (cells x).toArray] w fun e w' => e = .returned (.tuple #[]) ∧ Below w.heap.size w w' := by
  have b1 : Below w.heap.size w (w.alloc (.cells (cells x).toArray 60)) := (Below.refl _ _).alloc (Nat.le_refl _) _
  go_enter Try.func45, Try.ntmps45
  go_wp2
  refine bodyPost_ret (results_none rfl _ _ _) rfl ?_
  exact ⟨rfl, b1⟩
set_option maxHeartbeats 2000000 in
set_option maxRecDepth 20000 in
theorem push_d {w : World} {F : Nat → Prop} {b : Nat} {n : Qn} {lost ev ev1 : Int} {xs ys : List Smp} (h : QS w F b n lost ev xs) (x : Smp) (hl : xs.length * 80 ≤ 140737488355328) (he : 0 ≤ ev ∧ ev < 1000000000) (hlo : 0 ≤ lost ∧ lost < 1000000000) (hy : (ys.length + 1) * 80 ≤ 140737488355328)
    (hev : evm n.depth xs ev x = (ys, ev1)) (hr : ¬ n.room ≤ (ys.length : Int)) :
    Calls Try.prog 45 #[.pointer (some ⟨b, 0, none⟩), .agg (cells x).toArray] w fun e w' => e = .returned (.tuple #[]) ∧ ∃ F', QS w' F' b n lost ev1 (ys ++ [x]) ∧ Grow F F' w ∧ Mod (HM F b) w w' := by
  have b1 : Below w.heap.size w (w.alloc (.cells (cells x).toArray 60)) := (Below.refl _ _).alloc (Nat.le_refl _) _
  have n1 := heap_alloc_new w (.cells (cells x).toArray 60)
  have C := evict (h.below b1) x hl he
  rw [hev] at C
  dsimp only at C
  have hgs : Hid (¬ F w.heap.size) := Lib.hid (fun hf => Nat.lt_irrefl _ (h.old _ hf))
  have hbn : Hid (w.heap.size ≠ b) := Lib.hid (Nat.ne_of_gt h.lt)
  have M1 := Lib.hid (Mod.of (F := HM F b) b1)
  have r1 := box_range n1
  have HN1 := Lib.hid n1
  have HLEN := Lib.hid hy
  have hwl : IntKind.u64.wrap (lost + 1) = lost + 1 := wrapu64 (Int.add_nonneg hlo.1 (by decide)) (Int.lt_trans (Int.add_lt_add_right hlo.2 1) (by decide))
  clear h hl he hlo hy hev n1 b1
  go_enter Try.func45, Try.ntmps45
  go_wp2_with (first | ((with_reducible refine gate_dst (N := 7) rfl ?_); refine wpList_load_mid rfl 60 (.tmp 3) rfl w.heap.size 0 rfl (cells x) _ r1 Try.underlying60 rfl (size23 x) ?_) | fail)
  refine C.mono ?_
  rintro e w3 ⟨rfl, H3, m3⟩
  have M3 := Lib.hid (M1.out.trans m3 (fun _ h => .inl h))
  have n3 : w3.heap[w.heap.size]? = some (.cells (cells x).toArray 60 (0, 0)) := (m3.block w.heap.size (blk_lt HN1.out) (fun hh => hh.elim hbn.out hgs.out)).trans HN1.out
  obtain ⟨v3, k3, q3⟩ := H3.at_
  have y0 : w3.cell? ⟨b, 0, none⟩ = some (.int .i64 n.room) := blk_cell k3 0
  have y2 : w3.cell? ⟨b, 2, none⟩ = some (.bool n.newest) := blk_cell k3 2
  have y3 : w3.cell? ⟨b, 3, none⟩ = some v3 := blk_cell k3 3
  have y4 : w3.cell? ⟨b, 4, none⟩ = some (.int .u64 lost) := blk_cell k3 4
  have z4 := blk_frozen k3 4
  obtain ⟨A3, c3, rfl, _, _⟩ := q3.slice
  have Q3 := Lib.hid q3
  have K3 := Lib.hid k3
  clear C r1 m3 q3 k3 M1
  have H5 : QS w3.drew F b n lost ev1 ys := H3.below (below_drew (Below.refl _ _))
  have M5 : Hid (Mod (HM F b) w w3.drew) := Lib.hid M3.out.drew
  have n5 : w3.drew.heap[w.heap.size]? = some (.cells (cells x).toArray 60 (0, 0)) := n3
  clear H3 M3 n3 K3 Q3 y2 y4 z4
  go_wp2_with fail
  refine Reg.wp_plan (S := fun w' => w'.cell? ⟨b, 0, none⟩ = some (.int .i64 n.room) ∧ w'.cell? ⟨b, 3, none⟩ = some (.slice A3 ys.length c3)) 10 (.fl 0 (.fl 1 (.fl 2 (.fl 3 (.fl 4 (.fl 5 (.fl 6 (.fl 7 (.fl 8 (.fl 9 .done)))))))))) (by kernel_rfl) (by kernel_rfl) (by kernel_rfl) (by kernel_rfl) (fun _ _ _ d _ h => by cases d <;> exact h) ?_ (fun hHeld => ?_)
  · exact ⟨y0, y3⟩
  refine Reg.G_on (o := { dst := some 9, op := Op.move (Operand.tmp 0), type := 81, pos := "ring.go:57", after := #[], guard := Option.none }) (v := ?_) (by rfl) ?_ (fun wS hSw => ?_) ?_
  rotate_left
  · kernel_rfl
  · (try dsimp only at hSw); go_simp; (try with_reducible rfl)
  try simp only [Act.put, List.setIfInBounds_toArray, List.set_cons_zero, List.set_cons_succ]
  refine Reg.G_on (o := { dst := some 10, op := Op.nilCheck (Operand.tmp 9), type := 0, pos := "ring.go:57", after := #[{ on := 0, ground := Ground.data }], guard := Option.none }) (v := ?_) (by rfl) ?_ (fun wS hSw => ?_) ?_
  rotate_left
  · kernel_rfl
  · (try dsimp only at hSw); go_simp; (try with_reducible rfl)
  try simp only [Act.put, List.setIfInBounds_toArray, List.set_cons_zero, List.set_cons_succ]
  refine Reg.G_on (o := { dst := some 11, op := Op.fieldAddr 97 (Operand.tmp 10) 3, type := 0, pos := "ring.go:57", after := #[{ on := 1, ground := Ground.data }], guard := Option.none }) (v := ?_) (by rfl) ?_ (fun wS hSw => ?_) ?_
  rotate_left
  · kernel_rfl
  · (try dsimp only at hSw); go_simp; (try with_reducible rfl)
  try simp only [Act.put, List.setIfInBounds_toArray, List.set_cons_zero, List.set_cons_succ]
  refine Reg.G_on (o := { dst := some 12, op := Op.load 56 (Operand.tmp 11), type := 56, pos := "ring.go:57", after := #[{ on := 2, ground := Ground.data }], guard := Option.none }) (v := ?_) (by rfl) ?_ (fun wS hSw => ?_) ?_
  rotate_left
  · kernel_rfl
  · (try dsimp only at hSw); go_simp; (try with_reducible rfl)
  try simp only [Act.put, List.setIfInBounds_toArray, List.set_cons_zero, List.set_cons_succ]
  refine Reg.G_on (o := { dst := some 13, op := Op.call { callee := Callee.builtin Builtin.len, args := #[Operand.tmp 12], argTypes := #[56] }, type := 3, pos := "ring.go:57", after := #[{ on := 3, ground := Ground.data }], guard := Option.none }) (v := ?_) (by rfl) ?_ (fun wS hSw => ?_) ?_
  rotate_left
  · kernel_rfl
  · (try dsimp only at hSw); go_simp; (try with_reducible rfl)
  try simp only [Act.put, List.setIfInBounds_toArray, List.set_cons_zero, List.set_cons_succ]
  refine Reg.G_on (o := { dst := some 14, op := Op.move (Operand.tmp 0), type := 81, pos := "ring.go:57", after := #[], guard := Option.none }) (v := ?_) (by rfl) ?_ (fun wS hSw => ?_) ?_
  rotate_left
  · kernel_rfl
  · (try dsimp only at hSw); go_simp; (try with_reducible rfl)
  try simp only [Act.put, List.setIfInBounds_toArray, List.set_cons_zero, List.set_cons_succ]
  refine Reg.G_on (o := { dst := some 15, op := Op.nilCheck (Operand.tmp 14), type := 0, pos := "ring.go:57", after := #[{ on := 5, ground := Ground.data }], guard := Option.none }) (v := ?_) (by rfl) ?_ (fun wS hSw => ?_) ?_
  rotate_left
  · kernel_rfl
  · (try dsimp only at hSw); go_simp; (try with_reducible rfl)
  try simp only [Act.put, List.setIfInBounds_toArray, List.set_cons_zero, List.set_cons_succ]
  refine Reg.G_on (o := { dst := some 16, op := Op.fieldAddr 97 (Operand.tmp 15) 0, type := 0, pos := "ring.go:57", after := #[{ on := 6, ground := Ground.data }], guard := Option.none }) (v := ?_) (by rfl) ?_ (fun wS hSw => ?_) ?_
  rotate_left
  · kernel_rfl
  · (try dsimp only at hSw); go_simp; (try with_reducible rfl)
  try simp only [Act.put, List.setIfInBounds_toArray, List.set_cons_zero, List.set_cons_succ]
  refine Reg.G_on (o := { dst := some 17, op := Op.load 3 (Operand.tmp 16), type := 3, pos := "ring.go:57", after := #[{ on := 7, ground := Ground.data }], guard := Option.none }) (v := ?_) (by rfl) ?_ (fun wS hSw => ?_) ?_
  rotate_left
  · kernel_rfl
  · (try dsimp only at hSw); go_simp; (try with_reducible rfl)
  try simp only [Act.put, List.setIfInBounds_toArray, List.set_cons_zero, List.set_cons_succ]
  refine Reg.G_on (o := { dst := some 18, op := Op.binOp BinOp.geq 3 (Operand.tmp 13) (Operand.tmp 17) 3, type := 4, pos := "ring.go:57", after := #[{ on := 4, ground := Ground.data }, { on := 8, ground := Ground.data }], guard := Option.none }) (v := ?_) (by rfl) ?_ (fun wS hSw => ?_) ?_
  rotate_left
  · kernel_rfl
  · (try dsimp only at hSw); go_simp; (try with_reducible rfl)
  try simp only [Act.put, List.setIfInBounds_toArray, List.set_cons_zero, List.set_cons_succ]
  refine Reg.G_done ?_
  clear hHeld
  go_wp2
  obtain ⟨v5, h5, r5⟩ := H5.at_
  have y5 : w3.drew.cell? ⟨b, 3, none⟩ = some v5 := blk_cell h5 3
  obtain ⟨v7, w7, hrun, r7, g7, s7⟩ := (show Row w3.drew.drew F v5 ys from r5).append H5.old x HLEN.out 56
  have hown := r5.own
  obtain ⟨A5, c5, rfl, _, _⟩ := r5.slice
  have n7 := blk_grown (w := w3.drew.drew) n5 g7 (fun e => by have h9 := (hown _ e.symm).1; exact hgs.out h9)
  have k7 := blk_grown (w := w3.drew.drew) h5 g7 (fun e => by have h9 := (hown _ e.symm).1; exact H5.off h9)
  have y7 : w7.cell? ⟨b, 3, none⟩ = some (.slice A5 ys.length c5) := blk_cell k7 3
  have z7 := blk_frozen k7 3
  have HX : Hid (QS (w7.setCell ⟨b, 3, none⟩ v7) (fun k => F k ∨ (w.heap.size ≤ k ∧ k < w7.heap.size ∧ k ≠ b)) b n lost ev1 (ys ++ [x]) ∧ Mod (HM F b) w (w7.setCell ⟨b, 3, none⟩ v7)) := Lib.hid (by
    have hbl := blk_lt h5
    have hds : w3.drew.drew.heap.size = w3.drew.heap.size := rfl
    have hFm : ∀ k, (F k ∨ (w3.drew.drew.heap.size ≤ k ∧ k < w7.heap.size)) → (F k ∨ (w.heap.size ≤ k ∧ k < w7.heap.size ∧ k ≠ b)) := fun k hk => hk.imp id (fun hh => ⟨Nat.le_trans M5.out.size (hds ▸ hh.1), hh.2, fun e => by subst e; exact Nat.lt_irrefl _ (Nat.lt_of_lt_of_le hbl (hds ▸ hh.1))⟩)
    have hoff : ¬ (F b ∨ (w.heap.size ≤ b ∧ b < w7.heap.size ∧ b ≠ b)) := fun hh => hh.elim H5.off (fun hh => hh.2.2 rfl)
    refine ⟨⟨⟨v7, blk_put k7 3 v7 rfl, (r7.mono hFm).set (a := ⟨b, 3, none⟩) hoff v7⟩, hoff, fun k hk => ?_, H5.r0, H5.d0, H5.rm, H5.dm⟩, ?_⟩
    · have : (w7.setCell ⟨b, 3, none⟩ v7).heap.size = w7.heap.size := by simp [World.setCell]
      rw [this]
      rcases hk with hk | hk
      · exact Nat.lt_of_lt_of_le (H5.old k hk) (Nat.le_trans (Nat.le_of_eq hds.symm) (Nat.le_of_lt s7))
      · exact hk.2.1
    · exact ((M5.out.drew).grown g7 (fun k hk => .inl (.inr (hown k hk).1))).set (p := ⟨b, 3, none⟩) (.inl (.inl rfl)) v7)
  obtain ⟨A7, c7, rfl, _, _⟩ := r7.slice
  rw [List.length_append, List.length_singleton] at HX hrun
  clear h5 r5 r7 g7 s7 hown k7 H5
  refine Reg.wp_plan (S := fun w' => w'.heap[w.heap.size]? = some (.cells (cells x).toArray 60 (0, 0)) ∧ w'.cell? ⟨b, 3, none⟩ = some (.slice A5 ys.length c5)) 10 (.fl 0 (.fl 1 (.fl 2 (.fl 3 (.fl 4 (.fl 5 (.one 6 (.one 7 (.fl 8 (.fl 9 (.one 10 .done))))))))))) (by kernel_rfl) (by kernel_rfl) (by kernel_rfl) (by kernel_rfl) (fun _ _ _ d _ h => by cases d <;> exact h) ?_ (fun hHeld => ?_)
  · exact ⟨n5, y5⟩
  refine Reg.G_on (o := { dst := some 45, op := Op.move (Operand.tmp 0), type := 81, pos := "ring.go:64", after := #[], guard := Option.none }) (v := ?_) (by rfl) ?_ (fun wS hSw => ?_) ?_
  rotate_left
  · kernel_rfl
  · (try dsimp only at hSw); go_simp; (try with_reducible rfl)
  try simp only [Act.put, List.setIfInBounds_toArray, List.set_cons_zero, List.set_cons_succ]
  refine Reg.G_on (o := { dst := some 46, op := Op.move (Operand.tmp 0), type := 81, pos := "ring.go:64", after := #[], guard := Option.none }) (v := ?_) (by rfl) ?_ (fun wS hSw => ?_) ?_
  rotate_left
  · kernel_rfl
  · (try dsimp only at hSw); go_simp; (try with_reducible rfl)
  try simp only [Act.put, List.setIfInBounds_toArray, List.set_cons_zero, List.set_cons_succ]
  refine Reg.G_on (o := { dst := some 47, op := Op.nilCheck (Operand.tmp 46), type := 0, pos := "ring.go:64", after := #[{ on := 1, ground := Ground.data }], guard := Option.none }) (v := ?_) (by rfl) ?_ (fun wS hSw => ?_) ?_
  rotate_left
  · kernel_rfl
  · (try dsimp only at hSw); go_simp; (try with_reducible rfl)
  try simp only [Act.put, List.setIfInBounds_toArray, List.set_cons_zero, List.set_cons_succ]
  refine Reg.G_on (o := { dst := some 48, op := Op.fieldAddr 97 (Operand.tmp 47) 3, type := 0, pos := "ring.go:64", after := #[{ on := 2, ground := Ground.data }], guard := Option.none }) (v := ?_) (by rfl) ?_ (fun wS hSw => ?_) ?_
  rotate_left
  · kernel_rfl
  · (try dsimp only at hSw); go_simp; (try with_reducible rfl)
  try simp only [Act.put, List.setIfInBounds_toArray, List.set_cons_zero, List.set_cons_succ]
  refine Reg.G_on (o := { dst := some 49, op := Op.load 56 (Operand.tmp 48), type := 56, pos := "ring.go:64", after := #[{ on := 3, ground := Ground.data }], guard := Option.none }) (v := ?_) (by rfl) ?_ (fun wS hSw => ?_) ?_
  rotate_left
  · kernel_rfl
  · (try dsimp only at hSw); go_simp; (try with_reducible rfl)
  try simp only [Act.put, List.setIfInBounds_toArray, List.set_cons_zero, List.set_cons_succ]
  refine Reg.G_on (o := { dst := some 50, op := Op.load 60 (Operand.tmp 3), type := 60, pos := "ring.go:64", after := #[], guard := Option.none }) (v := .agg (cells x).toArray) (by rfl) ?_ (fun wS hSw => ?_) ?_
  · kernel_rfl
  · exact load_yields rfl rfl (box_range hSw.1) Try.underlying60 rfl (size23 x)
  try simp only [Act.put, List.setIfInBounds_toArray, List.set_cons_zero, List.set_cons_succ]
  refine Reg.G_step (o := { dst := some 51, op := Op.buildSlice 56 1 #[(0, Operand.tmp 50)], type := 56, pos := "ring.go:64", after := #[{ on := 5, ground := Ground.data }], guard := Option.none }) (by rfl) ?_ (fun K hK => ?_)
  · kernel_rfl
  refine build1 (x := x) rfl rfl ?_
  refine hK.out _ _ ?_ (fun hHeld => ?_)
  · exact ⟨blk_alloc n5 _, cnew y5⟩
  clear hK K
  try simp only [Act.put, List.setIfInBounds_toArray, List.set_cons_zero, List.set_cons_succ]
  refine Reg.G_step (o := { dst := some 52, op := Op.call { callee := Callee.builtin Builtin.append, args := #[Operand.tmp 49, Operand.tmp 51], argTypes := #[56, 56] }, type := 56, pos := "ring.go:64", after := #[{ on := 4, ground := Ground.data }, { on := 6, ground := Ground.data }], guard := Option.none }) (by rfl) ?_ (fun K hK => ?_)
  · kernel_rfl
  refine op_append (.tmp 49) (.tmp 51) 56 rfl rfl rfl hrun ?_
  refine hK.out _ _ ?_ (fun hHeld => ?_)
  · exact ⟨n7, y7⟩
  clear hK K
  try simp only [Act.put, List.setIfInBounds_toArray, List.set_cons_zero, List.set_cons_succ]
  refine Reg.G_on (o := { dst := some 53, op := Op.nilCheck (Operand.tmp 45), type := 0, pos := "ring.go:64", after := #[{ on := 0, ground := Ground.data }, { on := 0, ground := Ground.phase }, { on := 1, ground := Ground.phase }, { on := 2, ground := Ground.phase }, { on := 3, ground := Ground.phase }, { on := 4, ground := Ground.phase }, { on := 5, ground := Ground.phase }, { on := 6, ground := Ground.phase }, { on := 7, ground := Ground.phase }], guard := Option.none }) (v := ?_) (by rfl) ?_ (fun wS hSw => ?_) ?_
  rotate_left
  · kernel_rfl
  · (try dsimp only at hSw); go_simp; (try with_reducible rfl)
  try simp only [Act.put, List.setIfInBounds_toArray, List.set_cons_zero, List.set_cons_succ]
  refine Reg.G_on (o := { dst := some 54, op := Op.fieldAddr 97 (Operand.tmp 53) 3, type := 0, pos := "ring.go:64", after := #[{ on := 8, ground := Ground.data }, { on := 0, ground := Ground.phase }, { on := 1, ground := Ground.phase }, { on := 2, ground := Ground.phase }, { on := 3, ground := Ground.phase }, { on := 4, ground := Ground.phase }, { on := 5, ground := Ground.phase }, { on := 6, ground := Ground.phase }, { on := 7, ground := Ground.phase }], guard := Option.none }) (v := ?_) (by rfl) ?_ (fun wS hSw => ?_) ?_
  rotate_left
  · kernel_rfl
  · (try dsimp only at hSw); go_simp; (try with_reducible rfl)
  try simp only [Act.put, List.setIfInBounds_toArray, List.set_cons_zero, List.set_cons_succ]
  clear hHeld
  refine Reg.G_last (o := { dst := Option.none, op := Op.store 56 (Operand.tmp 54) (Operand.tmp 52), type := 0, pos := "ring.go:64", after := #[{ on := 9, ground := Ground.data }, { on := 7, ground := Ground.data }, { on := 7, ground := Ground.chain }, { on := 0, ground := Ground.phase }, { on := 1, ground := Ground.phase }, { on := 2, ground := Ground.phase }, { on := 3, ground := Ground.phase }, { on := 4, ground := Ground.phase }, { on := 5, ground := Ground.phase }, { on := 6, ground := Ground.phase }, { on := 7, ground := Ground.phase }], guard := Option.none }) (by rfl) (by rfl) ?_ (fun K hK => ?_)
  · kernel_rfl
  go_simp
  refine hK.out _ _ ?_
  clear hK K
  try simp only [Act.put, List.setIfInBounds_toArray, List.set_cons_zero, List.set_cons_succ]
  go_wp2
  go_end0
  exact ⟨rfl, _, HX.out.1, fun k hk => Or.imp id (fun hh => hh.1) hk, HX.out.2⟩
set_option maxHeartbeats 2000000 in
set_option maxRecDepth 20000 in
theorem push_a {w : World} {F : Nat → Prop} {b : Nat} {n : Qn} {lost ev ev1 : Int} {xs ys : List Smp} (h : QS w F b n lost ev xs) (x : Smp) (hl : xs.length * 80 ≤ 140737488355328) (he : 0 ≤ ev ∧ ev < 1000000000) (hlo : 0 ≤ lost ∧ lost < 1000000000) (hy : (ys.length + 1) * 80 ≤ 140737488355328)
    (hev : evm n.depth xs ev x = (ys, ev1)) (hr : n.room ≤ (ys.length : Int)) (hn : n.newest = true) :
    Calls Try.prog 45 #[.pointer (some ⟨b, 0, none⟩), .agg (cells x).toArray] w fun e w' => e = .returned (.tuple #[]) ∧ ∃ F', QS w' F' b n (lost + 1) ev1 ys ∧ Grow F F' w ∧ Mod (HM F b) w w' := by
  have b1 : Below w.heap.size w (w.alloc (.cells (cells x).toArray 60)) := (Below.refl _ _).alloc (Nat.le_refl _) _
  have n1 := heap_alloc_new w (.cells (cells x).toArray 60)
  have C := evict (h.below b1) x hl he
  rw [hev] at C
  dsimp only at C
  have hgs : Hid (¬ F w.heap.size) := Lib.hid (fun hf => Nat.lt_irrefl _ (h.old _ hf))
  have hbn : Hid (w.heap.size ≠ b) := Lib.hid (Nat.ne_of_gt h.lt)
  have M1 := Lib.hid (Mod.of (F := HM F b) b1)
  have r1 := box_range n1
  have HN1 := Lib.hid n1
  have HLEN := Lib.hid hy
  have hwl : IntKind.u64.wrap (lost + 1) = lost + 1 := wrapu64 (Int.add_nonneg hlo.1 (by decide)) (Int.lt_trans (Int.add_lt_add_right hlo.2 1) (by decide))
  clear h hl he hlo hy hev n1 b1
  go_enter Try.func45, Try.ntmps45
  go_wp2_with (first | ((with_reducible refine gate_dst (N := 7) rfl ?_); refine wpList_load_mid rfl 60 (.tmp 3) rfl w.heap.size 0 rfl (cells x) _ r1 Try.underlying60 rfl (size23 x) ?_) | fail)
  refine C.mono ?_
  rintro e w3 ⟨rfl, H3, m3⟩
  have M3 := Lib.hid (M1.out.trans m3 (fun _ h => .inl h))
  have n3 : w3.heap[w.heap.size]? = some (.cells (cells x).toArray 60 (0, 0)) := (m3.block w.heap.size (blk_lt HN1.out) (fun hh => hh.elim hbn.out hgs.out)).trans HN1.out
  obtain ⟨v3, k3, q3⟩ := H3.at_
  have y0 : w3.cell? ⟨b, 0, none⟩ = some (.int .i64 n.room) := blk_cell k3 0
  have y2 : w3.cell? ⟨b, 2, none⟩ = some (.bool n.newest) := blk_cell k3 2
  have y3 : w3.cell? ⟨b, 3, none⟩ = some v3 := blk_cell k3 3
  have y4 : w3.cell? ⟨b, 4, none⟩ = some (.int .u64 lost) := blk_cell k3 4
  have z4 := blk_frozen k3 4
  obtain ⟨A3, c3, rfl, _, _⟩ := q3.slice
  have Q3 := Lib.hid q3
  have K3 := Lib.hid k3
  clear C r1 m3 q3 k3 M1
  have HS := Lib.hid ((H3.below (below_drew (Below.refl _ _))).lost_ (lost + 1))
  have M5 := Lib.hid (M3.out.drew.trans HS.out.2 (fun _ h => .inl h))
  rw [hn] at y2
  generalize n.room = rm at y0 hr
  clear H3 M3 n3 K3 Q3
  go_wp2_with fail
  refine Reg.wp_plan (S := fun w' => w'.cell? ⟨b, 0, none⟩ = some (.int .i64 rm) ∧ w'.cell? ⟨b, 3, none⟩ = some (.slice A3 ys.length c3)) 10 (.fl 0 (.fl 1 (.fl 2 (.fl 3 (.fl 4 (.fl 5 (.fl 6 (.fl 7 (.fl 8 (.fl 9 .done)))))))))) (by kernel_rfl) (by kernel_rfl) (by kernel_rfl) (by kernel_rfl) (fun _ _ _ d _ h => by cases d <;> exact h) ?_ (fun hHeld => ?_)
  · exact ⟨y0, y3⟩
  refine Reg.G_on (o := { dst := some 9, op := Op.move (Operand.tmp 0), type := 81, pos := "ring.go:57", after := #[], guard := Option.none }) (v := ?_) (by rfl) ?_ (fun wS hSw => ?_) ?_
  rotate_left
  · kernel_rfl
  · (try dsimp only at hSw); go_simp; (try with_reducible rfl)
  try simp only [Act.put, List.setIfInBounds_toArray, List.set_cons_zero, List.set_cons_succ]
  refine Reg.G_on (o := { dst := some 10, op := Op.nilCheck (Operand.tmp 9), type := 0, pos := "ring.go:57", after := #[{ on := 0, ground := Ground.data }], guard := Option.none }) (v := ?_) (by rfl) ?_ (fun wS hSw => ?_) ?_
  rotate_left
  · kernel_rfl
  · (try dsimp only at hSw); go_simp; (try with_reducible rfl)
  try simp only [Act.put, List.setIfInBounds_toArray, List.set_cons_zero, List.set_cons_succ]
  refine Reg.G_on (o := { dst := some 11, op := Op.fieldAddr 97 (Operand.tmp 10) 3, type := 0, pos := "ring.go:57", after := #[{ on := 1, ground := Ground.data }], guard := Option.none }) (v := ?_) (by rfl) ?_ (fun wS hSw => ?_) ?_
  rotate_left
  · kernel_rfl
  · (try dsimp only at hSw); go_simp; (try with_reducible rfl)
  try simp only [Act.put, List.setIfInBounds_toArray, List.set_cons_zero, List.set_cons_succ]
  refine Reg.G_on (o := { dst := some 12, op := Op.load 56 (Operand.tmp 11), type := 56, pos := "ring.go:57", after := #[{ on := 2, ground := Ground.data }], guard := Option.none }) (v := ?_) (by rfl) ?_ (fun wS hSw => ?_) ?_
  rotate_left
  · kernel_rfl
  · (try dsimp only at hSw); go_simp; (try with_reducible rfl)
  try simp only [Act.put, List.setIfInBounds_toArray, List.set_cons_zero, List.set_cons_succ]
  refine Reg.G_on (o := { dst := some 13, op := Op.call { callee := Callee.builtin Builtin.len, args := #[Operand.tmp 12], argTypes := #[56] }, type := 3, pos := "ring.go:57", after := #[{ on := 3, ground := Ground.data }], guard := Option.none }) (v := ?_) (by rfl) ?_ (fun wS hSw => ?_) ?_
  rotate_left
  · kernel_rfl
  · (try dsimp only at hSw); go_simp; (try with_reducible rfl)
  try simp only [Act.put, List.setIfInBounds_toArray, List.set_cons_zero, List.set_cons_succ]
  refine Reg.G_on (o := { dst := some 14, op := Op.move (Operand.tmp 0), type := 81, pos := "ring.go:57", after := #[], guard := Option.none }) (v := ?_) (by rfl) ?_ (fun wS hSw => ?_) ?_
  rotate_left
  · kernel_rfl
  · (try dsimp only at hSw); go_simp; (try with_reducible rfl)
  try simp only [Act.put, List.setIfInBounds_toArray, List.set_cons_zero, List.set_cons_succ]
  refine Reg.G_on (o := { dst := some 15, op := Op.nilCheck (Operand.tmp 14), type := 0, pos := "ring.go:57", after := #[{ on := 5, ground := Ground.data }], guard := Option.none }) (v := ?_) (by rfl) ?_ (fun wS hSw => ?_) ?_
  rotate_left
  · kernel_rfl
  · (try dsimp only at hSw); go_simp; (try with_reducible rfl)
  try simp only [Act.put, List.setIfInBounds_toArray, List.set_cons_zero, List.set_cons_succ]
  refine Reg.G_on (o := { dst := some 16, op := Op.fieldAddr 97 (Operand.tmp 15) 0, type := 0, pos := "ring.go:57", after := #[{ on := 6, ground := Ground.data }], guard := Option.none }) (v := ?_) (by rfl) ?_ (fun wS hSw => ?_) ?_
  rotate_left
  · kernel_rfl
  · (try dsimp only at hSw); go_simp; (try with_reducible rfl)
  try simp only [Act.put, List.setIfInBounds_toArray, List.set_cons_zero, List.set_cons_succ]
  refine Reg.G_on (o := { dst := some 17, op := Op.load 3 (Operand.tmp 16), type := 3, pos := "ring.go:57", after := #[{ on := 7, ground := Ground.data }], guard := Option.none }) (v := ?_) (by rfl) ?_ (fun wS hSw => ?_) ?_
  rotate_left
  · kernel_rfl
  · (try dsimp only at hSw); go_simp; (try with_reducible rfl)
  try simp only [Act.put, List.setIfInBounds_toArray, List.set_cons_zero, List.set_cons_succ]
  refine Reg.G_on (o := { dst := some 18, op := Op.binOp BinOp.geq 3 (Operand.tmp 13) (Operand.tmp 17) 3, type := 4, pos := "ring.go:57", after := #[{ on := 4, ground := Ground.data }, { on := 8, ground := Ground.data }], guard := Option.none }) (v := ?_) (by rfl) ?_ (fun wS hSw => ?_) ?_
  rotate_left
  · kernel_rfl
  · (try dsimp only at hSw); go_simp; (try with_reducible rfl)
  try simp only [Act.put, List.setIfInBounds_toArray, List.set_cons_zero, List.set_cons_succ]
  refine Reg.G_done ?_
  clear hHeld
  go_wp2
  refine bodyPost_ret (results_none rfl _ _ _) rfl ?_
  exact ⟨rfl, _, HS.out.1, fun k hk => .inl hk, M5.out⟩
set_option maxHeartbeats 2000000 in
set_option maxRecDepth 20000 in
theorem push_b {w : World} {F : Nat → Prop} {b : Nat} {n : Qn} {lost ev ev1 : Int} {xs ys : List Smp} (h : QS w F b n lost ev xs) (x : Smp) (hl : xs.length * 80 ≤ 140737488355328) (he : 0 ≤ ev ∧ ev < 1000000000) (hlo : 0 ≤ lost ∧ lost < 1000000000) (hy : (ys.length + 1) * 80 ≤ 140737488355328)
    (hev : evm n.depth xs ev x = (ys, ev1)) (hr : n.room ≤ (ys.length : Int)) (hn : n.newest = false) (h0 : n.room = 0) :
    Calls Try.prog 45 #[.pointer (some ⟨b, 0, none⟩), .agg (cells x).toArray] w fun e w' => e = .returned (.tuple #[]) ∧ ∃ F', QS w' F' b n (lost + 1) ev1 ys ∧ Grow F F' w ∧ Mod (HM F b) w w' := by
  have b1 : Below w.heap.size w (w.alloc (.cells (cells x).toArray 60)) := (Below.refl _ _).alloc (Nat.le_refl _) _
  have n1 := heap_alloc_new w (.cells (cells x).toArray 60)
  have C := evict (h.below b1) x hl he
  rw [hev] at C
  dsimp only at C
  have hgs : Hid (¬ F w.heap.size) := Lib.hid (fun hf => Nat.lt_irrefl _ (h.old _ hf))
  have hbn : Hid (w.heap.size ≠ b) := Lib.hid (Nat.ne_of_gt h.lt)
  have M1 := Lib.hid (Mod.of (F := HM F b) b1)
  have r1 := box_range n1
  have HN1 := Lib.hid n1
  have HLEN := Lib.hid hy
  have hwl : IntKind.u64.wrap (lost + 1) = lost + 1 := wrapu64 (Int.add_nonneg hlo.1 (by decide)) (Int.lt_trans (Int.add_lt_add_right hlo.2 1) (by decide))
  clear h hl he hlo hy hev n1 b1
  go_enter Try.func45, Try.ntmps45
  go_wp2_with (first | ((with_reducible refine gate_dst (N := 7) rfl ?_); refine wpList_load_mid rfl 60 (.tmp 3) rfl w.heap.size 0 rfl (cells x) _ r1 Try.underlying60 rfl (size23 x) ?_) | fail)
  refine C.mono ?_
  rintro e w3 ⟨rfl, H3, m3⟩
  have M3 := Lib.hid (M1.out.trans m3 (fun _ h => .inl h))
  have n3 : w3.heap[w.heap.size]? = some (.cells (cells x).toArray 60 (0, 0)) := (m3.block w.heap.size (blk_lt HN1.out) (fun hh => hh.elim hbn.out hgs.out)).trans HN1.out
  obtain ⟨v3, k3, q3⟩ := H3.at_
  have y0 : w3.cell? ⟨b, 0, none⟩ = some (.int .i64 n.room) := blk_cell k3 0
  have y2 : w3.cell? ⟨b, 2, none⟩ = some (.bool n.newest) := blk_cell k3 2
  have y3 : w3.cell? ⟨b, 3, none⟩ = some v3 := blk_cell k3 3
  have y4 : w3.cell? ⟨b, 4, none⟩ = some (.int .u64 lost) := blk_cell k3 4
  have z4 := blk_frozen k3 4
  obtain ⟨A3, c3, rfl, _, _⟩ := q3.slice
  have Q3 := Lib.hid q3
  have K3 := Lib.hid k3
  clear C r1 m3 q3 k3 M1
  have HS := Lib.hid ((H3.below (below_drew (Below.refl _ _))).lost_ (lost + 1))
  have M5 := Lib.hid (M3.out.drew.trans HS.out.2 (fun _ h => .inl h))
  rw [hn] at y2
  rw [h0] at y0 hr
  clear H3 M3 n3 K3 Q3 hn h0
  go_wp2_with fail
  refine Reg.wp_plan (S := fun w' => w'.cell? ⟨b, 0, none⟩ = some (.int .i64 0) ∧ w'.cell? ⟨b, 3, none⟩ = some (.slice A3 ys.length c3)) 10 (.fl 0 (.fl 1 (.fl 2 (.fl 3 (.fl 4 (.fl 5 (.fl 6 (.fl 7 (.fl 8 (.fl 9 .done)))))))))) (by kernel_rfl) (by kernel_rfl) (by kernel_rfl) (by kernel_rfl) (fun _ _ _ d _ h => by cases d <;> exact h) ?_ (fun hHeld => ?_)
  · exact ⟨y0, y3⟩
  refine Reg.G_on (o := { dst := some 9, op := Op.move (Operand.tmp 0), type := 81, pos := "ring.go:57", after := #[], guard := Option.none }) (v := ?_) (by rfl) ?_ (fun wS hSw => ?_) ?_
  rotate_left
  · kernel_rfl
  · (try dsimp only at hSw); go_simp; (try with_reducible rfl)
  try simp only [Act.put, List.setIfInBounds_toArray, List.set_cons_zero, List.set_cons_succ]
  refine Reg.G_on (o := { dst := some 10, op := Op.nilCheck (Operand.tmp 9), type := 0, pos := "ring.go:57", after := #[{ on := 0, ground := Ground.data }], guard := Option.none }) (v := ?_) (by rfl) ?_ (fun wS hSw => ?_) ?_
  rotate_left
  · kernel_rfl
  · (try dsimp only at hSw); go_simp; (try with_reducible rfl)
  try simp only [Act.put, List.setIfInBounds_toArray, List.set_cons_zero, List.set_cons_succ]
  refine Reg.G_on (o := { dst := some 11, op := Op.fieldAddr 97 (Operand.tmp 10) 3, type := 0, pos := "ring.go:57", after := #[{ on := 1, ground := Ground.data }], guard := Option.none }) (v := ?_) (by rfl) ?_ (fun wS hSw => ?_) ?_
  rotate_left
  · kernel_rfl
  · (try dsimp only at hSw); go_simp; (try with_reducible rfl)
  try simp only [Act.put, List.setIfInBounds_toArray, List.set_cons_zero, List.set_cons_succ]
  refine Reg.G_on (o := { dst := some 12, op := Op.load 56 (Operand.tmp 11), type := 56, pos := "ring.go:57", after := #[{ on := 2, ground := Ground.data }], guard := Option.none }) (v := ?_) (by rfl) ?_ (fun wS hSw => ?_) ?_
  rotate_left
  · kernel_rfl
  · (try dsimp only at hSw); go_simp; (try with_reducible rfl)
  try simp only [Act.put, List.setIfInBounds_toArray, List.set_cons_zero, List.set_cons_succ]
  refine Reg.G_on (o := { dst := some 13, op := Op.call { callee := Callee.builtin Builtin.len, args := #[Operand.tmp 12], argTypes := #[56] }, type := 3, pos := "ring.go:57", after := #[{ on := 3, ground := Ground.data }], guard := Option.none }) (v := ?_) (by rfl) ?_ (fun wS hSw => ?_) ?_
  rotate_left
  · kernel_rfl
  · (try dsimp only at hSw); go_simp; (try with_reducible rfl)
  try simp only [Act.put, List.setIfInBounds_toArray, List.set_cons_zero, List.set_cons_succ]
  refine Reg.G_on (o := { dst := some 14, op := Op.move (Operand.tmp 0), type := 81, pos := "ring.go:57", after := #[], guard := Option.none }) (v := ?_) (by rfl) ?_ (fun wS hSw => ?_) ?_
  rotate_left
  · kernel_rfl
  · (try dsimp only at hSw); go_simp; (try with_reducible rfl)
  try simp only [Act.put, List.setIfInBounds_toArray, List.set_cons_zero, List.set_cons_succ]
  refine Reg.G_on (o := { dst := some 15, op := Op.nilCheck (Operand.tmp 14), type := 0, pos := "ring.go:57", after := #[{ on := 5, ground := Ground.data }], guard := Option.none }) (v := ?_) (by rfl) ?_ (fun wS hSw => ?_) ?_
  rotate_left
  · kernel_rfl
  · (try dsimp only at hSw); go_simp; (try with_reducible rfl)
  try simp only [Act.put, List.setIfInBounds_toArray, List.set_cons_zero, List.set_cons_succ]
  refine Reg.G_on (o := { dst := some 16, op := Op.fieldAddr 97 (Operand.tmp 15) 0, type := 0, pos := "ring.go:57", after := #[{ on := 6, ground := Ground.data }], guard := Option.none }) (v := ?_) (by rfl) ?_ (fun wS hSw => ?_) ?_
  rotate_left
  · kernel_rfl
  · (try dsimp only at hSw); go_simp; (try with_reducible rfl)
  try simp only [Act.put, List.setIfInBounds_toArray, List.set_cons_zero, List.set_cons_succ]
  refine Reg.G_on (o := { dst := some 17, op := Op.load 3 (Operand.tmp 16), type := 3, pos := "ring.go:57", after := #[{ on := 7, ground := Ground.data }], guard := Option.none }) (v := ?_) (by rfl) ?_ (fun wS hSw => ?_) ?_
  rotate_left
  · kernel_rfl
  · (try dsimp only at hSw); go_simp; (try with_reducible rfl)
  try simp only [Act.put, List.setIfInBounds_toArray, List.set_cons_zero, List.set_cons_succ]
  refine Reg.G_on (o := { dst := some 18, op := Op.binOp BinOp.geq 3 (Operand.tmp 13) (Operand.tmp 17) 3, type := 4, pos := "ring.go:57", after := #[{ on := 4, ground := Ground.data }, { on := 8, ground := Ground.data }], guard := Option.none }) (v := ?_) (by rfl) ?_ (fun wS hSw => ?_) ?_
  rotate_left
  · kernel_rfl
  · (try dsimp only at hSw); go_simp; (try with_reducible rfl)
  try simp only [Act.put, List.setIfInBounds_toArray, List.set_cons_zero, List.set_cons_succ]
  refine Reg.G_done ?_
  clear hHeld
  go_wp2
  refine bodyPost_ret (results_none rfl _ _ _) rfl ?_
  exact ⟨rfl, _, HS.out.1, fun k hk => .inl hk, M5.out⟩
set_option maxHeartbeats 2000000 in
set_option maxRecDepth 20000 in
theorem push_c {w : World} {F : Nat → Prop} {b : Nat} {n : Qn} {lost ev ev1 : Int} {xs ys : List Smp} (h : QS w F b n lost ev xs) (x : Smp) (hl : xs.length * 80 ≤ 140737488355328) (he : 0 ≤ ev ∧ ev < 1000000000) (hlo : 0 ≤ lost ∧ lost < 1000000000) (hy : (ys.length + 1) * 80 ≤ 140737488355328)
    (hev : evm n.depth xs ev x = (ys, ev1)) (hr : n.room ≤ (ys.length : Int)) (hn : n.newest = false) (h0 : 0 < n.room) {zs : List Smp} (hzs : ys.drop 1 = zs) :
    Calls Try.prog 45 #[.pointer (some ⟨b, 0, none⟩), .agg (cells x).toArray] w fun e w' => e = .returned (.tuple #[]) ∧ ∃ F', QS w' F' b n (lost + 1) ev1 (zs ++ [x]) ∧ Grow F F' w ∧ Mod (HM F b) w w' := by
  have b1 : Below w.heap.size w (w.alloc (.cells (cells x).toArray 60)) := (Below.refl _ _).alloc (Nat.le_refl _) _
  have n1 := heap_alloc_new w (.cells (cells x).toArray 60)
  have C := evict (h.below b1) x hl he
  rw [hev] at C
  dsimp only at C
  have hgs : Hid (¬ F w.heap.size) := Lib.hid (fun hf => Nat.lt_irrefl _ (h.old _ hf))
  have hbn : Hid (w.heap.size ≠ b) := Lib.hid (Nat.ne_of_gt h.lt)
  have M1 := Lib.hid (Mod.of (F := HM F b) b1)
  have r1 := box_range n1
  have HN1 := Lib.hid n1
  have HLEN := Lib.hid hy
  have hwl : IntKind.u64.wrap (lost + 1) = lost + 1 := wrapu64 (Int.add_nonneg hlo.1 (by decide)) (Int.lt_trans (Int.add_lt_add_right hlo.2 1) (by decide))
  clear h hl he hlo hy hev n1 b1
  go_enter Try.func45, Try.ntmps45
  go_wp2_with (first | ((with_reducible refine gate_dst (N := 7) rfl ?_); refine wpList_load_mid rfl 60 (.tmp 3) rfl w.heap.size 0 rfl (cells x) _ r1 Try.underlying60 rfl (size23 x) ?_) | fail)
  refine C.mono ?_
  rintro e w3 ⟨rfl, H3, m3⟩
  have M3 := Lib.hid (M1.out.trans m3 (fun _ h => .inl h))
  have n3 : w3.heap[w.heap.size]? = some (.cells (cells x).toArray 60 (0, 0)) := (m3.block w.heap.size (blk_lt HN1.out) (fun hh => hh.elim hbn.out hgs.out)).trans HN1.out
  obtain ⟨v3, k3, q3⟩ := H3.at_
  have y0 : w3.cell? ⟨b, 0, none⟩ = some (.int .i64 n.room) := blk_cell k3 0
  have y2 : w3.cell? ⟨b, 2, none⟩ = some (.bool n.newest) := blk_cell k3 2
  have y3 : w3.cell? ⟨b, 3, none⟩ = some v3 := blk_cell k3 3
  have y4 : w3.cell? ⟨b, 4, none⟩ = some (.int .u64 lost) := blk_cell k3 4
  have z4 := blk_frozen k3 4
  obtain ⟨A3, c3, rfl, _, _⟩ := q3.slice
  have Q3 := Lib.hid q3
  have K3 := Lib.hid k3
  clear C r1 m3 q3 k3 M1
  have HS := Lib.hid ((H3.below (below_drew (Below.refl _ _))).lost_ (lost + 1))
  have M5 := Lib.hid (M3.out.drew.trans HS.out.2 (fun _ h => .inl h))
  have hne : (n.room == 0) = false := beq_eq_false_iff_ne.2 (by omega)
  have hy1 : 1 ≤ ys.length := by omega
  rw [hn] at y2
  have q4 : Row (w3.setCell ⟨b, 4, none⟩ (.int .u64 (lost + 1))).drew F (.slice A3 ys.length c3) ys := (Q3.out.set (a := ⟨b, 4, none⟩) H3.off _).drew
  have K4 : (w3.setCell ⟨b, 4, none⟩ (.int .u64 (lost + 1))).drew.heap[b]? = _ := blk_put K3.out 4 (.int .u64 (lost + 1)) rfl
  have HK := Lib.hid K4
  have HO := Lib.hid (And.intro H3.off (And.intro (H3.lt) H3.old))
  have HN3 := Lib.hid n3
  have C3 : Calls Try.prog 79 #[.slice A3 ys.length c3, .int .i64 0, .int .i64 1] (w3.setCell ⟨b, 4, none⟩ (.int .u64 (lost + 1))).drew _ := delete_ q4 (i := 0) (j := 1) (by omega) hy1
  rw [List.take_zero, List.nil_append] at C3
  rw [hzs] at C3
  have HZ : Hid ((zs.length + 1) * 80 ≤ 140737488355328) := Lib.hid (by have := HLEN.out; rw [← hzs, List.length_drop]; omega)
  generalize n.room = rm at y0 hr hne
  clear H3 M3 n3 K3 Q3 hn h0 K4 q4 hy1 HLEN hzs
  go_wp2_with fail
  refine Reg.wp_plan (S := fun w' => w'.cell? ⟨b, 0, none⟩ = some (.int .i64 rm) ∧ w'.cell? ⟨b, 3, none⟩ = some (.slice A3 ys.length c3)) 10 (.fl 0 (.fl 1 (.fl 2 (.fl 3 (.fl 4 (.fl 5 (.fl 6 (.fl 7 (.fl 8 (.fl 9 .done)))))))))) (by kernel_rfl) (by kernel_rfl) (by kernel_rfl) (by kernel_rfl) (fun _ _ _ d _ h => by cases d <;> exact h) ?_ (fun hHeld => ?_)
  · exact ⟨y0, y3⟩
  refine Reg.G_on (o := { dst := some 9, op := Op.move (Operand.tmp 0), type := 81, pos := "ring.go:57", after := #[], guard := Option.none }) (v := ?_) (by rfl) ?_ (fun wS hSw => ?_) ?_
  rotate_left
  · kernel_rfl
  · (try dsimp only at hSw); go_simp; (try with_reducible rfl)
  try simp only [Act.put, List.setIfInBounds_toArray, List.set_cons_zero, List.set_cons_succ]
  refine Reg.G_on (o := { dst := some 10, op := Op.nilCheck (Operand.tmp 9), type := 0, pos := "ring.go:57", after := #[{ on := 0, ground := Ground.data }], guard := Option.none }) (v := ?_) (by rfl) ?_ (fun wS hSw => ?_) ?_
  rotate_left
  · kernel_rfl
  · (try dsimp only at hSw); go_simp; (try with_reducible rfl)
  try simp only [Act.put, List.setIfInBounds_toArray, List.set_cons_zero, List.set_cons_succ]
  refine Reg.G_on (o := { dst := some 11, op := Op.fieldAddr 97 (Operand.tmp 10) 3, type := 0, pos := "ring.go:57", after := #[{ on := 1, ground := Ground.data }], guard := Option.none }) (v := ?_) (by rfl) ?_ (fun wS hSw => ?_) ?_
  rotate_left
  · kernel_rfl
  · (try dsimp only at hSw); go_simp; (try with_reducible rfl)
  try simp only [Act.put, List.setIfInBounds_toArray, List.set_cons_zero, List.set_cons_succ]
  refine Reg.G_on (o := { dst := some 12, op := Op.load 56 (Operand.tmp 11), type := 56, pos := "ring.go:57", after := #[{ on := 2, ground := Ground.data }], guard := Option.none }) (v := ?_) (by rfl) ?_ (fun wS hSw => ?_) ?_
  rotate_left
  · kernel_rfl
  · (try dsimp only at hSw); go_simp; (try with_reducible rfl)
  try simp only [Act.put, List.setIfInBounds_toArray, List.set_cons_zero, List.set_cons_succ]
  refine Reg.G_on (o := { dst := some 13, op := Op.call { callee := Callee.builtin Builtin.len, args := #[Operand.tmp 12], argTypes := #[56] }, type := 3, pos := "ring.go:57", after := #[{ on := 3, ground := Ground.data }], guard := Option.none }) (v := ?_) (by rfl) ?_ (fun wS hSw => ?_) ?_
  rotate_left
  · kernel_rfl
  · (try dsimp only at hSw); go_simp; (try with_reducible rfl)
  try simp only [Act.put, List.setIfInBounds_toArray, List.set_cons_zero, List.set_cons_succ]
  refine Reg.G_on (o := { dst := some 14, op := Op.move (Operand.tmp 0), type := 81, pos := "ring.go:57", after := #[], guard := Option.none }) (v := ?_) (by rfl) ?_ (fun wS hSw => ?_) ?_
  rotate_left
  · kernel_rfl
  · (try dsimp only at hSw); go_simp; (try with_reducible rfl)
  try simp only [Act.put, List.setIfInBounds_toArray, List.set_cons_zero, List.set_cons_succ]
  refine Reg.G_on (o := { dst := some 15, op := Op.nilCheck (Operand.tmp 14), type := 0, pos := "ring.go:57", after := #[{ on := 5, ground := Ground.data }], guard := Option.none }) (v := ?_) (by rfl) ?_ (fun wS hSw => ?_) ?_
  rotate_left
  · kernel_rfl
  · (try dsimp only at hSw); go_simp; (try with_reducible rfl)
  try simp only [Act.put, List.setIfInBounds_toArray, List.set_cons_zero, List.set_cons_succ]
  refine Reg.G_on (o := { dst := some 16, op := Op.fieldAddr 97 (Operand.tmp 15) 0, type := 0, pos := "ring.go:57", after := #[{ on := 6, ground := Ground.data }], guard := Option.none }) (v := ?_) (by rfl) ?_ (fun wS hSw => ?_) ?_
  rotate_left
  · kernel_rfl
  · (try dsimp only at hSw); go_simp; (try with_reducible rfl)
  try simp only [Act.put, List.setIfInBounds_toArray, List.set_cons_zero, List.set_cons_succ]
  refine Reg.G_on (o := { dst := some 17, op := Op.load 3 (Operand.tmp 16), type := 3, pos := "ring.go:57", after := #[{ on := 7, ground := Ground.data }], guard := Option.none }) (v := ?_) (by rfl) ?_ (fun wS hSw => ?_) ?_
  rotate_left
  · kernel_rfl
  · (try dsimp only at hSw); go_simp; (try with_reducible rfl)
  try simp only [Act.put, List.setIfInBounds_toArray, List.set_cons_zero, List.set_cons_succ]
  refine Reg.G_on (o := { dst := some 18, op := Op.binOp BinOp.geq 3 (Operand.tmp 13) (Operand.tmp 17) 3, type := 4, pos := "ring.go:57", after := #[{ on := 4, ground := Ground.data }, { on := 8, ground := Ground.data }], guard := Option.none }) (v := ?_) (by rfl) ?_ (fun wS hSw => ?_) ?_
  rotate_left
  · kernel_rfl
  · (try dsimp only at hSw); go_simp; (try with_reducible rfl)
  try simp only [Act.put, List.setIfInBounds_toArray, List.set_cons_zero, List.set_cons_succ]
  refine Reg.G_done ?_
  clear hHeld
  go_wp2_with fail
  refine C3.mono ?_
  rintro e w4 ⟨v4, rfl, r4, m4⟩
  have H4 := (m4.block b (blk_lt HK.out) HO.out.1).trans HK.out
  have z3 := blk_frozen H4 3
  have y4b : w4.cell? ⟨b, 3, none⟩ = some (.slice A3 ys.length c3) := blk_cell H4 3
  have hS : QS (w4.setCell ⟨b, 3, none⟩ v4) F b n (lost + 1) ev1 zs ∧ Mod (HM F b) _ _ := QS.store (w := (w3.setCell ⟨b, 4, none⟩ (.int .u64 (lost + 1))).drew) HS.out.1 r4 HO.out.1 (fun k hk => Nat.lt_of_lt_of_le (HO.out.2.2 k hk) (Nat.le_trans (by simp) m4.size)) m4
  have M6 := M5.out.trans hS.2 (fun _ h => .inl h)
  have n6 := (hS.2.block w.heap.size (by have := blk_lt HN3.out; simpa using this) (fun hh => hh.elim hbn.out hgs.out)).trans (show (w3.setCell ⟨b, 4, none⟩ (.int .u64 (lost + 1))).drew.heap[w.heap.size]? = some (.cells (cells x).toArray 60 (0, 0)) from (Below.heap_setCell w3 ⟨b, 4, none⟩ _ _ hbn.out).trans HN3.out)
  have H6 := hS.1
  obtain ⟨A4, c4, rfl, _, _⟩ := r4.slice
  have HH := Lib.hid (And.intro H6 (And.intro M6 n6))
  clear C3 r4 m4 H4 hS M6 n6 H6 M5 HS HK HN3 HO y0 y2 y3 y4 z4
  go_wp2
  generalize w4.setCell ⟨b, 3, none⟩ (.slice A4 zs.length c4) = w6 at *
  have H5 := HH.out.1
  have M5 := Lib.hid HH.out.2.1
  have n5 := HH.out.2.2
  have HLEN := HZ
  clear HH HZ
  obtain ⟨v5, h5, r5⟩ := H5.at_
  have y5 : w6.cell? ⟨b, 3, none⟩ = some v5 := blk_cell h5 3
  obtain ⟨v7, w7, hrun, r7, g7, s7⟩ := (show Row w6.drew F v5 zs from r5).append H5.old x HLEN.out 56
  have hown := r5.own
  obtain ⟨A5, c5, rfl, _, _⟩ := r5.slice
  have n7 := blk_grown (w := w6.drew) n5 g7 (fun e => by have h9 := (hown _ e.symm).1; exact hgs.out h9)
  have k7 := blk_grown (w := w6.drew) h5 g7 (fun e => by have h9 := (hown _ e.symm).1; exact H5.off h9)
  have y7 : w7.cell? ⟨b, 3, none⟩ = some (.slice A5 zs.length c5) := blk_cell k7 3
  have z7 := blk_frozen k7 3
  have HX : Hid (QS (w7.setCell ⟨b, 3, none⟩ v7) (fun k => F k ∨ (w.heap.size ≤ k ∧ k < w7.heap.size ∧ k ≠ b)) b n (lost + 1) ev1 (zs ++ [x]) ∧ Mod (HM F b) w (w7.setCell ⟨b, 3, none⟩ v7)) := Lib.hid (by
    have hbl := blk_lt h5
    have hds : w6.drew.heap.size = w6.heap.size := rfl
    have hFm : ∀ k, (F k ∨ (w6.drew.heap.size ≤ k ∧ k < w7.heap.size)) → (F k ∨ (w.heap.size ≤ k ∧ k < w7.heap.size ∧ k ≠ b)) := fun k hk => hk.imp id (fun hh => ⟨Nat.le_trans M5.out.size (hds ▸ hh.1), hh.2, fun e => by subst e; exact Nat.lt_irrefl _ (Nat.lt_of_lt_of_le hbl (hds ▸ hh.1))⟩)
    have hoff : ¬ (F b ∨ (w.heap.size ≤ b ∧ b < w7.heap.size ∧ b ≠ b)) := fun hh => hh.elim H5.off (fun hh => hh.2.2 rfl)
    refine ⟨⟨⟨v7, blk_put k7 3 v7 rfl, (r7.mono hFm).set (a := ⟨b, 3, none⟩) hoff v7⟩, hoff, fun k hk => ?_, H5.r0, H5.d0, H5.rm, H5.dm⟩, ?_⟩
    · have : (w7.setCell ⟨b, 3, none⟩ v7).heap.size = w7.heap.size := by simp [World.setCell]
      rw [this]
      rcases hk with hk | hk
      · exact Nat.lt_of_lt_of_le (H5.old k hk) (Nat.le_trans (Nat.le_of_eq hds.symm) (Nat.le_of_lt s7))
      · exact hk.2.1
    · exact ((M5.out.drew).grown g7 (fun k hk => .inl (.inr (hown k hk).1))).set (p := ⟨b, 3, none⟩) (.inl (.inl rfl)) v7)
  obtain ⟨A7, c7, rfl, _, _⟩ := r7.slice
  rw [List.length_append, List.length_singleton] at HX hrun
  clear h5 r5 r7 g7 s7 hown k7 H5
  refine Reg.wp_plan (S := fun w' => w'.heap[w.heap.size]? = some (.cells (cells x).toArray 60 (0, 0)) ∧ w'.cell? ⟨b, 3, none⟩ = some (.slice A5 zs.length c5)) 10 (.fl 0 (.fl 1 (.fl 2 (.fl 3 (.fl 4 (.fl 5 (.one 6 (.one 7 (.fl 8 (.fl 9 (.one 10 .done))))))))))) (by kernel_rfl) (by kernel_rfl) (by kernel_rfl) (by kernel_rfl) (fun _ _ _ d _ h => by cases d <;> exact h) ?_ (fun hHeld => ?_)
  · exact ⟨n5, y5⟩
  refine Reg.G_on (o := { dst := some 45, op := Op.move (Operand.tmp 0), type := 81, pos := "ring.go:64", after := #[], guard := Option.none }) (v := ?_) (by rfl) ?_ (fun wS hSw => ?_) ?_
  rotate_left
  · kernel_rfl
  · (try dsimp only at hSw); go_simp; (try with_reducible rfl)
  try simp only [Act.put, List.setIfInBounds_toArray, List.set_cons_zero, List.set_cons_succ]
  refine Reg.G_on (o := { dst := some 46, op := Op.move (Operand.tmp 0), type := 81, pos := "ring.go:64", after := #[], guard := Option.none }) (v := ?_) (by rfl) ?_ (fun wS hSw => ?_) ?_
  rotate_left
  · kernel_rfl
  · (try dsimp only at hSw); go_simp; (try with_reducible rfl)
  try simp only [Act.put, List.setIfInBounds_toArray, List.set_cons_zero, List.set_cons_succ]
  refine Reg.G_on (o := { dst := some 47, op := Op.nilCheck (Operand.tmp 46), type := 0, pos := "ring.go:64", after := #[{ on := 1, ground := Ground.data }], guard := Option.none }) (v := ?_) (by rfl) ?_ (fun wS hSw => ?_) ?_
  rotate_left
  · kernel_rfl
  · (try dsimp only at hSw); go_simp; (try with_reducible rfl)
  try simp only [Act.put, List.setIfInBounds_toArray, List.set_cons_zero, List.set_cons_succ]
  refine Reg.G_on (o := { dst := some 48, op := Op.fieldAddr 97 (Operand.tmp 47) 3, type := 0, pos := "ring.go:64", after := #[{ on := 2, ground := Ground.data }], guard := Option.none }) (v := ?_) (by rfl) ?_ (fun wS hSw => ?_) ?_
  rotate_left
  · kernel_rfl
  · (try dsimp only at hSw); go_simp; (try with_reducible rfl)
  try simp only [Act.put, List.setIfInBounds_toArray, List.set_cons_zero, List.set_cons_succ]
  refine Reg.G_on (o := { dst := some 49, op := Op.load 56 (Operand.tmp 48), type := 56, pos := "ring.go:64", after := #[{ on := 3, ground := Ground.data }], guard := Option.none }) (v := ?_) (by rfl) ?_ (fun wS hSw => ?_) ?_
  rotate_left
  · kernel_rfl
  · (try dsimp only at hSw); go_simp; (try with_reducible rfl)
  try simp only [Act.put, List.setIfInBounds_toArray, List.set_cons_zero, List.set_cons_succ]
  refine Reg.G_on (o := { dst := some 50, op := Op.load 60 (Operand.tmp 3), type := 60, pos := "ring.go:64", after := #[], guard := Option.none }) (v := .agg (cells x).toArray) (by rfl) ?_ (fun wS hSw => ?_) ?_
  · kernel_rfl
  · exact load_yields rfl rfl (box_range hSw.1) Try.underlying60 rfl (size23 x)
  try simp only [Act.put, List.setIfInBounds_toArray, List.set_cons_zero, List.set_cons_succ]
  refine Reg.G_step (o := { dst := some 51, op := Op.buildSlice 56 1 #[(0, Operand.tmp 50)], type := 56, pos := "ring.go:64", after := #[{ on := 5, ground := Ground.data }], guard := Option.none }) (by rfl) ?_ (fun K hK => ?_)
  · kernel_rfl
  refine build1 (x := x) rfl rfl ?_
  refine hK.out _ _ ?_ (fun hHeld => ?_)
  · exact ⟨blk_alloc n5 _, cnew y5⟩
  clear hK K
  try simp only [Act.put, List.setIfInBounds_toArray, List.set_cons_zero, List.set_cons_succ]
  refine Reg.G_step (o := { dst := some 52, op := Op.call { callee := Callee.builtin Builtin.append, args := #[Operand.tmp 49, Operand.tmp 51], argTypes := #[56, 56] }, type := 56, pos := "ring.go:64", after := #[{ on := 4, ground := Ground.data }, { on := 6, ground := Ground.data }], guard := Option.none }) (by rfl) ?_ (fun K hK => ?_)
  · kernel_rfl
  refine op_append (.tmp 49) (.tmp 51) 56 rfl rfl rfl hrun ?_
  refine hK.out _ _ ?_ (fun hHeld => ?_)
  · exact ⟨n7, y7⟩
  clear hK K
  try simp only [Act.put, List.setIfInBounds_toArray, List.set_cons_zero, List.set_cons_succ]
  refine Reg.G_on (o := { dst := some 53, op := Op.nilCheck (Operand.tmp 45), type := 0, pos := "ring.go:64", after := #[{ on := 0, ground := Ground.data }, { on := 0, ground := Ground.phase }, { on := 1, ground := Ground.phase }, { on := 2, ground := Ground.phase }, { on := 3, ground := Ground.phase }, { on := 4, ground := Ground.phase }, { on := 5, ground := Ground.phase }, { on := 6, ground := Ground.phase }, { on := 7, ground := Ground.phase }], guard := Option.none }) (v := ?_) (by rfl) ?_ (fun wS hSw => ?_) ?_
  rotate_left
  · kernel_rfl
  · (try dsimp only at hSw); go_simp; (try with_reducible rfl)
  try simp only [Act.put, List.setIfInBounds_toArray, List.set_cons_zero, List.set_cons_succ]
  refine Reg.G_on (o := { dst := some 54, op := Op.fieldAddr 97 (Operand.tmp 53) 3, type := 0, pos := "ring.go:64", after := #[{ on := 8, ground := Ground.data }, { on := 0, ground := Ground.phase }, { on := 1, ground := Ground.phase }, { on := 2, ground := Ground.phase }, { on := 3, ground := Ground.phase }, { on := 4, ground := Ground.phase }, { on := 5, ground := Ground.phase }, { on := 6, ground := Ground.phase }, { on := 7, ground := Ground.phase }], guard := Option.none }) (v := ?_) (by rfl) ?_ (fun wS hSw => ?_) ?_
  rotate_left
  · kernel_rfl
  · (try dsimp only at hSw); go_simp; (try with_reducible rfl)
  try simp only [Act.put, List.setIfInBounds_toArray, List.set_cons_zero, List.set_cons_succ]
  clear hHeld
  refine Reg.G_last (o := { dst := Option.none, op := Op.store 56 (Operand.tmp 54) (Operand.tmp 52), type := 0, pos := "ring.go:64", after := #[{ on := 9, ground := Ground.data }, { on := 7, ground := Ground.data }, { on := 7, ground := Ground.chain }, { on := 0, ground := Ground.phase }, { on := 1, ground := Ground.phase }, { on := 2, ground := Ground.phase }, { on := 3, ground := Ground.phase }, { on := 4, ground := Ground.phase }, { on := 5, ground := Ground.phase }, { on := 6, ground := Ground.phase }, { on := 7, ground := Ground.phase }], guard := Option.none }) (by rfl) (by rfl) ?_ (fun K hK => ?_)
  · kernel_rfl
  go_simp
  refine hK.out _ _ ?_
  clear hK K
  try simp only [Act.put, List.setIfInBounds_toArray, List.set_cons_zero, List.set_cons_succ]
  go_wp2
  go_end0
  exact ⟨rfl, _, HX.out.1, fun k hk => Or.imp id (fun hh => hh.1) hk, HX.out.2⟩
theorem push {w : World} {F : Nat → Prop} {b : Nat} {n : Qn} {lost ev : Int} {xs : List Smp} (h : QS w F b n lost ev xs) (x : Smp) (hl : (xs.length + 1) * 80 ≤ 140737488355328) (he : 0 ≤ ev ∧ ev < 1000000000) (hlo : 0 ≤ lost ∧ lost < 1000000000) :
    Calls Try.prog 45 #[.pointer (some ⟨b, 0, none⟩), .agg (cells x).toArray] w fun e w' => e = .returned (.tuple #[]) ∧ ∃ F', QS w' F' b n (pushm n xs lost ev x).2.1 (pushm n xs lost ev x).2.2 (pushm n xs lost ev x).1 ∧ Grow F F' w ∧ Mod (HM F b) w w' := by
  have h0 := h.r0
  have hle := evm_le n.depth xs ev x
  have hl' : xs.length * 80 ≤ 140737488355328 := Nat.le_trans (Nat.mul_le_mul_right _ (Nat.le_succ _)) hl
  obtain ⟨ys, ev1, hev⟩ : ∃ ys ev1, evm n.depth xs ev x = (ys, ev1) := ⟨_, _, rfl⟩
  unfold pushm
  rw [hev] at hle ⊢
  dsimp only at hle ⊢
  have hy : (ys.length + 1) * 80 ≤ 140737488355328 := Nat.le_trans (Nat.mul_le_mul_right _ (Nat.succ_le_succ hle)) hl
  by_cases hr : n.room ≤ (ys.length : Int)
  · rw [if_pos hr]
    cases hn : n.newest
    · by_cases hz : n.room = 0
      · rw [if_pos (.inr hz)]; exact push_b h x hl' he hlo hy hev hr hn hz
      · rw [if_neg (fun hh => hh.elim (fun hq => by cases hq) hz)]; exact push_c h x hl' he hlo hy hev hr hn (by omega) rfl
    · rw [if_pos (.inl rfl)]; exact push_a h x hl' he hlo hy hev hr hn
  · rw [if_neg hr]; exact push_d h x hl' he hlo hy hev hr
end Go.Proofs.Ytimalojaiaofkaa.Rng
namespace Go.Proofs.Ytimalojaiaofkaa.Rng
open Go.RowKit Base Sp Flat Go.Proofs.YtimalojaiaofkaaW.PrintWords Go.Shelf Smp His
set_option maxRecDepth 20000 in
theorem read_nil (n : Int) (w : World) : Calls Try.prog 46 #[.pointer none, .int .i64 n] w fun e w' => e = .returned (.slice none 0 0) ∧ w = w' := by
  go_enter Try.func46, Try.ntmps46
  go_wp2
  go_ret
  exact ⟨rfl, rfl⟩
set_option maxHeartbeats 1000000 in
set_option maxRecDepth 20000 in
theorem read {w : World} {F : Nat → Prop} {b : Nat} {n : Qn} {lost ev : Int} {xs : List Smp} (h : QS w F b n lost ev xs) (hl : xs.length * 80 ≤ 140737488355328) (m : Int) :
    Calls Try.prog 46 #[.pointer (some ⟨b, 0, none⟩), .int .i64 m] w fun e w' => ∃ v', e = .returned v' ∧ Row w' (fun k => w.heap.size ≤ k ∧ k < w'.heap.size) v' (xs.take m.toNat) ∧ Below w.heap.size w w' := by
  obtain ⟨v, h1, h2⟩ := h.at_
  have c3 : w.cell? ⟨b, 3, none⟩ = some v := blk_cell h1 3
  have hlt := Lib.hid h.lt
  obtain ⟨A, c, rfl, hc, _⟩ := h2.slice
  obtain ⟨k, hk⟩ : ∃ k, k = min m.toNat xs.length := ⟨_, rfl⟩
  have hkl : k ≤ xs.length := hk ▸ Nat.min_le_right _ _
  have C : Calls Try.prog 70 #[.slice A k c] w.drew fun e w' => ∃ v', e = .returned v' ∧ Row w' (fun k => w.heap.size ≤ k ∧ k < w'.heap.size) v' (xs.take k) ∧ Below w.heap.size w.drew w' :=
    clone ((h2.cut k hkl).drew) (Nat.le_trans (Nat.mul_le_mul_right _ (by rw [List.length_take]; exact Nat.min_le_right _ _)) hl)
  have b0 : Below w.heap.size w w.drew := below_drew (Below.refl _ _)
  have hte : xs.take m.toNat = xs.take k := by
    rw [hk]
    rcases Nat.le_total m.toNat xs.length with hh | hh
    · rw [Nat.min_eq_left hh]
    · rw [Nat.min_eq_right hh, List.take_of_length_le hh, List.take_length]
  rw [hte]
  obtain ⟨q, hq⟩ : ∃ q, (if (xs.length : Int) < m then (xs.length : Int) else m) = q := ⟨_, rfl⟩
  have hmx : (if 0 < q then q else 0) = (k : Int) := by
    rw [← hq, hk]
    clear C hte h1 h2 h
    split <;> split <;> omega
  have hkc : (0 : Int) ≤ (k : Int) ∧ (k : Int) ≤ (c : Int) := ⟨Int.natCast_nonneg _, Int.ofNat_le.2 (Nat.le_trans hkl hc)⟩
  have Hq := Lib.hid hq
  have Hm := Lib.hid hmx
  have Hc := Lib.hid hkc
  clear h h1 h2 hl hte hk hkl hq hmx hkc hc
  go_enter Try.func46, Try.ntmps46
  go_wp2_with fail
  refine Reg.wp_plan (S := fun w' => w'.cell? ⟨b, 3, none⟩ = some (.slice A xs.length c)) 15 (.fl 0 (.fl 1 (.fl 2 (.fl 3 (.fl 4 (.fl 5 (.fl 6 (.fl 7 (.fl 8 (.fl 9 (.fl 10 (.fl 11 (.fl 12 (.one 13 (.fl 14 .done))))))))))))))) (by kernel_rfl) (by kernel_rfl) (by kernel_rfl) (by kernel_rfl) (fun _ _ _ d _ h => by cases d <;> exact h) ?_ (fun hHeld => ?_)
  · exact c3
  refine Reg.G_on (o := { dst := some 7, op := Op.move (Operand.tmp 0), type := 81, pos := "ring.go:72", after := #[], guard := Option.none }) (v := ?_) (by rfl) ?_ (fun wS hSw => ?_) ?_
  rotate_left
  · kernel_rfl
  · (try dsimp only at hSw); go_simp; (try with_reducible rfl)
  try simp only [Act.put, List.setIfInBounds_toArray, List.set_cons_zero, List.set_cons_succ]
  refine Reg.G_on (o := { dst := some 8, op := Op.nilCheck (Operand.tmp 7), type := 0, pos := "ring.go:72", after := #[{ on := 0, ground := Ground.data }], guard := Option.none }) (v := ?_) (by rfl) ?_ (fun wS hSw => ?_) ?_
  rotate_left
  · kernel_rfl
  · (try dsimp only at hSw); go_simp; (try with_reducible rfl)
  try simp only [Act.put, List.setIfInBounds_toArray, List.set_cons_zero, List.set_cons_succ]
  refine Reg.G_on (o := { dst := some 9, op := Op.fieldAddr 97 (Operand.tmp 8) 3, type := 0, pos := "ring.go:72", after := #[{ on := 1, ground := Ground.data }], guard := Option.none }) (v := ?_) (by rfl) ?_ (fun wS hSw => ?_) ?_
  rotate_left
  · kernel_rfl
  · (try dsimp only at hSw); go_simp; (try with_reducible rfl)
  try simp only [Act.put, List.setIfInBounds_toArray, List.set_cons_zero, List.set_cons_succ]
  refine Reg.G_on (o := { dst := some 10, op := Op.load 56 (Operand.tmp 9), type := 56, pos := "ring.go:72", after := #[{ on := 2, ground := Ground.data }], guard := Option.none }) (v := ?_) (by rfl) ?_ (fun wS hSw => ?_) ?_
  rotate_left
  · kernel_rfl
  · (try dsimp only at hSw); go_simp; (try with_reducible rfl)
  try simp only [Act.put, List.setIfInBounds_toArray, List.set_cons_zero, List.set_cons_succ]
  refine Reg.G_on (o := { dst := some 11, op := Op.move (Operand.tmp 1), type := 3, pos := "ring.go:72", after := #[], guard := Option.none }) (v := ?_) (by rfl) ?_ (fun wS hSw => ?_) ?_
  rotate_left
  · kernel_rfl
  · (try dsimp only at hSw); go_simp; (try with_reducible rfl)
  try simp only [Act.put, List.setIfInBounds_toArray, List.set_cons_zero, List.set_cons_succ]
  refine Reg.G_on (o := { dst := some 12, op := Op.move (Operand.tmp 0), type := 81, pos := "ring.go:72", after := #[], guard := Option.none }) (v := ?_) (by rfl) ?_ (fun wS hSw => ?_) ?_
  rotate_left
  · kernel_rfl
  · (try dsimp only at hSw); go_simp; (try with_reducible rfl)
  try simp only [Act.put, List.setIfInBounds_toArray, List.set_cons_zero, List.set_cons_succ]
  refine Reg.G_on (o := { dst := some 13, op := Op.nilCheck (Operand.tmp 12), type := 0, pos := "ring.go:72", after := #[{ on := 5, ground := Ground.data }], guard := Option.none }) (v := ?_) (by rfl) ?_ (fun wS hSw => ?_) ?_
  rotate_left
  · kernel_rfl
  · (try dsimp only at hSw); go_simp; (try with_reducible rfl)
  try simp only [Act.put, List.setIfInBounds_toArray, List.set_cons_zero, List.set_cons_succ]
  refine Reg.G_on (o := { dst := some 14, op := Op.fieldAddr 97 (Operand.tmp 13) 3, type := 0, pos := "ring.go:72", after := #[{ on := 6, ground := Ground.data }], guard := Option.none }) (v := ?_) (by rfl) ?_ (fun wS hSw => ?_) ?_
  rotate_left
  · kernel_rfl
  · (try dsimp only at hSw); go_simp; (try with_reducible rfl)
  try simp only [Act.put, List.setIfInBounds_toArray, List.set_cons_zero, List.set_cons_succ]
  refine Reg.G_on (o := { dst := some 15, op := Op.load 56 (Operand.tmp 14), type := 56, pos := "ring.go:72", after := #[{ on := 7, ground := Ground.data }], guard := Option.none }) (v := ?_) (by rfl) ?_ (fun wS hSw => ?_) ?_
  rotate_left
  · kernel_rfl
  · (try dsimp only at hSw); go_simp; (try with_reducible rfl)
  try simp only [Act.put, List.setIfInBounds_toArray, List.set_cons_zero, List.set_cons_succ]
  refine Reg.G_on (o := { dst := some 16, op := Op.call { callee := Callee.builtin Builtin.len, args := #[Operand.tmp 15], argTypes := #[56] }, type := 3, pos := "ring.go:72", after := #[{ on := 8, ground := Ground.data }], guard := Option.none }) (v := ?_) (by rfl) ?_ (fun wS hSw => ?_) ?_
  rotate_left
  · kernel_rfl
  · (try dsimp only at hSw); go_simp; (try with_reducible rfl)
  try simp only [Act.put, List.setIfInBounds_toArray, List.set_cons_zero, List.set_cons_succ]
  refine Reg.G_on (o := { dst := some 17, op := Op.call { callee := Callee.builtin Builtin.min, args := #[Operand.tmp 11, Operand.tmp 16], argTypes := #[3, 3] }, type := 3, pos := "ring.go:72", after := #[{ on := 4, ground := Ground.data }, { on := 9, ground := Ground.data }], guard := Option.none }) (v := .int .i64 q) (by rfl) ?_ (fun wS hSw => ?_) ?_
  · kernel_rfl
  · (go_simp; rw [Hq.out])
  try simp only [Act.put, List.setIfInBounds_toArray, List.set_cons_zero, List.set_cons_succ]
  refine Reg.G_on (o := { dst := some 18, op := Op.call { callee := Callee.builtin Builtin.max, args := #[Operand.const (Value.int IntKind.i64 0), Operand.tmp 17], argTypes := #[3, 3] }, type := 3, pos := "ring.go:72", after := #[{ on := 10, ground := Ground.data }], guard := Option.none }) (v := .int .i64 (k : Int)) (by rfl) ?_ (fun wS hSw => ?_) ?_
  · kernel_rfl
  · (go_simp; rw [Hm.out])
  try simp only [Act.put, List.setIfInBounds_toArray, List.set_cons_zero, List.set_cons_succ]
  refine Reg.G_on (o := { dst := some 19, op := Op.slice 56 (Operand.tmp 10) Option.none (some (Operand.tmp 18)) Option.none, type := 56, pos := "ring.go:72", after := #[{ on := 3, ground := Ground.data }, { on := 11, ground := Ground.data }], guard := Option.none }) (v := .slice A k c) (by rfl) ?_ (fun wS hSw => ?_) ?_
  · kernel_rfl
  · (go_simp; intro hh; exact absurd hh (Nat.not_lt.2 (Int.ofNat_le.1 Hc.out.2)))
  try simp only [Act.put, List.setIfInBounds_toArray, List.set_cons_zero, List.set_cons_succ]
  refine Reg.G_step (o := { dst := some 20, op := Op.call { callee := Callee.value (Operand.func 70), args := #[Operand.tmp 19], argTypes := #[56] }, type := 56, pos := "ring.go:72", after := #[{ on := 12, ground := Ground.data }], guard := Option.none }) (by rfl) ?_ (fun K hK => ?_)
  · kernel_rfl
  go_simp
  refine (C).mono ?_
  rintro e w' ⟨v', rfl, hr, hb⟩
  refine hK.out _ _ ?_ (fun hHeld => ?_)
  · exact cbel hb (w := w.drew) c3 hlt.out
  clear hK K
  try simp only [Act.put, List.setIfInBounds_toArray, List.set_cons_zero, List.set_cons_succ]
  refine Reg.G_on (o := { dst := some 4, op := Op.assign (Operand.tmp 20), type := 56, pos := "ring.go:72", after := #[{ on := 13, ground := Ground.data }, { on := 13, ground := Ground.chain }, { on := 0, ground := Ground.phase }, { on := 1, ground := Ground.phase }, { on := 2, ground := Ground.phase }, { on := 3, ground := Ground.phase }, { on := 4, ground := Ground.phase }, { on := 5, ground := Ground.phase }, { on := 6, ground := Ground.phase }, { on := 7, ground := Ground.phase }, { on := 8, ground := Ground.phase }, { on := 9, ground := Ground.phase }, { on := 10, ground := Ground.phase }, { on := 11, ground := Ground.phase }, { on := 12, ground := Ground.phase }, { on := 13, ground := Ground.phase }], guard := Option.none }) (v := ?_) (by rfl) ?_ (fun wS hSw => ?_) ?_
  rotate_left
  · kernel_rfl
  · (try dsimp only at hSw); go_simp; (try with_reducible rfl)
  try simp only [Act.put, List.setIfInBounds_toArray, List.set_cons_zero, List.set_cons_succ]
  refine Reg.G_done ?_
  clear hHeld
  go_wp2
  go_ret
  exact ⟨v', rfl, hr, bstep b0 hb⟩
set_option maxRecDepth 20000 in
theorem take_nil (n : Int) (w : World) : Calls Try.prog 47 #[.pointer none, .int .i64 n] w fun e w' => e = .returned (.slice none 0 0) ∧ w = w' := by
  go_enter Try.func47, Try.ntmps47
  go_wp2
  go_ret
  exact ⟨rfl, rfl⟩
set_option maxHeartbeats 1000000 in
set_option maxRecDepth 20000 in
theorem take {w : World} {F : Nat → Prop} {b : Nat} {n : Qn} {lost ev : Int} {xs : List Smp} (h : QS w F b n lost ev xs) (hl : xs.length * 80 ≤ 140737488355328) (m : Int) :
    Calls Try.prog 47 #[.pointer (some ⟨b, 0, none⟩), .int .i64 m] w fun e w' => ∃ v', e = .returned v' ∧ Row w' (fun k => w.heap.size ≤ k ∧ k < w'.heap.size) v' (xs.take m.toNat) ∧ QS w' F b n lost ev (xs.drop m.toNat) ∧ Mod (HM F b) w w' := by
  have C1 := read h hl m
  by_cases h0 : (xs.take m.toNat).length = 0
  · have hd : xs.drop m.toNat = xs := by
      have h2 := List.take_append_drop m.toNat xs
      rw [List.length_eq_zero_iff.1 h0, List.nil_append] at h2
      exact h2
    rw [hd]
    have HQ := Lib.hid h
    generalize hz : xs.take m.toNat = zs at *
    clear h hl
    go_enter Try.func47, Try.ntmps47
    go_wp2_with fail
    refine C1.mono ?_
    rintro e w1 ⟨v1, rfl, r1, b1⟩
    have HR := Lib.hid (And.intro r1 b1)
    obtain ⟨A1, c1, rfl, _, _⟩ := r1.slice
    rw [h0] at *
    clear C1 r1 b1
    go_wp2
    go_ret
    exact ⟨_, rfl, HR.out.1, HQ.out.below HR.out.2, Mod.of HR.out.2⟩
  · have h1 : 0 < (xs.take m.toNat).length := Nat.pos_of_ne_zero h0
    have hle : (xs.take m.toNat).length ≤ xs.length := by rw [List.length_take]; exact Nat.min_le_right _ _
    have hdr : xs.drop (xs.take m.toNat).length = xs.drop m.toNat := by
      rw [List.length_take]
      rcases Nat.le_total m.toNat xs.length with hh | hh
      · rw [Nat.min_eq_left hh]
      · rw [Nat.min_eq_right hh, List.drop_of_length_le hh, List.drop_of_length_le (Nat.le_refl _)]
    obtain ⟨v0, k0, q0⟩ := h.at_
    have HK := Lib.hid k0
    have HQ := Lib.hid h
    have c3 : w.cell? ⟨b, 3, none⟩ = some v0 := blk_cell k0 3
    obtain ⟨A0, c0, rfl, _, _⟩ := q0.slice
    have CD := Lib.hid (fun (w2 : World) (b2 : Below w.heap.size w w2) => (show Calls Try.prog 79 #[.slice A0 xs.length c0, .int .i64 0, .int .i64 ((xs.take m.toNat).length : Int)] w2 fun e w' => ∃ v', e = .returned v' ∧ Row w' F v' ([] ++ xs.drop (xs.take m.toNat).length) ∧ Mod F w2 w' from delete_ (i := 0) (q0.below b2) h1 hle))
    rw [hdr, List.nil_append] at CD
    have HP := Lib.hid h1
    generalize hz : xs.take m.toNat = zs at *
    generalize hz2 : xs.drop m.toNat = ys at *
    have h1i : (0 : Int) < (zs.length : Int) := Int.ofNat_lt.2 h1
    clear h hl q0 k0 h0 h1 hle hdr hz hz2
    go_enter Try.func47, Try.ntmps47
    go_wp2_with fail
    refine C1.mono ?_
    rintro e w1 ⟨v1, rfl, r1, b1⟩
    have HR := Lib.hid (And.intro r1 b1)
    have C2 := CD.out w1 b1
    obtain ⟨A1, c1, rfl, _, _⟩ := r1.slice
    have y3 := cbel b1 c3 HQ.out.lt
    clear C1 r1 b1 CD c3
    go_wp2_with fail
    refine C2.mono ?_
    rintro e w4 ⟨v4, rfl, r4, m4⟩
    have H1 := blk_below HK.out HR.out.2
    have H4 := (m4.block b (blk_lt H1) HQ.out.off).trans H1
    have z3 := blk_frozen H4 3
    have y4 : w4.cell? ⟨b, 3, none⟩ = some (.slice A0 xs.length c0) := blk_cell H4 3
    have hS := (HQ.out.below HR.out.2).store r4 HQ.out.off (fun k hk => Nat.lt_of_lt_of_le (HQ.out.old k hk) (Nat.le_trans HR.out.2.size m4.size)) m4
    have HX := Lib.hid (And.intro hS (And.intro m4 (And.intro HR.out.1 HR.out.2)))
    obtain ⟨A4, c4, rfl, _, _⟩ := r4.slice
    clear C2 r4 m4 hS H1 H4 y3
    go_wp2
    go_ret
    have hR := HX.out.2.2.1
    have hB := HX.out.2.2.2
    refine ⟨_, rfl, ?_, HX.out.1.1, (Mod.of (F := HM F b) hB).trans HX.out.1.2 (fun _ h => .inl h)⟩
    have hsz := HX.out.1.2.size
    refine (hR.same (w' := w4.setCell ⟨b, 3, none⟩ (.slice A4 ys.length c4)) (fun k hk => ?_)).mono (fun k hk => ⟨hk.1, Nat.lt_of_lt_of_le hk.2 hsz⟩)
    exact HX.out.1.2.block k hk.2 (fun hh => hh.elim (fun e => absurd (e ▸ HQ.out.lt) (Nat.not_lt.2 hk.1)) (fun hf => absurd (HQ.out.old k hf) (Nat.not_lt.2 hk.1)))
set_option maxRecDepth 20000 in
theorem clear_nil (w : World) : Calls Try.prog 52 #[.pointer none] w fun e w' => e = .returned (.tuple #[]) ∧ w = w' := by
  go_enter Try.func52, Try.ntmps52
  go_wp2
  go_end0
  exact ⟨rfl, rfl⟩
set_option maxRecDepth 20000 in
theorem clear {w : World} {F : Nat → Prop} {b : Nat} {n : Qn} {lost ev : Int} {xs : List Smp} (h : QS w F b n lost ev xs) :
    Calls Try.prog 52 #[.pointer (some ⟨b, 0, none⟩)] w fun e w' => e = .returned (.tuple #[]) ∧ QS w' F b n lost ev [] ∧ Mod (HM F b) w w' := by
  obtain ⟨v0, k0, q0⟩ := h.at_
  have y3 : w.cell? ⟨b, 3, none⟩ = some v0 := blk_cell k0 3
  have z3 := blk_frozen k0 3
  have HX := Lib.hid (h.store (Row.nil w F) h.off h.old (Mod.refl F w))
  obtain ⟨A0, c0, rfl, _, _⟩ := q0.slice
  clear h k0 q0
  go_enter Try.func52, Try.ntmps52
  go_wp2
  go_end0
  exact ⟨rfl, HX.out.1, HX.out.2⟩
end Go.Proofs.Ytimalojaiaofkaa.Rng
namespace Go.Proofs.Ytimalojaiaofkaa.Rng
open Go.RowKit Base Sp Flat Go.Proofs.YtimalojaiaofkaaW.PrintWords Go.Shelf Smp His
def expm (now f : Int) (xs : List Smp) : List Smp := if f ≤ 0 then xs else xs.filter (fun x => !oldr now f x)
set_option maxRecDepth 20000 in
theorem expire_nil (now f : Int) (w : World) : Calls Try.prog 51 #[.pointer none, .int .u64 now, .int .i64 f] w fun e w' => e = .returned (.tuple #[]) ∧ Below w.heap.size w w' := by
  have b1 : Below w.heap.size w (w.alloc (.cells #[.int .u64 now] 58 (0, 0))) := (Below.refl _ _).alloc (Nat.le_refl _) _
  have b2 : Below w.heap.size w ((w.alloc (.cells #[.int .u64 now] 58 (0, 0))).alloc (.cells #[.int .i64 f] 3 (0, 0))) := b1.alloc b1.size _
  go_enter Try.func51, Try.ntmps51
  go_wp2
  refine bodyPost_ret (results_none rfl _ _ _) rfl ?_
  exact ⟨rfl, b2⟩
set_option maxHeartbeats 1000000 in
set_option maxRecDepth 20000 in
theorem expire {w : World} {F : Nat → Prop} {b : Nat} {n : Qn} {lost ev : Int} {xs : List Smp} (h : QS w F b n lost ev xs) (hl : xs.length * 80 ≤ 140737488355328) (now f : Int) (hn : now < 18446744073709551616) (f0 : -9223372036854775808 ≤ f) (f1 : f < 9223372036854775808) :
    Calls Try.prog 51 #[.pointer (some ⟨b, 0, none⟩), .int .u64 now, .int .i64 f] w fun e w' => e = .returned (.tuple #[]) ∧ ∃ F', QS w' F' b n lost ev (expm now f xs) ∧ Grow F F' w ∧ Mod (HM F b) w w' := by
  have b1 : Below w.heap.size w (w.alloc (.cells #[.int .u64 now] 58 (0, 0))) := (Below.refl _ _).alloc (Nat.le_refl _) _
  have b2 : Below w.heap.size w ((w.alloc (.cells #[.int .u64 now] 58 (0, 0))).alloc (.cells #[.int .i64 f] 3 (0, 0))) := b1.alloc b1.size _
  have HB := Lib.hid b2
  have HQ := Lib.hid (h.below b2)
  unfold expm
  by_cases hf : f ≤ 0
  · rw [if_pos hf]
    have M := Lib.hid (Mod.of (F := HM F b) b2)
    clear h hl b1 b2 hn f0 f1
    go_enter Try.func51, Try.ntmps51
    go_wp2
    refine bodyPost_ret (results_none rfl _ _ _) rfl ?_
    exact ⟨rfl, F, HQ.out, fun k hk => .inl hk, M.out⟩
  · rw [if_neg hf]
    have hmf : ∀ (fn : Fn) (first cap : Array Value) (w : World), (Instr.makeFunc fn first cap).run Try.prog w = .ok (.func fn first cap) w := fun _ _ _ _ => rfl
    have n1 : ((w.alloc (.cells #[.int .u64 now] 58 (0, 0))).alloc (.cells #[.int .i64 f] 3 (0, 0))).heap[w.heap.size]? = some (.cells #[.int .u64 now] 58 (0, 0)) := blk_alloc (heap_alloc_new w _) _
    have n2 : ((w.alloc (.cells #[.int .u64 now] 58 (0, 0))).alloc (.cells #[.int .i64 f] 3 (0, 0))).heap[w.heap.size + 1]? = some (.cells #[.int .i64 f] 3 (0, 0)) := by
      have := heap_alloc_new (w.alloc (.cells #[.int .u64 now] 58 (0, 0))) (.cells #[.int .i64 f] 3 (0, 0))
      simpa using this
    have hP := old_pr w.heap.size (w.heap.size + 1) now f _ n1 n2 hn f0 f1
    obtain ⟨v0, k0, q0⟩ := HQ.out.at_
    have HK := Lib.hid k0
    have C1 := parted hP q0 hl
    have c3 := blk_cell k0 3
    have c3' : ((w.alloc (.cells #[.int .u64 now] 58 (0, 0))).alloc (.cells #[.int .i64 f] 3 (0, 0))).cell? ⟨b, 3, none⟩ = some v0 := c3
    obtain ⟨A0, c0, rfl, _, _⟩ := q0.slice
    clear h hl b1 b2 hn f0 f1 n1 n2 hP k0 q0 c3
    have hf1 : 0 < f := by omega
    clear hf
    go_enter Try.func51, Try.ntmps51
    go_wp2_with fail
    refine C1.mono ?_
    rintro e w2 ⟨v1, v2, rfl, r1, r2, b3⟩
    have H3 := blk_below HK.out b3
    have z3 := blk_frozen H3 3
    have y3 : w2.cell? ⟨b, 3, none⟩ = some (.slice A0 xs.length c0) := blk_cell H3 3
    have hS := HQ.out.store r2 (fun hh => absurd HQ.out.lt (Nat.not_lt.2 hh.1)) (fun k hk => hk.2) (Mod.of b3)
    have HX := Lib.hid hS
    obtain ⟨A1, c1, rfl, _, _⟩ := r1.slice
    obtain ⟨A2, c2, rfl, _, _⟩ := r2.slice
    clear C1 r1 r2 b3 H3 hS c3'
    go_wp2
    go_end0
    refine ⟨rfl, _, HX.out.1, fun k hk => .inr (Nat.le_trans HB.out.size hk.1), (Mod.of (F := HM F b) HB.out).trans HX.out.2 (fun _ h => .inl h)⟩
end Go.Proofs.Ytimalojaiaofkaa.Rng
