import Derived.Test.YtmlfnlmdnhblmaaSmp
import Derived.Deep.MidRow
import Derived.Maps.AppendAt
import Derived.ArgAppend
set_option linter.unusedVariables false
set_option linter.unusedSimpArgs false
namespace Go.Proofs.Ytmlfnlmdnhblmaa.Smp
open Go.RowKit Base Sp Flat Go.Proofs.YtmlfnlmdnhblmaaW.PrintWords
def flat (xs : List Smp) : List Value := xs.flatMap cells
theorem flat_nil : flat [] = [] := rfl
theorem flat_cons (x : Smp) (xs : List Smp) : flat (x :: xs) = cells x ++ flat xs := rfl
theorem flat_append (xs ys : List Smp) : flat (xs ++ ys) = flat xs ++ flat ys := List.flatMap_append
theorem flat_one (x : Smp) : flat [x] = cells x := by rw [flat_cons, flat_nil, List.append_nil]
theorem flat_len (xs : List Smp) : (flat xs).length = xs.length * 23 := by
  induction xs with
  | nil => rfl
  | cons x xs ih => rw [flat_cons, List.length_append, cells_len, ih, List.length_cons]; omega
theorem flat_cells {xs : List Smp} {u : Value} (h : u ∈ flat xs) : u.oneCell' = true := by
  unfold flat at h
  obtain ⟨x, _, hx⟩ := List.mem_flatMap.1 h
  exact cells_one x u hx
theorem flat_drop (xs : List Smp) (n : Nat) (hn : n ≤ xs.length) : (flat xs).drop (n * 23) = flat (xs.drop n) := by
  conv => lhs; rw [← List.take_append_drop n xs, flat_append]
  rw [List.drop_append_of_le_length (by rw [flat_len, List.length_take]; omega), List.drop_eq_nil_of_le (by rw [flat_len, List.length_take]; omega), List.nil_append]
theorem flat_take (xs : List Smp) (n : Nat) (hn : n ≤ xs.length) : (flat xs).take (n * 23) = flat (xs.take n) := by
  conv => lhs; rw [← List.take_append_drop n xs, flat_append]
  rw [List.take_append_of_le_length (by rw [flat_len, List.length_take]; omega), List.take_of_length_le (by rw [flat_len, List.length_take]; omega)]
theorem flat_at (xs : List Smp) (i : Nat) (hi : i < xs.length) (j : Nat) (hj : j < 23) (rest : List Value) : (flat xs ++ rest)[i * 23 + j]? = (cells xs[i])[j]? := by
  rw [List.getElem?_append_left (by rw [flat_len]; omega), ← List.getElem?_drop, flat_drop xs i (by omega), List.drop_eq_getElem_cons hi, flat_cons, List.getElem?_append_left (by rw [cells_len]; exact hj)]
theorem flat_set (xs : List Smp) (i : Nat) (hi : i < xs.length) (x : Smp) (rest : List Value) : (flat xs ++ rest).take (i * 23) ++ cells x ++ (flat xs ++ rest).drop (i * 23 + (cells x).length) = flat (xs.set i x) ++ rest := by
  rw [cells_len, List.take_append_of_le_length (by rw [flat_len]; omega), flat_take xs i (by omega), List.drop_append_of_le_length (by rw [flat_len]; omega), show i * 23 + 23 = (i + 1) * 23 from by omega, flat_drop xs (i + 1) (by omega),
    List.set_eq_take_append_cons_drop, if_pos hi, flat_append, flat_cons, List.append_assoc, List.append_assoc, List.append_assoc]
/-- A block behind setCells. -/
theorem setCells_heap (g : Nat) (t : TypeId) : ∀ (vs : List Value) (o : Nat) (cur : List Value) (w : World), w.heap[g]? = some (.cells cur.toArray t (0, 0)) → o + vs.length ≤ cur.length →
    (w.setCells g o vs).heap[g]? = some (.cells (cur.take o ++ vs ++ cur.drop (o + vs.length)).toArray t (0, 0))
  | [], o, cur, w, h, _ => by
    rw [World.setCells, h]
    simp
  | v :: vs, o, cur, w, h, hl => by
    rw [List.length_cons] at hl
    rw [World.setCells, setCells_heap g t vs (o + 1) (cur.set o v) _ (by rw [blk_set h]; simp) (by rw [List.length_set]; omega)]
    have e1 : (cur.set o v).take (o + 1) = cur.take o ++ [v] := by
      rw [List.take_set, List.take_succ_eq_append_getElem (by omega), List.set_append_right _ _ (by rw [List.length_take]; omega), List.length_take, Nat.min_eq_left (by omega), Nat.sub_self]
      rfl
    have e2 : (cur.set o v).drop (o + 1 + vs.length) = cur.drop (o + (vs.length + 1)) := by
      rw [List.drop_set_of_lt (by omega), show o + 1 + vs.length = o + (vs.length + 1) from by omega]
    rw [e1, e2, List.length_cons, List.append_assoc (cur.take o), List.singleton_append]
theorem setCells_other (w : World) (g o : Nat) (vs : List Value) (k : Nat) (hk : k ≠ g) : (w.setCells g o vs).heap[k]? = w.heap[k]? := by
  induction vs generalizing o w with
  | nil => rfl
  | cons v vs ih => rw [World.setCells, ih]; exact Below.heap_setCell _ _ _ _ hk
theorem setCells_size (w : World) (g o : Nat) (vs : List Value) : (w.setCells g o vs).heap.size = w.heap.size := by
  induction vs generalizing o w with
  | nil => rfl
  | cons v vs ih => rw [World.setCells, ih]; simp [World.setCell]
theorem setCells_mod (w : World) (g o : Nat) (vs : List Value) : Mod (fun k => k = g) w (w.setCells g o vs) := by
  refine ⟨?_, ?_, ?_, by rw [setCells_size]; exact Nat.le_refl _, fun k _ hk => setCells_other w g o vs k hk⟩
  all_goals
    induction vs generalizing o w with
    | nil => rfl
    | cons v vs ih => rw [World.setCells, ih]; rfl
theorem there_of {w : World} {g : Nat} {cur : List Value} {t : TypeId} (h : w.heap[g]? = some (.cells cur.toArray t (0, 0))) {o n : Nat} (hl : o + n ≤ cur.length) : w.there g o n := fun j hj => by
  refine ⟨?_, blk_frozen h _⟩
  rw [blk_cell h, List.getElem?_toArray, List.getElem?_eq_getElem (by omega)]
  rfl
/-- A slice of samples of its own: its row's block is F's. -/
def Row (w : World) (F : Nat → Prop) (v : Value) (xs : List Smp) : Prop :=
  (v = .slice none 0 0 ∧ xs = []) ∨ ∃ g cap rest, v = .slice (some ⟨g, 0, none⟩) xs.length cap ∧ F g ∧ w.heap[g]? = some (.cells (flat xs ++ rest).toArray 26 (0, 0)) ∧ rest.length = (cap - xs.length) * 23 ∧ xs.length ≤ cap ∧ cap ≤ maxLen
section
variable {w w' W : World} {F G : Nat → Prop} {v : Value} {xs : List Smp}
theorem Row.nil (w : World) (F : Nat → Prop) : Row w F (.slice none 0 0) [] := .inl ⟨rfl, rfl⟩
theorem Row.mono (h : Row w F v xs) (hF : ∀ k, F k → G k) : Row w G v xs := by
  rcases h with h | ⟨g, cap, rest, e, hf, h⟩
  · exact .inl h
  · exact .inr ⟨g, cap, rest, e, hF g hf, h⟩
theorem Row.same (h : Row w F v xs) (hs : Same F w w') : Row w' F v xs := by
  rcases h with h | ⟨g, cap, rest, e, hf, hh, h⟩
  · exact .inl h
  · exact .inr ⟨g, cap, rest, e, hf, (hs g hf).trans hh, h⟩
theorem Row.below (h : Row w F v xs) (hb : Below w.heap.size w w') : Row w' F v xs := by
  rcases h with h | ⟨g, cap, rest, e, hf, hh, h⟩
  · exact .inl h
  · exact .inr ⟨g, cap, rest, e, hf, blk_below hh hb, h⟩
theorem Row.drew (h : Row w F v xs) : Row w.drew F v xs := h
theorem Row.alloc (h : Row w F v xs) (o : Obj) : Row (w.alloc o) F v xs := h.below ((Below.refl _ _).alloc (Nat.le_refl _) o)
theorem Row.set (h : Row w F v xs) {a : Addr} (ha : ¬ F a.block) (u : Value) : Row (w.setCell a u) F v xs := h.same (fun k hk => Below.heap_setCell _ _ _ _ (fun e => ha (e ▸ hk)))
theorem Row.slice (h : Row w F v xs) : ∃ A c, v = .slice A xs.length c ∧ xs.length ≤ c ∧ (∀ a, A = some a → a.block < w.heap.size ∧ F a.block ∧ a = ⟨a.block, 0, none⟩) := by
  rcases h with ⟨rfl, rfl⟩ | ⟨g, cap, rest, rfl, hf, hh, _, hc, _⟩
  · exact ⟨none, 0, rfl, Nat.le_refl _, fun a ha => by cases ha⟩
  · exact ⟨_, cap, rfl, hc, fun a ha => by cases ha; exact ⟨blk_lt hh, hf, rfl⟩⟩
theorem Row.own (h : Row w F v xs) : ∀ k, v.ownBlock = some k → F k ∧ k < w.heap.size := by
  rcases h with ⟨rfl, rfl⟩ | ⟨g, cap, rest, rfl, hf, hh, _⟩
  · intro k hk; simp [Value.ownBlock] at hk
  · intro k hk
    have : g = k := by simpa [Value.ownBlock] using hk
    subst this
    exact ⟨hf, blk_lt hh⟩
theorem Row.small (h : Row w F v xs) : xs.length ≤ maxLen := by
  rcases h with ⟨rfl, rfl⟩ | ⟨g, cap, rest, rfl, hf, hh, _, hc, hm⟩
  · exact Nat.zero_le _
  · exact Nat.le_trans hc hm
/-- The row as the library's appends take it. -/
theorem Row.owns (h : Row w F v xs) : w.ownsRow 0 26 23 v xs.length (flat xs) := by
  refine ⟨flat_len xs, ?_⟩
  rcases h with ⟨rfl, rfl⟩ | ⟨g, cap, rest, rfl, hf, hh, hr, hc, hm⟩
  · exact .inl ⟨rfl, rfl⟩
  · refine .inr ⟨g, cap, _, rfl, Nat.zero_le _, hh, hc, hm, ?_, ?_⟩
    · rw [List.size_toArray, List.length_append, flat_len, hr, ← Nat.add_mul, Nat.add_sub_cancel' hc]
    · rw [List.take_left' (flat_len xs)]
theorem Row.of_owns (h : w.ownsRow 0 26 23 v xs.length (flat xs)) (hF : ∀ k, v.ownBlock = some k → F k) : Row w F v xs := by
  rcases h.2 with ⟨rfl, h0⟩ | ⟨g, cap, cur, rfl, _, hh, hc, hm, hs, ht⟩
  · exact .inl ⟨rfl, List.eq_nil_of_length_eq_zero h0⟩
  · refine .inr ⟨g, cap, cur.toList.drop (xs.length * 23), rfl, hF g (by simp [Value.ownBlock]), ?_, ?_, hc, hm⟩
    · rw [← ht, List.take_append_drop, Array.toArray_toList]
      exact hh
    · rw [List.length_drop, Array.length_toList, hs, Nat.sub_mul]
def zsmp : Smp := ⟨0, 0, 0, 0, 0, List.replicate 17 0, ⟨#[]⟩, by refine ⟨by decide, by decide, by decide, by decide, by decide, ⟨rfl, fun k hk => ?_⟩, by decide⟩; rw [List.eq_of_mem_replicate hk]; decide⟩
theorem info : (Try.prog.info? 26).map (fun i => (i.zero, i.size, i.bytes)) = some (some (.agg (cells zsmp).toArray), 23, 80) := by kernel_rfl
/-- append(xs, p). -/
theorem Row.append (h : Row W F v xs) (hF : ∀ k, F k → k < W.heap.size) (p : Smp) (hl : (xs.length + 1) * 80 ≤ 140737488355328) (ty : TypeId) :
    ∃ v1 w1, (Builtin.append_ #[27, 27] ty #[v, .slice (some ⟨W.heap.size, 0, none⟩) 1 1]).run Try.prog (W.alloc (.cells (cells p).toArray 26)) = .ok v1 w1 ∧
      Row w1 (fun k => F k ∨ (W.heap.size ≤ k ∧ k < w1.heap.size)) v1 (xs ++ [p]) ∧ W.grownBy w1 v.ownBlock ∧ W.heap.size < w1.heap.size := by
  obtain ⟨i0, hi, hzz⟩ := Option.map_eq_some_iff.1 info
  simp only [Prod.mk.injEq] at hzz
  obtain ⟨hz0, hz1, hz2⟩ := hzz
  have hn : (W.alloc (.cells (cells p).toArray 26)).heap[W.heap.size]? = some (.cells (cells p).toArray 26 (0, 0)) := heap_alloc_new _ _
  obtain ⟨v1, w1, hr, ho, hg, _, hat⟩ := run_append_own_at (P := Try.prog) (W.alloc (.cells (cells p).toArray 26)) 0 27 ty 26 i0 _ 23 80 Try.underlying27 hi hz0 hz1 hz2 (by show (cells zsmp).toArray.size = 23; rw [List.size_toArray, cells_len]) (by decide)
    v xs.length (flat xs) (h.alloc _).owns ⟨W.heap.size, 0, none⟩ 1 1 (cells p) (by rw [cells_len]) (fun j u hu => by
      rw [add_plain, blk_cell hn, List.getElem?_toArray]
      exact hu) (cells_one p) (by simp only [maxLen]; omega) hl (Nat.zero_le _)
  have hs1 : W.heap.size < w1.heap.size := by have := hg.size; simp at this; omega
  have hg1 : W.grownBy w1 v.ownBlock := World.grownBy.trans (World.grownBy_alloc W _ _) hg
  refine ⟨v1, w1, hr, Row.of_owns (xs := xs ++ [p]) (by rw [flat_append, flat_one, List.length_append]; exact ho) (fun k hk => ?_), hg1, hs1⟩
  rcases hat with hat | hat
  · rw [hat] at hk
    exact .inl (h.own k hk).1
  · rw [hat] at hk
    have : W.heap.size + 1 = k := by simpa using hk
    refine .inr ⟨by omega, ?_⟩
    rcases ho.2 with ⟨e, _⟩ | ⟨g, cap, cur, e, _, hh, _⟩
    · rw [e] at hat
      simp [Value.ownBlock] at hat
    · rw [e] at hat
      have : g = W.heap.size + 1 := by simpa [Value.ownBlock] using hat
      have := blk_lt hh
      omega
/-- The cells of a sample of a row. -/
theorem Row.range {g cap n : Nat} (h : Row w F (.slice (some ⟨g, 0, none⟩) n cap) xs) {i : Nat} (hi : i < xs.length) : w.rangeAt g (i * 23) (cells xs[i]) := by
  rcases h with ⟨e, _⟩ | ⟨g', cap', rest, e, _, hh, _⟩
  · cases e
  · injection e with e1 _ _
    injection e1 with e1
    injection e1 with e1
    subst e1
    intro j u hj
    have hj' : j < 23 := by rw [← cells_len xs[i]]; exact (List.getElem?_eq_some_iff.1 hj).1
    rw [blk_cell hh, List.getElem?_toArray, flat_at xs i hi j hj', hj]
/-- A sample of a row is stored. -/
theorem Row.put {g cap n : Nat} (h : Row w F (.slice (some ⟨g, 0, none⟩) n cap) xs) {i : Nat} (hi : i < xs.length) (x : Smp) :
    w.there g (i * 23) 23 ∧ Row (w.setCells g (i * 23) (cells x)) F (.slice (some ⟨g, 0, none⟩) n cap) (xs.set i x) := by
  rcases h with ⟨e, _⟩ | ⟨g', cap', rest, e, hf, hh, hr, hc, hm⟩
  · cases e
  · have hlen : (flat xs ++ rest).length = xs.length * 23 + rest.length := by rw [List.length_append, flat_len]
    injection e with e1 e2 e3
    injection e1 with e1
    injection e1 with e1
    subst e1 e2 e3
    refine ⟨there_of hh (by rw [hlen]; omega), .inr ⟨g, cap, rest, by rw [List.length_set], hf, ?_, by rw [List.length_set]; exact hr, by rw [List.length_set]; exact hc, hm⟩⟩
    have := setCells_heap g _ (cells x) (i * 23) _ w hh (by rw [hlen, cells_len]; omega)
    rw [this, flat_set xs i hi x rest]
theorem zeros (n : Nat) : (Builtin.zeroCells (cells zsmp).toArray n).toList = flat (List.replicate n zsmp) := by
  have hs : (cells zsmp).toArray.size = 23 := by rw [List.size_toArray, cells_len]
  have hl : (Builtin.zeroCells (cells zsmp).toArray n).toList.length = n * 23 := by rw [Array.length_toList, size_zeroCells, hs]
  apply List.ext_getElem?
  intro i
  by_cases hi : i < n * 23
  · have h1 : i / 23 * 23 + i % 23 = i := by omega
    have h2 : i / 23 < (List.replicate n zsmp).length := by rw [List.length_replicate]; omega
    have h3 := flat_at (List.replicate n zsmp) (i / 23) h2 (i % 23) (Nat.mod_lt _ (by decide)) []
    rw [List.append_nil, h1] at h3
    rw [h3, List.getElem_replicate, List.getElem?_eq_getElem (by omega), List.getElem?_eq_getElem (by rw [cells_len]; omega)]
    unfold Builtin.zeroCells
    simp only [hs, Array.getElem_toList, Array.getElem_map, Array.getElem_range, Option.some.injEq]
    rw [getElem!_pos _ _ (by rw [hs]; omega)]
    rfl
  · rw [List.getElem?_eq_none (by omega), List.getElem?_eq_none (by rw [flat_len, List.length_replicate]; omega)]
/-- clear(xs[k:]). -/
theorem Row.clear {g cap n : Nat} (h : Row w F (.slice (some ⟨g, 0, none⟩) n cap) xs) (k : Nat) (hk : k < xs.length) (c : Nat) (ty : TypeId) :
    (Builtin.clear_ #[27] ty #[.slice (some ⟨g, k * 23, none⟩) (xs.length - k) c]).run Try.prog w = .ok (.tuple #[]) (w.setCells g (k * 23) (flat (List.replicate (xs.length - k) zsmp))) ∧
      Row (w.setCells g (k * 23) (flat (List.replicate (xs.length - k) zsmp))) F (.slice (some ⟨g, 0, none⟩) k cap) (xs.take k) := by
  rcases h with ⟨e, _⟩ | ⟨g', cap', rest, e, hf, hh, hr, hc, hm⟩
  · cases e
  · have hlen : (flat xs ++ rest).length = xs.length * 23 + rest.length := by rw [List.length_append, flat_len]
    injection e with e1 e2 e3
    injection e1 with e1
    injection e1 with e1
    subst e1 e2 e3
    have hvl : (flat (List.replicate (xs.length - k) zsmp)).length = (xs.length - k) * 23 := by rw [flat_len, List.length_replicate]
    have hth := there_of hh (o := k * 23) (n := (xs.length - k) * 23) (by rw [hlen]; omega)
    constructor
    · have hst := run_storeCells_cells (P := Try.prog) g (k * 23) (flat (List.replicate (xs.length - k) zsmp)) 0 w (fun j hj => (hth j (by omega)).1) (fun j hj => (hth j (by omega)).2) (fun u hu => flat_cells hu)
      simp only [Nat.add_zero] at hst
      have hv : ∀ w, (zeroValue 26).run Try.prog w = .ok (.agg (cells zsmp).toArray) w := by
        intro w
        obtain ⟨i0, hi, hzz⟩ := Option.map_eq_some_iff.1 info
        simp only [Prod.mk.injEq] at hzz
        simp [zeroValue, typeInfo, hi, hzz.1]
      obtain ⟨m, hm⟩ : ∃ m, xs.length - k = m + 1 := ⟨xs.length - k - 1, by omega⟩
      have hz := zeros (xs.length - k)
      rw [hm] at hz hst ⊢
      simp [Builtin.clear_, run_underlying Try.underlying27, hv, hz, hst, Value.cells]
    · have := setCells_heap g _ (flat (List.replicate (xs.length - k) zsmp)) (k * 23) _ w hh (by rw [hlen, hvl]; omega)
      have htk : (xs.take k).length = k := by rw [List.length_take]; omega
      refine .inr ⟨g, cap, flat (List.replicate (xs.length - k) zsmp) ++ (flat xs ++ rest).drop (k * 23 + (flat (List.replicate (xs.length - k) zsmp)).length), by rw [htk], hf, ?_, ?_, by omega, hm⟩
      · rw [this, List.take_append_of_le_length (by rw [flat_len]; omega), flat_take xs k (by omega), List.append_assoc]
      · rw [List.length_append, List.length_drop, hvl, hlen, hr, htk]
        rw [← Nat.add_mul]
        omega
end
end Go.Proofs.Ytmlfnlmdnhblmaa.Smp
