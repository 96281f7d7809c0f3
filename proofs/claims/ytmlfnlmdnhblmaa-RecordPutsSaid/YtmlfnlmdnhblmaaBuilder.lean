import Derived.Test.YtmlfnlmdnhblmaaFlat
import Derived.Test.YtmlfnlmdnhblmaaRegion
import Derived.Lib.FrozenHead
import Derived.Lib.UnsafeStr
import Derived.RegionTactic
import Derived.Outline
set_option linter.unusedVariables false
set_option linter.unusedSimpArgs false
namespace Go.Proofs.Ytmlfnlmdnhblmaa.Buf
open Go.RowKit Base Sp Flat Go.Proofs.YtmlfnlmdnhblmaaW.PrintWords Go.Lib
theorem ownF_up {w : World} {base base' : Nat} {e : TypeId} {size : Nat} {v : Value} {n : Nat} {xs : List Value} (h : w.ownsRowF base e size v n xs) (hb : base' ≤ base) : w.ownsRowF base' e size v n xs := by
  refine ⟨h.1, ?_⟩
  rcases h.2 with h1 | ⟨g, cap, cur, fz, hv, hg, r⟩
  · exact .inl h1
  · exact .inr ⟨g, cap, cur, fz, hv, Nat.le_trans hb hg, r⟩
theorem ownF_same {w w' : World} {base : Nat} {e : TypeId} {size : Nat} {v : Value} {n : Nat} {xs : List Value} (h : w.ownsRowF base e size v n xs) (hs : ∀ k, v.ownBlock = some k → w'.heap[k]? = w.heap[k]?) : w'.ownsRowF base e size v n xs := by
  refine ⟨h.1, ?_⟩
  rcases h.2 with h1 | ⟨g, cap, cur, fz, rfl, hb, hg, r⟩
  · exact .inl h1
  · exact .inr ⟨g, cap, cur, fz, rfl, hb, (hs g rfl).trans hg, r⟩
theorem own_str {w : World} {v : Value} {n : Nat} {xs : List Value} (ty : TypeId) (hown : w.ownsRowF 0 5 1 v n xs) (s : ByteArray) (hl : n + s.size ≤ 140737488355328) :
    ∃ v' w', (Builtin.append_ #[46, 9] ty #[v, .string s]).run Try.prog w = .ok v' w' ∧ w'.ownsRowF 0 5 1 v' (n + s.size) (xs ++ strCells s) ∧ w.grownBy w' v.ownBlock ∧ (∀ k, v'.ownBlock = some k → v.ownBlock = some k ∨ w.heap.size ≤ k) := by
  have hinfo : ((Try.prog).info? 5).map (fun i => (i.zero, i.size, i.bytes)) = some (some (.int .u8 0), 1, 1) := by kernel_rfl
  obtain ⟨i0, hi, hz0, hz1, hz2⟩ := info_parts hinfo
  have h63 : n + s.size ≤ maxLen := by simp only [maxLen]; omega
  rcases hown.2 with ⟨rfl, rfl⟩ | ⟨g, cap, cur, fz, rfl, hbg, hg, hfz, hnc, hcm, hcs, htake⟩
  · obtain ⟨v', w', h1, h2, h3, h4⟩ := run_append_own_stringF (P := Try.prog) w w.heap.size 46 9 ty 5 i0 Try.underlying46 Try.underlying9 hi hz0 hz1 hz2 (.slice none 0 0) 0 xs ⟨hown.1, .inl ⟨rfl, rfl⟩⟩ s h63 hl (Nat.le_refl _)
    exact ⟨v', w', h1, ownF_up h2 (Nat.zero_le _), h3, fun k hk => .inr (h2.lt k hk).1⟩
  · obtain ⟨v', w', h1, h2, h3, h4⟩ := run_append_own_stringF (P := Try.prog) w 0 46 9 ty 5 i0 Try.underlying46 Try.underlying9 hi hz0 hz1 hz2 _ n xs hown s h63 hl (Nat.zero_le _)
    refine ⟨v', w', h1, h2, h3, fun k hk => ?_⟩
    by_cases hroom : n + s.size ≤ cap
    · have hr := run_append_room_stringF (P := Try.prog) w 46 9 ty 5 i0 Try.underlying46 Try.underlying9 hi hz1 g n cap cur fz hg (by simpa using hfz) s hroom (by omega)
      rw [h1] at hr
      injection hr with hv _
      subst hv
      left
      simpa [Value.ownBlock] using hk
    · have hxl : xs.length = n := by simpa using hown.1
      have hr := run_append_grow_string (P := Try.prog) w 46 9 ty 5 i0 (.int .u8 0) Try.underlying46 Try.underlying9 hi hz0 ⟨g, 0, none⟩ n cap xs (by rw [hz1]; simpa using hxl) (hown.cells (g := g) rfl) s (by omega) (by omega) (by rw [hz2]; exact growslice_fits (by omega) (by omega))
      rw [h1] at hr
      injection hr with hv _
      subst hv
      right
      have : w.heap.size = k := by simpa [Value.ownBlock] using hk
      omega
/-- Block b. -/
def At (b : Nat) : Nat → Prop := fun k => k = b
theorem at_set {b : Nat} {w w' : World} (h : Mod (At b) w w') (i : Nat) (v : Value) : Mod (At b) w (w'.setCell ⟨b, i, none⟩ v) := h.set (p := ⟨b, i, none⟩) (.inl (show At b b from rfl)) v
theorem freeze_other (w : World) (g n k : Nat) (h : k ≠ g) : (w.freeze ⟨g, 0, none⟩ n).heap[k]? = w.heap[k]? := by
  unfold World.freeze
  split
  · rfl
  · simp only [Array.getElem?_modify]
    rw [if_neg (Ne.symm h)]
theorem freeze_size (w : World) (g n : Nat) : (w.freeze ⟨g, 0, none⟩ n).heap.size = w.heap.size := by
  unfold World.freeze
  split
  · rfl
  · simp
theorem freeze_row (w : World) (g n : Nat) (cur : Array Value) (e : TypeId) (fz : Nat × Nat) (h : w.heap[g]? = some (.cells cur e fz)) (hf : fz.2 ≤ n) : ∃ fz', (w.freeze ⟨g, 0, none⟩ n).heap[g]? = some (.cells cur e fz') ∧ fz'.2 ≤ n := by
  unfold World.freeze
  split
  · exact ⟨fz, h, hf⟩
  · obtain ⟨lo, hi⟩ := fz
    refine ⟨(if lo == hi then (0, 0 + n) else (min lo 0, max hi (0 + n))), by simp [Array.getElem?_modify, h], ?_⟩
    simp only at hf
    split <;> simp <;> omega
theorem Mod.freeze {F : Nat → Prop} {w w' : World} (h : Mod F w w') (g n : Nat) (hg : F g ∨ w.heap.size ≤ g) : Mod F w (w'.freeze ⟨g, 0, none⟩ n) := by
  refine ⟨?_, ?_, ?_, by rw [freeze_size]; exact h.size, fun k hk hF => ?_⟩
  · unfold World.freeze; split <;> exact h.os
  · unfold World.freeze; split <;> exact h.tape
  · unfold World.freeze; split <;> exact h.output
  · rw [freeze_other w' g n k (fun e => by subst e; exact hg.elim hF (fun hg => by omega))]
    exact h.block k hk hF
theorem ownF_froze {w : World} {g cap : Nat} {l : List Value} {n : Nat} (h : w.ownsRowF 0 5 1 (.slice (some ⟨g, 0, none⟩) n cap) n l) : (w.freeze ⟨g, 0, none⟩ n).ownsRowF 0 5 1 (.slice (some ⟨g, 0, none⟩) n cap) n l := by
  refine ⟨h.1, ?_⟩
  rcases h.2 with ⟨hv, _⟩ | ⟨g', cap', cur, fz, hv, hb, hg, hfz, r⟩
  · cases hv
  · injection hv with ha _ hc
    injection ha with ha
    injection ha with hgg _ _
    subst hgg hc
    obtain ⟨fz', h1, h2⟩ := freeze_row w g n cur _ fz hg (by simpa using hfz)
    exact .inr ⟨g, cap, cur, fz', rfl, hb, h1, by simpa using h2, r⟩
theorem unsafeString_none (W : World) (q : Option Addr) : (Builtin.unsafeString_ #[73, 3] 9 #[.pointer q, .int .i64 0]).run Try.prog W = .ok (.string .empty) W :=
  Lib.run_unsafeString_none W 73 3 9 q
/-- An append of a string whose run is known. -/
theorem wp_append' {P : Program} {ops : Array Oper} {rest : List Oper} {o : Oper} {a : Act} {Q : Exit → Act → World → Prop} {W w1 : World} {v1 v u : Value} (hgd : o.guard = none) (s x : Operand) (t t' : TypeId) (ho : o.op = .call { callee := .builtin .append, args := #[s, x], argTypes := #[t, t'] })
    (hs : a.eval s = v) (hx : a.eval x = u) (hrun : (Builtin.append_ #[t, t'] o.type #[v, u]).run P W = .ok v1 w1) (h : wpList P ops Q rest (a.put o.dst v1) w1) : wpList P ops Q (o :: rest) a W := by
  refine wpList_plain hgd fun K hK => ?_
  unfold Oper.wp execOp
  simp only [ho, resolve, invoke, builtin, Sem.run_bind, Sem.run_pure, Result.andThen_ok, List.map_toArray, List.map_cons, List.map_nil, hs, hx, hrun]
  exact hK _ _ h
/-- A builder at cell 1 of block b, whose blocks are F's. -/
def uB (w : World) (F : Nat → Prop) (b : Nat) (at_ : Int) (l : List UInt8) : Prop :=
  ∃ p v, w.heap[b]? = some (.cells #[.int .i64 at_, p, v] 65 (0, 0)) ∧ (p = .pointer none ∨ p = .pointer (some ⟨b, 1, none⟩)) ∧ w.ownsRowF 0 5 1 v l.length (byteCells l) ∧ v.ownBlock ≠ some b ∧ F b ∧ (∀ k, v.ownBlock = some k → F k) ∧ ∀ k, F k → k < w.heap.size
theorem uB.lt {w : World} {F : Nat → Prop} {b : Nat} {at_ : Int} {l : List UInt8} (h : uB w F b at_ l) : ∀ k, F k → k < w.heap.size := by
  obtain ⟨p, v, _, _, _, _, _, _, h⟩ := h
  exact h
theorem uB.at_ {w : World} {F : Nat → Prop} {b : Nat} {at_ : Int} {l : List UInt8} (h : uB w F b at_ l) : F b := by
  obtain ⟨p, v, _, _, _, _, h, _⟩ := h
  exact h
theorem uB.same {w w' : World} {F : Nat → Prop} {b : Nat} {at_ : Int} {l : List UInt8} (h : uB w F b at_ l) (hs : Same F w w') (hz : w.heap.size ≤ w'.heap.size) : uB w' F b at_ l := by
  obtain ⟨p, v, h1, h2, h3, h4, h5, h6, h7⟩ := h
  exact ⟨p, v, (hs b h5).trans h1, h2, ownF_same h3 (fun k hk => hs k (h6 k hk)), h4, h5, h6, fun k hk => Nat.lt_of_lt_of_le (h7 k hk) hz⟩
theorem uB.far {w w' : World} {F G : Nat → Prop} {b : Nat} {at_ : Int} {l : List UInt8} (h : uB w F b at_ l) (hm : Mod G w w') (hd : ∀ k, F k → ¬ G k) : uB w' F b at_ l := h.same (hm.same h.lt hd) hm.size
theorem uB.below {w w' : World} {F : Nat → Prop} {b : Nat} {at_ : Int} {l : List UInt8} (h : uB w F b at_ l) (hb : Below w.heap.size w w') : uB w' F b at_ l := h.same (Same.of hb h.lt) hb.size
set_option maxRecDepth 100000 in
theorem ucheck (b : Nat) (at_ : Int) (p v : Value) (w : World) (h : w.heap[b]? = some (.cells #[.int .i64 at_, p, v] 65 (0, 0))) (hp : p = .pointer none ∨ p = .pointer (some ⟨b, 1, none⟩)) :
    Calls Try.prog 35 #[.pointer (some ⟨b, 1, none⟩)] w fun e w' => e = .returned (.tuple #[]) ∧ w'.heap[b]? = some (.cells #[.int .i64 at_, .pointer (some ⟨b, 1, none⟩), v] 65 (0, 0)) ∧ Mod (At b) w w' := by
  have hsz : ((Try.prog).info? 55).map (·.size) = some 2 := by kernel_rfl
  obtain ⟨j, hj, hjs⟩ := Option.map_eq_some_iff.1 hsz
  have hsh : w.shape? b = some (65, 1 + 2) := by simp [World.shape?, h]
  have hlies : liesAt Try.prog (Try.prog).depth 65 ((1 + 2) / (Try.prog).cellsOf 65) 1 55 1 = true := by kernel_rfl
  have h0 : w.cell? ⟨b, 1, none⟩ = some p := blk_cell h 1
  have hf0 : w.frozen? ⟨b, 1, none⟩ = false := blk_frozen h 1
  have H := Lib.hid h
  clear h
  rcases hp with rfl | rfl
  · go_enter Try.func35, Try.ntmps35
    go_wp2
    rw [Lib.run_to_unsafe w ⟨b, 1, none⟩ Try.underlying53 Try.underlying85 hj (by rw [hjs]; decide) hsh (by show 1 < 1 + 2; omega)]
    simp only [Result.andThen]
    rw [Oper.upon_value]
    go_wp2
    rw [run_callFunc_extern Try.func49 (by kernel_rfl) (by kernel_rfl) (by kernel_rfl) (e := Extern.AbiNoEscape.same) (by kernel_rfl)]
    rw [Lib.run_noEscape]
    simp only [Result.andThen]
    rw [Oper.upon_value]
    go_wp2
    rw [Lib.run_from_unsafe w ⟨b, 1, none⟩ Try.underlying85 Try.underlying53 hj hsh hlies]
    simp only [Result.andThen]
    rw [Oper.upon_value]
    go_wp2
    go_end0
    refine ⟨rfl, ?_, at_set (Mod.refl _ _) _ _⟩
    have := blk_set H.out 1 (.pointer (some ⟨b, 1, none⟩))
    simpa using this
  · go_enter Try.func35, Try.ntmps35
    go_wp2
    rw [Lib.run_neq_ptr_same w _ Try.underlying53 hj]
    go_wp2
    go_end0
    exact ⟨rfl, H.out, Mod.refl _ _⟩
/-- Bytes were written. -/
def uWrote (w : World) (F : Nat → Prop) (b : Nat) (at_ : Int) (l s : List UInt8) (w' : World) : Prop := ∃ F', uB w' F' b at_ (l ++ s) ∧ Mod F w w' ∧ Grow F F' w
set_option maxHeartbeats 1000000 in
set_option maxRecDepth 100000 in
theorem uwrite (F : Nat → Prop) (b : Nat) (at_ : Int) (l : List UInt8) (s : ByteArray) (w : World) (h : uB w F b at_ l) (hl : l.length + s.size ≤ 140737488355328) :
    Calls Try.prog 26 #[.pointer (some ⟨b, 1, none⟩), .string s] w fun e w' => e = .returned (.tuple #[.int .i64 s.size, .nilIface]) ∧ uWrote w F b at_ l s.data.toList w' := by
  obtain ⟨p, v, h1, h2, h3, h4, h5, h6, h7⟩ := h
  have HC := ucheck b at_ p v w h1 h2
  have HL := Lib.hid hl
  have H3 := Lib.hid h3
  have H7 := Lib.hid h7
  have H6 := Lib.hid h6
  have hlt := blk_lt h1
  clear h1 h2 h3 hl h7 h6
  go_enter Try.func26, Try.ntmps26
  go_wp2_with fail
  refine HC.mono ?_
  rintro e w1 ⟨rfl, g1, m1⟩
  have hlt1 := Nat.lt_of_lt_of_le hlt m1.size
  have k1 := ownF_same H3.out (fun k hk => m1.block k (H7.out k (H6.out k hk)) (fun e => h4 (by rw [hk, show k = b from e])))
  obtain ⟨v', w2, hr, o2, gr, hk⟩ := own_str 46 k1 s (by have := HL.out; omega)
  have g2 : w2.heap[b]? = some (.cells #[.int .i64 at_, .pointer (some ⟨b, 1, none⟩), v] 65 (0, 0)) := (gr.block b hlt1 (fun e => h4 e.symm)).trans g1
  obtain ⟨ao, n', cap, rfl⟩ : ∃ ao n' cap, v' = .slice ao n' cap := by
    rcases o2.2 with ⟨hv, _⟩ | ⟨g, cap, cur, fz, hv, _⟩
    · exact ⟨_, _, _, hv⟩
    · exact ⟨_, _, _, hv⟩
  have HR := Lib.hid hr
  have HO := Lib.hid o2
  have HG := Lib.hid gr
  have HK := Lib.hid hk
  have H1 := Lib.hid g1
  have H2 := Lib.hid g2
  have c1 : w1.cell? ⟨b, 1 + 1, none⟩ = some v := blk_cell g1 (1 + 1)
  have d1 : w2.cell? ⟨b, 1 + 1, none⟩ = some v := blk_cell g2 (1 + 1)
  have f1 : w2.frozen? ⟨b, 1 + 1, none⟩ = false := blk_frozen g2 (1 + 1)
  clear hr o2 gr hk g1 g2 k1
  go_wp2_with (at_builtin; refine wp_append' rfl (.tmp 12) (.tmp 13) 46 9 rfl rfl rfl HR.out ?_)
  go_ret2
  refine ⟨rfl, ?_⟩
  have hb1 : (Value.slice ao n' cap).ownBlock ≠ some b := fun e => by
    rcases HK.out b e with hx | hx
    · exact h4 hx
    · omega
  refine ⟨fun k => F k ∨ (Value.slice ao n' cap).ownBlock = some k, ⟨_, .slice ao n' cap, by have := blk_set H2.out (1 + 1) (.slice ao n' cap); simpa using this, .inr rfl, ?_, hb1, .inl h5, fun k hk => .inr hk, fun k hk => ?_⟩, ?_, fun k hk => ?_⟩
  · have o2 := HO.out
    have e1 : (l ++ s.data.toList).length = l.length + s.size := by rw [List.length_append]; rfl
    rw [e1, byteCells_append]
    exact ownF_same o2 (fun k hk => Below.heap_setCell _ _ _ _ (fun e => hb1 (by rw [hk]; exact congrArg _ e)))
  · have hz : (w2.setCell ⟨b, 1 + 1, none⟩ (.slice ao n' cap)).heap.size = w2.heap.size := by simp
    rw [hz]
    rcases hk with hk | hk
    · exact Nat.lt_of_lt_of_le (H7.out k hk) (Nat.le_trans m1.size HG.out.size)
    · exact (HO.out.lt k hk).2
  · refine Mod.set ?_ (.inl h5) _
    refine Mod.grown (m1.mono (fun k hk => .inl (by rw [show k = b from hk]; exact h5))) HG.out (fun k hk => .inl (H6.out k hk))
  · rcases hk with hk | hk
    · exact .inl hk
    · rcases HK.out k hk with hx | hx
      · exact .inl (H6.out k hx)
      · exact .inr (Nat.le_trans m1.size hx)
set_option maxHeartbeats 2000000 in
set_option maxRecDepth 100000 in
theorem ustring (F : Nat → Prop) (b : Nat) (at_ : Int) (l : List UInt8) (w : World) (h : uB w F b at_ l) :
    Calls Try.prog 25 #[.pointer (some ⟨b, 1, none⟩)] w fun e w' => e = .returned (.string ⟨l.toArray⟩) ∧ uB w' F b at_ l ∧ Mod F w w' := by
  obtain ⟨p, v, h1, h2, h3, h4, h5, h6, h7⟩ := h
  have hlt := blk_lt h1
  rcases h3.2 with ⟨rfl, hz⟩ | ⟨g, cap, cur, fz, rfl, hbg, hg, hfz, hnc, hcm, hcs, htake⟩
  · obtain rfl : l = [] := List.eq_nil_of_length_eq_zero hz
    have hA : uB w.drew F b at_ [] ∧ Mod F w w.drew := ⟨⟨p, _, h1, h2, h3, h4, h5, h6, h7⟩, (Mod.refl F w).drew⟩
    have hUS := unsafeString_none
    have c1 : w.drew.cell? ⟨b, 1 + 1, none⟩ = some (.slice none 0 0) := blk_cell (w := w.drew) h1 (1 + 1)
    have hSD : (Builtin.unsafeSliceData_ #[46] 73 #[.slice none 0 0]).run Try.prog w.drew = .ok (.pointer none) w.drew := rfl
    have HA := Lib.hid hA
    clear hA h1 h3 hz h4 h6 h7 hlt
    go_enter Try.func25, Try.ntmps25
    go_wp2
    go_region
    all_goals (go_wp2; go_ret; exact ⟨rfl, HA.out⟩)
  · by_cases hl0 : l = []
    · subst hl0
      by_cases hc0 : cap = 0
      · subst hc0
        have hk : ∀ k, k < w.heap.size → (w.drew.alloc (.view ⟨g, 0, none⟩ 5)).heap[k]? = w.heap[k]? := fun k hk => Lib.alloc_old w.drew _ k hk
        have hA : uB (w.drew.alloc (.view ⟨g, 0, none⟩ 5)) F b at_ [] ∧ Mod F w (w.drew.alloc (.view ⟨g, 0, none⟩ 5)) :=
          ⟨⟨p, _, (hk b hlt).trans h1, h2, ownF_same h3 (fun k he => hk k (h7 k (h6 k he))), h4, h5, h6, fun k he => Nat.lt_succ_of_lt (h7 k he) |> (by simpa using ·)⟩, ((Mod.refl F w).drew).alloc _⟩
        have hUS := unsafeString_none
        have c1 : w.drew.cell? ⟨b, 1 + 1, none⟩ = some (.slice (some ⟨g, 0, none⟩) 0 0) := blk_cell (w := w.drew) h1 (1 + 1)
        have hSD : (Builtin.unsafeSliceData_ #[46] 73 #[.slice (some ⟨g, 0, none⟩) 0 0]).run Try.prog w.drew = .ok (.pointer (some ⟨w.drew.heap.size, 0, none⟩)) (w.drew.alloc (.view ⟨g, 0, none⟩ 5)) :=
          Lib.run_unsafeSliceData_zero w.drew _ _ 5 Try.underlying73 ⟨g, 0, none⟩ 0 (5, cur.size) (by have hg' : w.drew.heap[g]? = some (.cells cur 5 fz) := hg; simp [World.shape?, hg'])
        have c2 : (w.drew.alloc (.view ⟨g, 0, none⟩ 5)).cell? ⟨b, 1 + 1, none⟩ = some (.slice (some ⟨g, 0, none⟩) 0 0) := blk_cell ((hk b hlt).trans h1) (1 + 1)
        have c3 : (w.alloc (.view ⟨g, 0, none⟩ 5)).drew.cell? ⟨b, 1 + 1, none⟩ = some (.slice (some ⟨g, 0, none⟩) 0 0) := c2
        have c0 : w.cell? ⟨b, 1 + 1, none⟩ = some (.slice (some ⟨g, 0, none⟩) 0 0) := c1
        have HA := Lib.hid hA
        clear hA h1 h3 h4 h6 h7 hlt hk hg hfz hcs htake
        go_enter Try.func25, Try.ntmps25
        go_wp2
        go_region
        all_goals (go_wp2; go_ret; exact ⟨rfl, HA.out⟩)
      · have hA : uB w.drew F b at_ [] ∧ Mod F w w.drew := ⟨⟨p, _, h1, h2, h3, h4, h5, h6, h7⟩, (Mod.refl F w).drew⟩
        have hUS := unsafeString_none
        have c1 : w.drew.cell? ⟨b, 1 + 1, none⟩ = some (.slice (some ⟨g, 0, none⟩) 0 cap) := blk_cell (w := w.drew) h1 (1 + 1)
        have hSD : (Builtin.unsafeSliceData_ #[46] 73 #[.slice (some ⟨g, 0, none⟩) 0 cap]).run Try.prog w.drew = .ok (.pointer (some ⟨g, 0, none⟩)) w.drew :=
          Lib.run_unsafeSliceData_row _ _ _ _ _ _ hc0
        have HA := Lib.hid hA
        clear hA h1 h3 h4 h6 h7 hlt hg hfz hcs htake hc0 hnc hcm
        go_enter Try.func25, Try.ntmps25
        go_wp2
        go_region
        all_goals (go_wp2; go_ret; exact ⟨rfl, HA.out⟩)
    · have hl1 : l.length ≠ 0 := by simpa using hl0
      have hcap : cap ≠ 0 := by omega
      have hgb : g ≠ b := fun e => h4 (by simp [Value.ownBlock, e])
      have hFg : F g := h6 g rfl
      have c1 : w.drew.cell? ⟨b, 1 + 1, none⟩ = some (.slice (some ⟨g, 0, none⟩) l.length cap) := blk_cell (w := w.drew) h1 (1 + 1)
      have hSD : (Builtin.unsafeSliceData_ #[46] 73 #[.slice (some ⟨g, 0, none⟩) l.length cap]).run Try.prog w.drew = .ok (.pointer (some ⟨g, 0, none⟩)) w.drew :=
        Lib.run_unsafeSliceData_row _ _ _ _ _ _ hcap
      have hUS : (Builtin.unsafeString_ #[73, 3] 9 #[.pointer (some ⟨g, 0, none⟩), .int .i64 l.length]).run Try.prog w.drew = .ok (.string ⟨l.toArray⟩) (w.drew.freeze ⟨g, 0, none⟩ l.length) := by
        refine Lib.run_unsafeString_row w.drew 73 3 9 5 Try.underlying73 (by kernel_rfl) g cur.size (by have hg' : w.drew.heap[g]? = some (.cells cur 5 fz) := hg; simp [World.shape?, hg']) l hl0 (by omega) (by unfold maxLen at hcm; omega) ?_
        intro j x hx
        have := h3.cells (g := g) rfl j (.int .u8 x.toNat) (by simp [Lib.byteCells, hx])
        exact this
      have hA : uB (w.drew.freeze ⟨g, 0, none⟩ l.length) F b at_ l ∧ Mod F w (w.drew.freeze ⟨g, 0, none⟩ l.length) := by
        refine ⟨⟨p, .slice (some ⟨g, 0, none⟩) l.length cap, (freeze_other w.drew g l.length b (Ne.symm hgb)).trans h1, h2, ?_, h4, h5, h6, fun k hk => by rw [freeze_size]; exact h7 k hk⟩, Mod.freeze (Mod.refl F w).drew g l.length (.inl hFg)⟩
        exact ownF_froze (w := w.drew) h3
      have HA := Lib.hid hA
      clear hA h1 h3 h4 h6 h7 hlt hg hfz hcs htake hgb
      go_enter Try.func25, Try.ntmps25
      go_wp2
      go_region
      all_goals (go_wp2; go_ret; exact ⟨rfl, HA.out⟩)
end Go.Proofs.Ytmlfnlmdnhblmaa.Buf
