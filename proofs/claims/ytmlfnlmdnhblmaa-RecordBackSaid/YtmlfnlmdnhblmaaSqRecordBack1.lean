import Derived.Lib.FrozenHead
import Derived.Lib.UnsafeStr
import Derived.RegionTactic
import Derived.Outline
import Derived.Test.YtmlfnlmdnhblmaaWLast
import Derived.Test.YtmlfnlmdnhblmaaWMore
import Derived.KernelRfl
import Derived.Test.YtmlfnlmdnhblmaaPRecordPutsx1
import Derived.Shelf.Strings.Builder1
import Derived.Shelf.Strings.Builder2
import Derived.Shelf.Strings.BuilderF
import Derived.Shelf.Strings.Prefix
import Derived.Shelf.Bits.Mul64
import Derived.Shelf.Strings.Repeat
import Derived.Test.YtmlfnlmdnhblmaaProg
import Derived.Test.YtmlfnlmdnhblmaaPRecordPutsx2
import Derived.Test.YtmlfnlmdnhblmaaSqRecordBack0
set_option linter.unusedVariables false
set_option linter.unusedSimpArgs false
namespace Go.Proofs.Ytmlfnlmdnhblmaa.Buf
open Go.RowKit Base Sp Flat Go.Proofs.YtmlfnlmdnhblmaaW.PrintWords Go.Lib
theorem ownF_up {w : World} {base base' : Nat} {e : TypeId} {size : Nat} {v : Value} {n : Nat} {xs : List Value} (h : w.ownsRowF base e size v n xs) (hb : base' ≤ base) : w.ownsRowF base' e size v n xs := by
  refine ⟨h.1, ?_⟩
  rcases h.2 with h1 | ⟨g, cap, cur, fz, hv, hg, r⟩
  · exact .inl h1
  · exact .inr ⟨g, cap, cur, fz, hv, Nat.le_trans hb hg, r⟩
theorem ownF_same {w w' : World} {base : Nat} {e : TypeId} {size : Nat} {v : Value} {n : Nat} {xs : List Value} (h : w.ownsRowF base e size v n xs) (hs : ∀ k, v.ownBlock = some k → w'.heap[k]? = w.heap[k]?) : w'.ownsRowF base e size v n xs := by
  refine ⟨h.1, ?_⟩
  rcases h.2 with h1 | ⟨g, cap, cur, fz, rfl, hb, hg, r⟩
  · exact .inl h1
  · exact .inr ⟨g, cap, cur, fz, rfl, hb, (hs g rfl).trans hg, r⟩
theorem own_str {w : World} {v : Value} {n : Nat} {xs : List Value} (ty : TypeId) (hown : w.ownsRowF 0 5 1 v n xs) (s : ByteArray) (hl : n + s.size ≤ 140737488355328) :
    ∃ v' w', (Builtin.append_ #[46, 9] ty #[v, .string s]).run Try.prog w = .ok v' w' ∧ w'.ownsRowF 0 5 1 v' (n + s.size) (xs ++ strCells s) ∧ w.grownBy w' v.ownBlock ∧ (∀ k, v'.ownBlock = some k → v.ownBlock = some k ∨ w.heap.size ≤ k) := by
  have hinfo : ((Try.prog).info? 5).map (fun i => (i.zero, i.size, i.bytes)) = some (some (.int .u8 0), 1, 1) := by kernel_rfl
  obtain ⟨i0, hi, hz0, hz1, hz2⟩ := info_parts hinfo
  have h63 : n + s.size ≤ maxLen := by simp only [maxLen]; omega
  rcases hown.2 with ⟨rfl, rfl⟩ | ⟨g, cap, cur, fz, rfl, hbg, hg, hfz, hnc, hcm, hcs, htake⟩
  · obtain ⟨v', w', h1, h2, h3, h4⟩ := run_append_own_stringF (P := Try.prog) w w.heap.size 46 9 ty 5 i0 Try.underlying46 Try.underlying9 hi hz0 hz1 hz2 (.slice none 0 0) 0 xs ⟨hown.1, .inl ⟨rfl, rfl⟩⟩ s h63 hl (Nat.le_refl _)
    exact ⟨v', w', h1, ownF_up h2 (Nat.zero_le _), h3, fun k hk => .inr (h2.lt k hk).1⟩
  · obtain ⟨v', w', h1, h2, h3, h4⟩ := run_append_own_stringF (P := Try.prog) w 0 46 9 ty 5 i0 Try.underlying46 Try.underlying9 hi hz0 hz1 hz2 _ n xs hown s h63 hl (Nat.zero_le _)
    refine ⟨v', w', h1, h2, h3, fun k hk => ?_⟩
    by_cases hroom : n + s.size ≤ cap
    · have hr := run_append_room_stringF (P := Try.prog) w 46 9 ty 5 i0 Try.underlying46 Try.underlying9 hi hz1 g n cap cur fz hg (by simpa using hfz) s hroom (by omega)
      rw [h1] at hr
      injection hr with hv _
      subst hv
      left
      simpa [Value.ownBlock] using hk
    · have hxl : xs.length = n := by simpa using hown.1
      have hr := run_append_grow_string (P := Try.prog) w 46 9 ty 5 i0 (.int .u8 0) Try.underlying46 Try.underlying9 hi hz0 ⟨g, 0, none⟩ n cap xs (by rw [hz1]; simpa using hxl) (hown.cells (g := g) rfl) s (by omega) (by omega) (by rw [hz2]; exact growslice_fits (by omega) (by omega))
      rw [h1] at hr
      injection hr with hv _
      subst hv
      right
      have : w.heap.size = k := by simpa [Value.ownBlock] using hk
      omega
/-- Block b. -/
def At (b : Nat) : Nat → Prop := fun k => k = b
theorem at_set {b : Nat} {w w' : World} (h : Mod (At b) w w') (i : Nat) (v : Value) : Mod (At b) w (w'.setCell ⟨b, i, none⟩ v) := h.set (p := ⟨b, i, none⟩) (.inl (show At b b from rfl)) v
theorem freeze_other (w : World) (g n k : Nat) (h : k ≠ g) : (w.freeze ⟨g, 0, none⟩ n).heap[k]? = w.heap[k]? := by
  unfold World.freeze
  split
  · rfl
  · simp only [Array.getElem?_modify]
    rw [if_neg (Ne.symm h)]
theorem freeze_size (w : World) (g n : Nat) : (w.freeze ⟨g, 0, none⟩ n).heap.size = w.heap.size := by
  unfold World.freeze
  split
  · rfl
  · simp
theorem freeze_row (w : World) (g n : Nat) (cur : Array Value) (e : TypeId) (fz : Nat × Nat) (h : w.heap[g]? = some (.cells cur e fz)) (hf : fz.2 ≤ n) : ∃ fz', (w.freeze ⟨g, 0, none⟩ n).heap[g]? = some (.cells cur e fz') ∧ fz'.2 ≤ n := by
  unfold World.freeze
  split
  · exact ⟨fz, h, hf⟩
  · obtain ⟨lo, hi⟩ := fz
    refine ⟨(if lo == hi then (0, 0 + n) else (min lo 0, max hi (0 + n))), by simp [Array.getElem?_modify, h], ?_⟩
    simp only at hf
    split <;> simp <;> omega
theorem Mod.freeze {F : Nat → Prop} {w w' : World} (h : Mod F w w') (g n : Nat) (hg : F g ∨ w.heap.size ≤ g) : Mod F w (w'.freeze ⟨g, 0, none⟩ n) := by
  refine ⟨?_, ?_, ?_, by rw [freeze_size]; exact h.size, fun k hk hF => ?_⟩
  · unfold World.freeze; split <;> exact h.os
  · unfold World.freeze; split <;> exact h.tape
  · unfold World.freeze; split <;> exact h.output
  · rw [freeze_other w' g n k (fun e => by subst e; exact hg.elim hF (fun hg => by omega))]
    exact h.block k hk hF
theorem ownF_froze {w : World} {g cap : Nat} {l : List Value} {n : Nat} (h : w.ownsRowF 0 5 1 (.slice (some ⟨g, 0, none⟩) n cap) n l) : (w.freeze ⟨g, 0, none⟩ n).ownsRowF 0 5 1 (.slice (some ⟨g, 0, none⟩) n cap) n l := by
  refine ⟨h.1, ?_⟩
  rcases h.2 with ⟨hv, _⟩ | ⟨g', cap', cur, fz, hv, hb, hg, hfz, r⟩
  · cases hv
  · injection hv with ha _ hc
    injection ha with ha
    injection ha with hgg _ _
    subst hgg hc
    obtain ⟨fz', h1, h2⟩ := freeze_row w g n cur _ fz hg (by simpa using hfz)
    exact .inr ⟨g, cap, cur, fz', rfl, hb, h1, by simpa using h2, r⟩
theorem unsafeString_none (W : World) (q : Option Addr) : (Builtin.unsafeString_ #[73, 3] 9 #[.pointer q, .int .i64 0]).run Try.prog W = .ok (.string .empty) W :=
  Lib.run_unsafeString_none W 73 3 9 q
/-- An append of a string whose run is known. -/
theorem wp_append' {P : Program} {ops : Array Oper} {rest : List Oper} {o : Oper} {a : Act} {Q : Exit → Act → World → Prop} {W w1 : World} {v1 v u : Value} (hgd : o.guard = none) (s x : Operand) (t t' : TypeId) (ho : o.op = .call { callee := .builtin .append, args := #[s, x], argTypes := #[t, t'] })
    (hs : a.eval s = v) (hx : a.eval x = u) (hrun : (Builtin.append_ #[t, t'] o.type #[v, u]).run P W = .ok v1 w1) (h : wpList P ops Q rest (a.put o.dst v1) w1) : wpList P ops Q (o :: rest) a W := by
  refine wpList_plain hgd fun K hK => ?_
  unfold Oper.wp execOp
  simp only [ho, resolve, invoke, builtin, Sem.run_bind, Sem.run_pure, Result.andThen_ok, List.map_toArray, List.map_cons, List.map_nil, hs, hx, hrun]
  exact hK _ _ h
/-- A builder at cell 1 of block b, whose blocks are F's. -/
def uB (w : World) (F : Nat → Prop) (b : Nat) (at_ : Int) (l : List UInt8) : Prop :=
  ∃ p v, w.heap[b]? = some (.cells #[.int .i64 at_, p, v] 65 (0, 0)) ∧ (p = .pointer none ∨ p = .pointer (some ⟨b, 1, none⟩)) ∧ w.ownsRowF 0 5 1 v l.length (byteCells l) ∧ v.ownBlock ≠ some b ∧ F b ∧ (∀ k, v.ownBlock = some k → F k) ∧ ∀ k, F k → k < w.heap.size
theorem uB.lt {w : World} {F : Nat → Prop} {b : Nat} {at_ : Int} {l : List UInt8} (h : uB w F b at_ l) : ∀ k, F k → k < w.heap.size := by
  obtain ⟨p, v, _, _, _, _, _, _, h⟩ := h
  exact h
theorem uB.at_ {w : World} {F : Nat → Prop} {b : Nat} {at_ : Int} {l : List UInt8} (h : uB w F b at_ l) : F b := by
  obtain ⟨p, v, _, _, _, _, h, _⟩ := h
  exact h
theorem uB.same {w w' : World} {F : Nat → Prop} {b : Nat} {at_ : Int} {l : List UInt8} (h : uB w F b at_ l) (hs : Same F w w') (hz : w.heap.size ≤ w'.heap.size) : uB w' F b at_ l := by
  obtain ⟨p, v, h1, h2, h3, h4, h5, h6, h7⟩ := h
  exact ⟨p, v, (hs b h5).trans h1, h2, ownF_same h3 (fun k hk => hs k (h6 k hk)), h4, h5, h6, fun k hk => Nat.lt_of_lt_of_le (h7 k hk) hz⟩
theorem uB.far {w w' : World} {F G : Nat → Prop} {b : Nat} {at_ : Int} {l : List UInt8} (h : uB w F b at_ l) (hm : Mod G w w') (hd : ∀ k, F k → ¬ G k) : uB w' F b at_ l := h.same (hm.same h.lt hd) hm.size
theorem uB.below {w w' : World} {F : Nat → Prop} {b : Nat} {at_ : Int} {l : List UInt8} (h : uB w F b at_ l) (hb : Below w.heap.size w w') : uB w' F b at_ l := h.same (Same.of hb h.lt) hb.size
set_option maxRecDepth 100000 in
theorem ucheck (b : Nat) (at_ : Int) (p v : Value) (w : World) (h : w.heap[b]? = some (.cells #[.int .i64 at_, p, v] 65 (0, 0))) (hp : p = .pointer none ∨ p = .pointer (some ⟨b, 1, none⟩)) :
    Calls Try.prog 35 #[.pointer (some ⟨b, 1, none⟩)] w fun e w' => e = .returned (.tuple #[]) ∧ w'.heap[b]? = some (.cells #[.int .i64 at_, .pointer (some ⟨b, 1, none⟩), v] 65 (0, 0)) ∧ Mod (At b) w w' := by
  have hsz : ((Try.prog).info? 55).map (·.size) = some 2 := by kernel_rfl
  obtain ⟨j, hj, hjs⟩ := Option.map_eq_some_iff.1 hsz
  have hsh : w.shape? b = some (65, 1 + 2) := by simp [World.shape?, h]
  have hlies : liesAt Try.prog (Try.prog).depth 65 ((1 + 2) / (Try.prog).cellsOf 65) 1 55 1 = true := by kernel_rfl
  have h0 : w.cell? ⟨b, 1, none⟩ = some p := blk_cell h 1
  have hf0 : w.frozen? ⟨b, 1, none⟩ = false := blk_frozen h 1
  have H := Lib.hid h
  clear h
  rcases hp with rfl | rfl
  · go_enter Try.func35, Try.ntmps35
    go_wp2
    rw [Lib.run_to_unsafe w ⟨b, 1, none⟩ Try.underlying53 Try.underlying85 hj (by rw [hjs]; decide) hsh (by show 1 < 1 + 2; omega)]
    simp only [Result.andThen]
    rw [Oper.upon_value]
    go_wp2
    rw [run_callFunc_extern Try.func49 (by kernel_rfl) (by kernel_rfl) (by kernel_rfl) (e := Extern.AbiNoEscape.same) (by kernel_rfl)]
    rw [Lib.run_noEscape]
    simp only [Result.andThen]
    rw [Oper.upon_value]
    go_wp2
    rw [Lib.run_from_unsafe w ⟨b, 1, none⟩ Try.underlying85 Try.underlying53 hj hsh hlies]
    simp only [Result.andThen]
    rw [Oper.upon_value]
    go_wp2
    go_end0
    refine ⟨rfl, ?_, at_set (Mod.refl _ _) _ _⟩
    have := blk_set H.out 1 (.pointer (some ⟨b, 1, none⟩))
    simpa using this
  · go_enter Try.func35, Try.ntmps35
    go_wp2
    rw [Lib.run_neq_ptr_same w _ Try.underlying53 hj]
    go_wp2
    go_end0
    exact ⟨rfl, H.out, Mod.refl _ _⟩
/-- Bytes were written. -/
def uWrote (w : World) (F : Nat → Prop) (b : Nat) (at_ : Int) (l s : List UInt8) (w' : World) : Prop := ∃ F', uB w' F' b at_ (l ++ s) ∧ Mod F w w' ∧ Grow F F' w
set_option maxHeartbeats 1000000 in
set_option maxRecDepth 100000 in
theorem uwrite (F : Nat → Prop) (b : Nat) (at_ : Int) (l : List UInt8) (s : ByteArray) (w : World) (h : uB w F b at_ l) (hl : l.length + s.size ≤ 140737488355328) :
    Calls Try.prog 26 #[.pointer (some ⟨b, 1, none⟩), .string s] w fun e w' => e = .returned (.tuple #[.int .i64 s.size, .nilIface]) ∧ uWrote w F b at_ l s.data.toList w' := by
  obtain ⟨p, v, h1, h2, h3, h4, h5, h6, h7⟩ := h
  have HC := ucheck b at_ p v w h1 h2
  have HL := Lib.hid hl
  have H3 := Lib.hid h3
  have H7 := Lib.hid h7
  have H6 := Lib.hid h6
  have hlt := blk_lt h1
  clear h1 h2 h3 hl h7 h6
  go_enter Try.func26, Try.ntmps26
  go_wp2_with fail
  refine HC.mono ?_
  rintro e w1 ⟨rfl, g1, m1⟩
  have hlt1 := Nat.lt_of_lt_of_le hlt m1.size
  have k1 := ownF_same H3.out (fun k hk => m1.block k (H7.out k (H6.out k hk)) (fun e => h4 (by rw [hk, show k = b from e])))
  obtain ⟨v', w2, hr, o2, gr, hk⟩ := own_str 46 k1 s (by have := HL.out; omega)
  have g2 : w2.heap[b]? = some (.cells #[.int .i64 at_, .pointer (some ⟨b, 1, none⟩), v] 65 (0, 0)) := (gr.block b hlt1 (fun e => h4 e.symm)).trans g1
  obtain ⟨ao, n', cap, rfl⟩ : ∃ ao n' cap, v' = .slice ao n' cap := by
    rcases o2.2 with ⟨hv, _⟩ | ⟨g, cap, cur, fz, hv, _⟩
    · exact ⟨_, _, _, hv⟩
    · exact ⟨_, _, _, hv⟩
  have HR := Lib.hid hr
  have HO := Lib.hid o2
  have HG := Lib.hid gr
  have HK := Lib.hid hk
  have H1 := Lib.hid g1
  have H2 := Lib.hid g2
  have c1 : w1.cell? ⟨b, 1 + 1, none⟩ = some v := blk_cell g1 (1 + 1)
  have d1 : w2.cell? ⟨b, 1 + 1, none⟩ = some v := blk_cell g2 (1 + 1)
  have f1 : w2.frozen? ⟨b, 1 + 1, none⟩ = false := blk_frozen g2 (1 + 1)
  clear hr o2 gr hk g1 g2 k1
  go_wp2_with (at_builtin; refine wp_append' rfl (.tmp 12) (.tmp 13) 46 9 rfl rfl rfl HR.out ?_)
  go_ret2
  refine ⟨rfl, ?_⟩
  have hb1 : (Value.slice ao n' cap).ownBlock ≠ some b := fun e => by
    rcases HK.out b e with hx | hx
    · exact h4 hx
    · omega
  refine ⟨fun k => F k ∨ (Value.slice ao n' cap).ownBlock = some k, ⟨_, .slice ao n' cap, by have := blk_set H2.out (1 + 1) (.slice ao n' cap); simpa using this, .inr rfl, ?_, hb1, .inl h5, fun k hk => .inr hk, fun k hk => ?_⟩, ?_, fun k hk => ?_⟩
  · have o2 := HO.out
    have e1 : (l ++ s.data.toList).length = l.length + s.size := by rw [List.length_append]; rfl
    rw [e1, byteCells_append]
    exact ownF_same o2 (fun k hk => Below.heap_setCell _ _ _ _ (fun e => hb1 (by rw [hk]; exact congrArg _ e)))
  · have hz : (w2.setCell ⟨b, 1 + 1, none⟩ (.slice ao n' cap)).heap.size = w2.heap.size := by simp
    rw [hz]
    rcases hk with hk | hk
    · exact Nat.lt_of_lt_of_le (H7.out k hk) (Nat.le_trans m1.size HG.out.size)
    · exact (HO.out.lt k hk).2
  · refine Mod.set ?_ (.inl h5) _
    refine Mod.grown (m1.mono (fun k hk => .inl (by rw [show k = b from hk]; exact h5))) HG.out (fun k hk => .inl (H6.out k hk))
  · rcases hk with hk | hk
    · exact .inl hk
    · rcases HK.out k hk with hx | hx
      · exact .inl (H6.out k hx)
      · exact .inr (Nat.le_trans m1.size hx)
set_option maxHeartbeats 2000000 in
set_option maxRecDepth 100000 in
theorem ustring (F : Nat → Prop) (b : Nat) (at_ : Int) (l : List UInt8) (w : World) (h : uB w F b at_ l) :
    Calls Try.prog 25 #[.pointer (some ⟨b, 1, none⟩)] w fun e w' => e = .returned (.string ⟨l.toArray⟩) ∧ uB w' F b at_ l ∧ Mod F w w' := by
  obtain ⟨p, v, h1, h2, h3, h4, h5, h6, h7⟩ := h
  have hlt := blk_lt h1
  rcases h3.2 with ⟨rfl, hz⟩ | ⟨g, cap, cur, fz, rfl, hbg, hg, hfz, hnc, hcm, hcs, htake⟩
  · obtain rfl : l = [] := List.eq_nil_of_length_eq_zero hz
    have hA : uB w.drew F b at_ [] ∧ Mod F w w.drew := ⟨⟨p, _, h1, h2, h3, h4, h5, h6, h7⟩, (Mod.refl F w).drew⟩
    have hUS := unsafeString_none
    have c1 : w.drew.cell? ⟨b, 1 + 1, none⟩ = some (.slice none 0 0) := blk_cell (w := w.drew) h1 (1 + 1)
    have hSD : (Builtin.unsafeSliceData_ #[46] 73 #[.slice none 0 0]).run Try.prog w.drew = .ok (.pointer none) w.drew := rfl
    have HA := Lib.hid hA
    clear hA h1 h3 hz h4 h6 h7 hlt
    go_enter Try.func25, Try.ntmps25
    go_wp2
    go_region
    all_goals (go_wp2; go_ret; exact ⟨rfl, HA.out⟩)
  · by_cases hl0 : l = []
    · subst hl0
      by_cases hc0 : cap = 0
      · subst hc0
        have hk : ∀ k, k < w.heap.size → (w.drew.alloc (.view ⟨g, 0, none⟩ 5)).heap[k]? = w.heap[k]? := fun k hk => Lib.alloc_old w.drew _ k hk
        have hA : uB (w.drew.alloc (.view ⟨g, 0, none⟩ 5)) F b at_ [] ∧ Mod F w (w.drew.alloc (.view ⟨g, 0, none⟩ 5)) :=
          ⟨⟨p, _, (hk b hlt).trans h1, h2, ownF_same h3 (fun k he => hk k (h7 k (h6 k he))), h4, h5, h6, fun k he => Nat.lt_succ_of_lt (h7 k he) |> (by simpa using ·)⟩, ((Mod.refl F w).drew).alloc _⟩
        have hUS := unsafeString_none
        have c1 : w.drew.cell? ⟨b, 1 + 1, none⟩ = some (.slice (some ⟨g, 0, none⟩) 0 0) := blk_cell (w := w.drew) h1 (1 + 1)
        have hSD : (Builtin.unsafeSliceData_ #[46] 73 #[.slice (some ⟨g, 0, none⟩) 0 0]).run Try.prog w.drew = .ok (.pointer (some ⟨w.drew.heap.size, 0, none⟩)) (w.drew.alloc (.view ⟨g, 0, none⟩ 5)) :=
          Lib.run_unsafeSliceData_zero w.drew _ _ 5 Try.underlying73 ⟨g, 0, none⟩ 0 (5, cur.size) (by have hg' : w.drew.heap[g]? = some (.cells cur 5 fz) := hg; simp [World.shape?, hg'])
        have c2 : (w.drew.alloc (.view ⟨g, 0, none⟩ 5)).cell? ⟨b, 1 + 1, none⟩ = some (.slice (some ⟨g, 0, none⟩) 0 0) := blk_cell ((hk b hlt).trans h1) (1 + 1)
        have c3 : (w.alloc (.view ⟨g, 0, none⟩ 5)).drew.cell? ⟨b, 1 + 1, none⟩ = some (.slice (some ⟨g, 0, none⟩) 0 0) := c2
        have c0 : w.cell? ⟨b, 1 + 1, none⟩ = some (.slice (some ⟨g, 0, none⟩) 0 0) := c1
        have HA := Lib.hid hA
        clear hA h1 h3 h4 h6 h7 hlt hk hg hfz hcs htake
        go_enter Try.func25, Try.ntmps25
        go_wp2
        go_region
        all_goals (go_wp2; go_ret; exact ⟨rfl, HA.out⟩)
      · have hA : uB w.drew F b at_ [] ∧ Mod F w w.drew := ⟨⟨p, _, h1, h2, h3, h4, h5, h6, h7⟩, (Mod.refl F w).drew⟩
        have hUS := unsafeString_none
        have c1 : w.drew.cell? ⟨b, 1 + 1, none⟩ = some (.slice (some ⟨g, 0, none⟩) 0 cap) := blk_cell (w := w.drew) h1 (1 + 1)
        have hSD : (Builtin.unsafeSliceData_ #[46] 73 #[.slice (some ⟨g, 0, none⟩) 0 cap]).run Try.prog w.drew = .ok (.pointer (some ⟨g, 0, none⟩)) w.drew :=
          Lib.run_unsafeSliceData_row _ _ _ _ _ _ hc0
        have HA := Lib.hid hA
        clear hA h1 h3 h4 h6 h7 hlt hg hfz hcs htake hc0 hnc hcm
        go_enter Try.func25, Try.ntmps25
        go_wp2
        go_region
        all_goals (go_wp2; go_ret; exact ⟨rfl, HA.out⟩)
    · have hl1 : l.length ≠ 0 := by simpa using hl0
      have hcap : cap ≠ 0 := by omega
      have hgb : g ≠ b := fun e => h4 (by simp [Value.ownBlock, e])
      have hFg : F g := h6 g rfl
      have c1 : w.drew.cell? ⟨b, 1 + 1, none⟩ = some (.slice (some ⟨g, 0, none⟩) l.length cap) := blk_cell (w := w.drew) h1 (1 + 1)
      have hSD : (Builtin.unsafeSliceData_ #[46] 73 #[.slice (some ⟨g, 0, none⟩) l.length cap]).run Try.prog w.drew = .ok (.pointer (some ⟨g, 0, none⟩)) w.drew :=
        Lib.run_unsafeSliceData_row _ _ _ _ _ _ hcap
      have hUS : (Builtin.unsafeString_ #[73, 3] 9 #[.pointer (some ⟨g, 0, none⟩), .int .i64 l.length]).run Try.prog w.drew = .ok (.string ⟨l.toArray⟩) (w.drew.freeze ⟨g, 0, none⟩ l.length) := by
        refine Lib.run_unsafeString_row w.drew 73 3 9 5 Try.underlying73 (by kernel_rfl) g cur.size (by have hg' : w.drew.heap[g]? = some (.cells cur 5 fz) := hg; simp [World.shape?, hg']) l hl0 (by omega) (by unfold maxLen at hcm; omega) ?_
        intro j x hx
        have := h3.cells (g := g) rfl j (.int .u8 x.toNat) (by simp [Lib.byteCells, hx])
        exact this
      have hA : uB (w.drew.freeze ⟨g, 0, none⟩ l.length) F b at_ l ∧ Mod F w (w.drew.freeze ⟨g, 0, none⟩ l.length) := by
        refine ⟨⟨p, .slice (some ⟨g, 0, none⟩) l.length cap, (freeze_other w.drew g l.length b (Ne.symm hgb)).trans h1, h2, ?_, h4, h5, h6, fun k hk => by rw [freeze_size]; exact h7 k hk⟩, Mod.freeze (Mod.refl F w).drew g l.length (.inl hFg)⟩
        exact ownF_froze (w := w.drew) h3
      have HA := Lib.hid hA
      clear hA h1 h3 h4 h6 h7 hlt hg hfz hcs htake hgb
      go_enter Try.func25, Try.ntmps25
      go_wp2
      go_region
      all_goals (go_wp2; go_ret; exact ⟨rfl, HA.out⟩)
end Go.Proofs.Ytmlfnlmdnhblmaa.Buf
namespace Go.Proofs.Ytmlfnlmdnhblmaa.Wd
open Go.RowKit Base Go.Proofs.YtmlfnlmdnhblmaaW.PrintWords Go.Proofs.YtmlfnlmdnhblmaaW.PrintLast Go.Proofs.YtmlfnlmdnhblmaaW.PrintMore
/-- Is it a size? -/
def sz (s : Int) : Bool := s == 1 || s == 2 || s == 4 || s == 8
theorem sz_cases {s : Int} (h : sz s = true) : s = 1 ∨ s = 2 ∨ s = 4 ∨ s = 8 := by
  unfold sz at h
  simp at h
  omega
/-- 256 to a size. -/
def pw (s : Int) : Int := if s = 1 then 256 else if s = 2 then 65536 else if s = 4 then 4294967296 else 18446744073709551616
def hf (s : Int) : Int := if s = 1 then 128 else if s = 2 then 32768 else if s = 4 then 2147483648 else 9223372036854775808
/-- The number with a sign of some lowest bits. -/
def sgn (n s : Int) : Int := if n % pw s < hf s then n % pw s else n % pw s - pw s
theorem u64_mod (x : Int) : IntKind.u64.wrap x = x % 18446744073709551616 := by
  simp [IntKind.wrap, IntKind.bits, IntKind.signed]
theorem sh (x : Int) (n : Nat) (h : n ≤ 64) : shr .u64 x (n : Int) = x / 2 ^ n := by
  unfold shr
  rw [Int.toNat_natCast, show IntKind.u64.bits = 64 from rfl, Nat.min_eq_left h]
theorem shi (x : Int) (n : Nat) (h : n ≤ 64) : shr .i64 x (n : Int) = x / 2 ^ n := by
  unfold shr
  rw [Int.toNat_natCast, show IntKind.i64.bits = 64 from rfl, Nat.min_eq_left h]
theorem sl_ (x : Int) (n : Nat) (h : n ≤ 64) : shl .u64 x (n : Int) = x * 2 ^ n % 18446744073709551616 := by
  unfold shl
  rw [Int.toNat_natCast, show IntKind.u64.bits = 64 from rfl, Nat.min_eq_left h, u64_mod]
theorem of_nat (n : Nat) : BitVec.ofInt 64 (n : Int) = BitVec.ofNat 64 n := by rw [BitVec.ofInt_natCast]
theorem and_pow (n k : Nat) (hn : n < 2 ^ 64) (hk : k ≤ 64) : Go.bits .and .u64 (n : Int) (((2 ^ k - 1 : Nat)) : Int) = ((n % 2 ^ k : Nat) : Int) := by
  have hp : 2 ^ k ≤ 2 ^ 64 := Nat.pow_le_pow_right (by decide) hk
  have hp0 : 0 < 2 ^ k := Nat.pow_pos (by decide)
  show IntKind.u64.wrap (((BitVec.ofInt 64 (n : Int) &&& BitVec.ofInt 64 (((2 ^ k - 1 : Nat)) : Int)).toNat : Nat) : Int) = _
  rw [of_nat, of_nat, BitVec.toNat_and, BitVec.toNat_ofNat, BitVec.toNat_ofNat, Nat.mod_eq_of_lt hn, Nat.mod_eq_of_lt (by omega), Nat.and_two_pow_sub_one_eq_mod, u64_mod]
  have := Nat.mod_lt n hp0
  have h64 : (2 : Nat) ^ 64 = 18446744073709551616 := by decide
  omega
theorem andNot_pow (n k : Nat) (hn : n < 2 ^ 64) (hk : k ≤ 64) : Go.bits .andNot .u64 (n : Int) (((2 ^ k - 1 : Nat)) : Int) = 0 ↔ n < 2 ^ k := by
  have hp : 2 ^ k ≤ 2 ^ 64 := Nat.pow_le_pow_right (by decide) hk
  have hp0 : 0 < 2 ^ k := Nat.pow_pos (by decide)
  have h64 : (2 : Nat) ^ 64 = 18446744073709551616 := by decide
  have e : Go.bits .andNot .u64 (n : Int) (((2 ^ k - 1 : Nat)) : Int) = (((BitVec.ofNat 64 n &&& ~~~ BitVec.ofNat 64 (2 ^ k - 1)).toNat : Nat) : Int) := by
    show IntKind.u64.wrap (((BitVec.ofInt 64 (n : Int) &&& ~~~ BitVec.ofInt 64 (((2 ^ k - 1 : Nat)) : Int)).toNat : Nat) : Int) = _
    rw [of_nat, of_nat, u64_mod]
    have := (BitVec.ofNat 64 n &&& ~~~ BitVec.ofNat 64 (2 ^ k - 1)).isLt
    omega
  rw [e]
  have key : BitVec.ofNat 64 n &&& ~~~ BitVec.ofNat 64 (2 ^ k - 1) = 0#64 ↔ BitVec.ofNat 64 n &&& BitVec.ofNat 64 (2 ^ k - 1) = BitVec.ofNat 64 n := by
    generalize BitVec.ofNat 64 n = x
    generalize BitVec.ofNat 64 (2 ^ k - 1) = m
    constructor
    · intro h
      apply BitVec.eq_of_getLsbD_eq
      intro i hi
      have := congrArg (fun z => z.getLsbD i) h
      simp [hi] at this ⊢
      cases hx : x.getLsbD i <;> cases hm : m.getLsbD i <;> simp_all
    · intro h
      apply BitVec.eq_of_getLsbD_eq
      intro i hi
      have := congrArg (fun z => z.getLsbD i) h
      simp [hi] at this ⊢
      cases hx : x.getLsbD i <;> cases hm : m.getLsbD i <;> simp_all
  have hz : (((BitVec.ofNat 64 n &&& ~~~ BitVec.ofNat 64 (2 ^ k - 1)).toNat : Nat) : Int) = 0 ↔ BitVec.ofNat 64 n &&& ~~~ BitVec.ofNat 64 (2 ^ k - 1) = 0#64 := by
    constructor
    · intro h
      apply BitVec.eq_of_toNat_eq
      simpa using h
    · intro h
      rw [h]
      rfl
  rw [hz, key]
  constructor
  · intro h
    have h := congrArg BitVec.toNat h
    rw [BitVec.toNat_and, BitVec.toNat_ofNat, BitVec.toNat_ofNat, Nat.mod_eq_of_lt hn, Nat.mod_eq_of_lt (by omega), Nat.and_two_pow_sub_one_eq_mod] at h
    have := Nat.mod_lt n hp0
    omega
  · intro h
    apply BitVec.eq_of_toNat_eq
    rw [BitVec.toNat_and, BitVec.toNat_ofNat, BitVec.toNat_ofNat, Nat.mod_eq_of_lt hn, Nat.mod_eq_of_lt (by omega), Nat.and_two_pow_sub_one_eq_mod, Nat.mod_eq_of_lt h]
theorem andNot_mask {a s : Int} (h : sz s = true) (h0 : 0 ≤ a) (h1 : a < 18446744073709551616) : Go.bits .andNot .u64 a (pw s - 1) = 0 ↔ a < pw s := by
  obtain ⟨n, rfl⟩ : ∃ n : Nat, a = (n : Int) := ⟨a.toNat, by omega⟩
  have h64 : (2 : Nat) ^ 64 = 18446744073709551616 := by decide
  rcases sz_cases h with rfl | rfl | rfl | rfl
  · exact (andNot_pow n 8 (by omega) (by decide)).trans (by show n < 256 ↔ (n : Int) < 256; omega)
  · exact (andNot_pow n 16 (by omega) (by decide)).trans (by show n < 65536 ↔ (n : Int) < 65536; omega)
  · exact (andNot_pow n 32 (by omega) (by decide)).trans (by show n < 4294967296 ↔ (n : Int) < 4294967296; omega)
  · exact (andNot_pow n 64 (by omega) (by decide)).trans (by show n < 18446744073709551616 ↔ (n : Int) < 18446744073709551616; omega)
theorem and_mask {a s : Int} (h : sz s = true) (h0 : 0 ≤ a) (h1 : a < 18446744073709551616) : Go.bits .and .u64 a (pw s - 1) = a % pw s := by
  obtain ⟨n, rfl⟩ : ∃ n : Nat, a = (n : Int) := ⟨a.toNat, by omega⟩
  have h64 : (2 : Nat) ^ 64 = 18446744073709551616 := by decide
  rcases sz_cases h with rfl | rfl | rfl | rfl
  · exact (and_pow n 8 (by omega) (by decide)).trans (by show ((n % 256 : Nat) : Int) = (n : Int) % 256; omega)
  · exact (and_pow n 16 (by omega) (by decide)).trans (by show ((n % 65536 : Nat) : Int) = (n : Int) % 65536; omega)
  · exact (and_pow n 32 (by omega) (by decide)).trans (by show ((n % 4294967296 : Nat) : Int) = (n : Int) % 4294967296; omega)
  · exact (and_pow n 64 (by omega) (by decide)).trans (by show ((n % 18446744073709551616 : Nat) : Int) = (n : Int) % 18446744073709551616; omega)
/-- A number's two's complement. -/
def bitv (n s : Int) : Int × Int := if -hf s ≤ n ∧ n < hf s then (n % pw s, 0) else (0, 7)
theorem sgn_back (n s : Int) (h : sz s = true) (h0 : -9223372036854775808 ≤ n) (h1 : n < 9223372036854775808) : sgn (IntKind.u64.wrap n) s = n ↔ (-hf s ≤ n ∧ n < hf s) := by
  rw [u64_mod]
  unfold sgn
  rcases sz_cases h with rfl | rfl | rfl | rfl
  · show (if n % 18446744073709551616 % 256 < 128 then n % 18446744073709551616 % 256 else n % 18446744073709551616 % 256 - 256) = n ↔ (-128 ≤ n ∧ n < 128)
    split <;> omega
  · show (if n % 18446744073709551616 % 65536 < 32768 then n % 18446744073709551616 % 65536 else n % 18446744073709551616 % 65536 - 65536) = n ↔ (-32768 ≤ n ∧ n < 32768)
    split <;> omega
  · show (if n % 18446744073709551616 % 4294967296 < 2147483648 then n % 18446744073709551616 % 4294967296 else n % 18446744073709551616 % 4294967296 - 4294967296) = n ↔ (-2147483648 ≤ n ∧ n < 2147483648)
    split <;> omega
  · show (if n % 18446744073709551616 % 18446744073709551616 < 9223372036854775808 then n % 18446744073709551616 % 18446744073709551616 else n % 18446744073709551616 % 18446744073709551616 - 18446744073709551616) = n ↔ (-9223372036854775808 ≤ n ∧ n < 9223372036854775808)
    split <;> omega
/-- A number's lowest bytes. -/
def le : Int → Nat → List Int
  | _, 0 => []
  | n, k + 1 => n % 256 :: le (n / 256) k
theorem le_len : ∀ (n : Int) (k : Nat), (le n k).length = k
  | _, 0 => rfl
  | n, k + 1 => by rw [le, List.length_cons, le_len]
/-- What Put answers. -/
def putv (n s : Int) : ByteArray × Int := if n < pw s then (strOfNums (le n s.toNat), 0) else (⟨#[]⟩, 7)
theorem shr_8 (a : Int) (i : Nat) (h : i ≤ 8) : shr .u64 a (IntKind.u64.wrap (wrap64 (8 * (i : Int)))) = a / 256 ^ i := by
  have e : IntKind.u64.wrap (wrap64 (8 * (i : Int))) = ((8 * i : Nat) : Int) := by
    rw [u64_mod]
    unfold wrap64
    omega
  rw [e, sh a (8 * i) (by omega), show (256 : Int) = 2 ^ 8 from by decide, ← Int.pow_mul]
/-- The number of bytes, the lowest first. -/
def lev (f : Nat → Int) : Nat → Int
  | 0 => 0
  | k + 1 => f 0 + 256 * lev (fun i => f (i + 1)) k
theorem lev_lo (f : Nat → Int) (hf : ∀ i, 0 ≤ f i ∧ f i ≤ 255) : ∀ k, 0 ≤ lev f k := by
  intro k
  induction k generalizing f with
  | zero => exact Int.le_refl 0
  | succ k ih =>
    have := ih (fun i => f (i + 1)) (fun i => hf (i + 1))
    have := (hf 0).1
    rw [lev]
    omega
theorem lev_hi (f : Nat → Int) (hf : ∀ i, 0 ≤ f i ∧ f i ≤ 255) : ∀ k, lev f k < 256 ^ k := by
  intro k
  induction k generalizing f with
  | zero => simp [lev]
  | succ k ih =>
    have := ih (fun i => f (i + 1)) (fun i => hf (i + 1))
    have := (hf 0).2
    rw [lev, Int.pow_succ]
    omega
theorem lev_snoc (f : Nat → Int) : ∀ k, lev f (k + 1) = lev f k + f k * 256 ^ k := by
  intro k
  induction k generalizing f with
  | zero => simp [lev]
  | succ k ih =>
    rw [lev, ih (fun i => f (i + 1)), lev, Int.pow_succ, Int.mul_add]
    generalize lev (fun i => f (i + 1)) k = x
    generalize (256 : Int) ^ k = p
    have e : f (k + 1) * (p * 256) = 256 * (f (k + 1) * p) := by rw [Int.mul_comm p 256, ← Int.mul_assoc, Int.mul_comm (f (k + 1)) 256, Int.mul_assoc]
    rw [e]
    omega
/-- What Take answers. -/
def takev (b : ByteArray) (at_ s : Int) : Int × Int :=
  if at_ < 0 ∨ (b.size : Int) < at_ then (0, 7) else if (b.size : Int) - at_ < s then (0, 2) else (lev (fun i => bt b (at_ + i)) s.toNat, 0)
theorem or_add (x c : Int) (i : Nat) (hi : i < 8) (hx0 : 0 ≤ x) (hx : x < 256 ^ i) (hc0 : 0 ≤ c) (hc : c ≤ 255) :
    Go.bits .or .u64 x (shl .u64 (IntKind.u64.wrap c) (IntKind.u64.wrap (wrap64 (8 * (i : Int))))) = x + c * 256 ^ i := by
  have e : IntKind.u64.wrap (wrap64 (8 * (i : Int))) = ((8 * i : Nat) : Int) := by
    rw [u64_mod]
    unfold wrap64
    omega
  have ew : IntKind.u64.wrap c = c := by rw [u64_mod]; omega
  obtain ⟨n, rfl⟩ : ∃ n : Nat, x = (n : Int) := ⟨x.toNat, by omega⟩
  obtain ⟨m, rfl⟩ : ∃ m : Nat, c = (m : Int) := ⟨c.toNat, by omega⟩
  have hp : (256 : Int) ^ i = ((2 ^ (8 * i) : Nat) : Int) := by
    rw [Nat.pow_mul]
    simp
  have hn : n < 2 ^ (8 * i) := by rw [hp] at hx; omega
  have hq : 2 ^ (8 * i) ≤ 2 ^ 56 := Nat.pow_le_pow_right (by decide) (by omega)
  have h56 : (2 : Nat) ^ 56 = 72057594037927936 := by decide
  have h64 : (2 : Nat) ^ 64 = 18446744073709551616 := by decide
  have hm : m * 2 ^ (8 * i) ≤ 255 * 2 ^ 56 := Nat.mul_le_mul (by omega) hq
  have hd : m * 2 ^ (8 * i) + 2 ^ (8 * i) ≤ 2 ^ 64 := by
    have h1 : (m + 1) * 2 ^ (8 * i) ≤ 256 * 2 ^ 56 := Nat.mul_le_mul (by omega) hq
    rw [Nat.add_mul, Nat.one_mul] at h1
    omega
  rw [e, ew, sl_ _ (8 * i) (by omega), hp]
  have e2 : (m : Int) * 2 ^ (8 * i) % 18446744073709551616 = ((m * 2 ^ (8 * i) : Nat) : Int) := by
    have e3 : (m : Int) * 2 ^ (8 * i) = ((m * 2 ^ (8 * i) : Nat) : Int) := by simp
    rw [e3]
    generalize m * 2 ^ (8 * i) = y at *
    omega
  rw [e2]
  show IntKind.u64.wrap (((BitVec.ofInt 64 (n : Int) ||| BitVec.ofInt 64 ((m * 2 ^ (8 * i) : Nat) : Int)).toNat : Nat) : Int) = _
  have eor : n ||| (m * 2 ^ (8 * i)) = m * 2 ^ (8 * i) + n := by rw [Nat.or_comm, Nat.mul_comm m, ← Nat.two_pow_add_eq_or_of_lt hn]
  rw [of_nat, of_nat, BitVec.toNat_or, BitVec.toNat_ofNat, BitVec.toNat_ofNat, Nat.mod_eq_of_lt (by omega), Nat.mod_eq_of_lt (by omega), eor, u64_mod]
  have e4 : (m : Int) * ((2 ^ (8 * i) : Nat) : Int) = ((m * 2 ^ (8 * i) : Nat) : Int) := by simp
  rw [e4]
  generalize m * 2 ^ (8 * i) = y at *
  generalize 2 ^ (8 * i) = q at *
  omega
theorem pow_8 (m : Nat) (h : m ≤ 8) : (256 : Int) ^ m ≤ 256 ^ 8 := by
  have : m = 0 ∨ m = 1 ∨ m = 2 ∨ m = 3 ∨ m = 4 ∨ m = 5 ∨ m = 6 ∨ m = 7 ∨ m = 8 := by omega
  rcases this with rfl | rfl | rfl | rfl | rfl | rfl | rfl | rfl | rfl <;> decide
theorem str_app (a b : List Int) : strOfNums a ++ strOfNums b = strOfNums (a ++ b) := by
  apply ByteArray.ext
  simp [strOfNums]
theorem app_empty (t : ByteArray) : t ++ strOfNums [] = t := by
  apply ByteArray.ext
  simp [strOfNums]
theorem empty_app (t : ByteArray) : (⟨#[]⟩ : ByteArray) ++ t = t := by
  apply ByteArray.ext
  simp
theorem app_assoc (a b c : ByteArray) : (a ++ b) ++ c = a ++ (b ++ c) := by
  apply ByteArray.ext
  simp
theorem lev_le : ∀ (k : Nat) (n : Int), 0 ≤ n → n < 256 ^ k → lev (fun i => (le n k).getD i 0) k = n
  | 0, n, h0, h1 => by
    have : (256 : Int) ^ 0 = 1 := rfl
    show 0 = n
    omega
  | k + 1, n, h0, h1 => by
    have hp : (256 : Int) ^ (k + 1) = 256 ^ k * 256 := Int.pow_succ _ _
    have ih := lev_le k (n / 256) (by omega) (by omega)
    rw [lev]
    have e : (fun i => (le n (k + 1)).getD (i + 1) 0) = (fun i => (le (n / 256) k).getD i 0) := by
      funext i
      rw [le]
      simp [List.getD_eq_getElem?_getD]
    rw [e, ih]
    show (le n (k + 1)).getD 0 0 + 256 * (n / 256) = n
    rw [le]
    simp [List.getD_eq_getElem?_getD]
    omega
theorem le_range : ∀ (k : Nat) (n : Int), ∀ x ∈ le n k, 0 ≤ x ∧ x < 256
  | 0, n, x, h => by cases h
  | k + 1, n, x, h => by
    rw [le] at h
    rcases List.mem_cons.1 h with rfl | h
    · omega
    · exact le_range k (n / 256) x h
theorem bt_mid (a b : ByteArray) (xs : List Int) (hx : ∀ x ∈ xs, 0 ≤ x ∧ x < 256) (i : Nat) (hi : i < xs.length) : bt (a ++ strOfNums xs ++ b) ((a.size : Int) + i) = xs.getD i 0 := by
  have e : ((a.size : Int) + i).toNat = a.size + i := by omega
  have hl : a.size + i < (a ++ strOfNums xs ++ b).size := by
    rw [ByteArray.size_append, ByteArray.size_append, strOfNums_size]
    omega
  unfold bt
  rw [e, dif_pos hl]
  have hg : (a ++ strOfNums xs ++ b)[a.size + i] = UInt8.ofNat (xs.getD i 0).toNat := by
    rw [ByteArray.getElem_append_left (by rw [ByteArray.size_append, strOfNums_size]; omega), ByteArray.getElem_append_right (by omega)]
    show (strOfNums xs).data[a.size + i - a.size]'_ = _
    simp [strOfNums, List.getD_eq_getElem?_getD, List.getElem?_eq_getElem hi]
  have hm := hx (xs.getD i 0) (by rw [List.getD_eq_getElem?_getD, List.getElem?_eq_getElem hi]; exact List.getElem_mem hi)
  rw [hg, UInt8.toNat_ofNat']
  omega
theorem lev_congr (f g : Nat → Int) : ∀ k, (∀ i, i < k → f i = g i) → lev f k = lev g k := by
  intro k
  induction k generalizing f g with
  | zero => intro _; rfl
  | succ k ih =>
    intro h
    rw [lev, lev, h 0 (by omega), ih (fun i => f (i + 1)) (fun i => g (i + 1)) (fun i hi => h (i + 1) (by omega))]
theorem pw_pow {s : Int} (h : sz s = true) : (256 : Int) ^ s.toNat = pw s := by
  rcases sz_cases h with rfl | rfl | rfl | rfl <;> kernel_rfl
theorem take_back (a b : ByteArray) (n s : Int) (h : sz s = true) (h0 : 0 ≤ n) (h1 : n < pw s) : takev (a ++ strOfNums (le n s.toNat) ++ b) (a.size : Int) s = (n, 0) := by
  have hs := sz_cases h
  have hsz : (a ++ strOfNums (le n s.toNat) ++ b).size = a.size + s.toNat + b.size := by rw [ByteArray.size_append, ByteArray.size_append, strOfNums_size, le_len]
  unfold takev
  rw [hsz, if_neg (by omega), if_neg (by omega)]
  have e : lev (fun i => bt (a ++ strOfNums (le n s.toNat) ++ b) ((a.size : Int) + i)) s.toNat = lev (fun i => (le n s.toNat).getD i 0) s.toNat :=
    lev_congr _ _ _ (fun i hi => bt_mid a b _ (le_range _ _) i (by rw [le_len]; exact hi))
  rw [e, lev_le s.toNat n h0 (by rw [pw_pow h]; exact h1)]
/-- What only draws changes nothing below. -/
theorem drawn_below {w w' : World} (h : Drawn0 w w') : Below w.heap.size w w' := by
  obtain ⟨n, rfl⟩ := h.out
  exact pw_below_drewN (Below.refl _ _) n
end Go.Proofs.Ytmlfnlmdnhblmaa.Wd
namespace Go.Proofs.Ytmlfnlmdnhblmaa.Al
open Go.RowKit Base Go.Proofs.YtmlfnlmdnhblmaaW.PrintWords Go.Proofs.YtmlfnlmdnhblmaaW.PrintLast Wd Go.Proofs.Ytmlfnlmdnhblmaa.PRecordPuts
/-- How many bytes are needed till a place is a multiple of a size. -/
def gapv (a s : Int) : Int := if a < 0 then 0 else if sz s then (-a) % s else 0
theorem gapv_le (a s : Int) : 0 ≤ gapv a s ∧ gapv a s ≤ 7 := by
  unfold gapv
  split
  · omega
  · split
    · rename_i h
      rcases sz_cases h with rfl | rfl | rfl | rfl <;> omega
    · omega
theorem and_small (x : Int) (k : Nat) (hk : k ≤ 3) : Go.bits .and .i64 x ((2 ^ k - 1 : Nat) : Int) = x % ((2 ^ k : Nat) : Int) := by
  have hp : 2 ^ k ≤ 2 ^ 3 := Nat.pow_le_pow_right (by decide) hk
  have hp0 : 0 < 2 ^ k := Nat.pow_pos (by decide)
  show IntKind.i64.wrap (((BitVec.ofInt 64 x &&& BitVec.ofInt 64 (((2 ^ k - 1 : Nat)) : Int)).toNat : Nat) : Int) = _
  rw [of_nat, BitVec.toNat_and, BitVec.toNat_ofNat, BitVec.toNat_ofInt, Nat.mod_eq_of_lt (a := 2 ^ k - 1) (by omega), Nat.and_two_pow_sub_one_eq_mod]
  have h1 := Nat.mod_lt (x % ((2 ^ 64 : Nat) : Int)).toNat hp0
  rw [wrapi64 (by omega) (by omega)]
  have h64 : (2 : Nat) ^ 64 = 18446744073709551616 := by decide
  rw [h64]
  have hk4 : k = 0 ∨ k = 1 ∨ k = 2 ∨ k = 3 := by omega
  rcases hk4 with rfl | rfl | rfl | rfl <;> simp only [Nat.reducePow] <;> omega
theorem gap_eq (a s : Int) (h0 : -9223372036854775808 ≤ a) (h1 : a < 9223372036854775808) : align_Gap.f a s = some (gapv a s) := by
  have hm : wrap64 (-(mx a 0)) = -(mx a 0) := by unfold mx wrap64; split <;> omega
  have hmv : mx a 0 = if a < 0 then 0 else a := by unfold mx; repeat' split
                                                   all_goals omega
  unfold align_Gap.f gapv
  rw [hm, hmv]
  by_cases c1 : s = 1
  · subst c1
    rw [if_pos rfl, show sz 1 = true from rfl, show wrap64 (1 - 1) = ((2 ^ 0 - 1 : Nat) : Int) from by kernel_rfl, and_small _ 0 (by decide)]
    congr 1
    simp only [Nat.reducePow]
    split <;> simp <;> omega
  by_cases c2 : s = 2
  · subst c2
    rw [if_neg (by decide), if_pos rfl, show sz 2 = true from rfl, show wrap64 (2 - 1) = ((2 ^ 1 - 1 : Nat) : Int) from by kernel_rfl, and_small _ 1 (by decide)]
    congr 1
    simp only [Nat.reducePow]
    split <;> simp <;> omega
  by_cases c4 : s = 4
  · subst c4
    rw [if_neg (by decide), if_neg (by decide), if_pos rfl, show sz 4 = true from rfl, show wrap64 (4 - 1) = ((2 ^ 2 - 1 : Nat) : Int) from by kernel_rfl, and_small _ 2 (by decide)]
    congr 1
    simp only [Nat.reducePow]
    split <;> simp <;> omega
  by_cases c8 : s = 8
  · subst c8
    rw [if_neg (by decide), if_neg (by decide), if_neg (by decide), if_pos rfl, show sz 8 = true from rfl, show wrap64 (8 - 1) = ((2 ^ 3 - 1 : Nat) : Int) from by kernel_rfl, and_small _ 3 (by decide)]
    congr 1
    simp only [Nat.reducePow]
    split <;> simp <;> omega
  · rw [if_neg c1, if_neg c2, if_neg c4, if_neg c8, show sz s = false from by unfold sz; simp [c1, c2, c4, c8]]
    simp
theorem gap (a s : Int) (h0 : -9223372036854775808 ≤ a) (h1 : a < 9223372036854775808) (w : World) :
    Calls Try.prog 19 #[.int .i64 a, .int .i64 s] w fun e w' => e = .returned (.int .i64 (gapv a s)) ∧ Below w.heap.size w w' :=
  align_Gap.calls a s _ w (gap_eq a s h0 h1)
end Go.Proofs.Ytmlfnlmdnhblmaa.Al
namespace Go.Proofs.Ytmlfnlmdnhblmaa.Wd
open Go.RowKit Base Go.Proofs.YtmlfnlmdnhblmaaW.PrintWords Go.Proofs.YtmlfnlmdnhblmaaW.PrintLast Go.Proofs.YtmlfnlmdnhblmaaW.PrintMore Go.Proofs.Ytmlfnlmdnhblmaa.PRecordPuts
theorem sized_eq (s : Int) : word_sized.f s = some (sz s) := by
  unfold word_sized.f sz
  by_cases h1 : s = 1
  · simp [h1]
  · by_cases h2 : s = 2
    · simp [h2]
    · by_cases h4 : s = 4
      · simp [h4]
      · simp [h1, h2, h4]
theorem mask_eq {s : Int} (h : sz s = true) : word_mask.f s = some (pw s - 1) := by
  rcases sz_cases h with rfl | rfl | rfl | rfl <;> kernel_rfl
theorem put_loop (a s : Int) (hs : s ≤ 8) : ∀ (j i : Nat) (pre : List Int) (k : Nat), ((i + j : Nat) : Int) = s → pre.length = i →
    word_Put.l0 (j + 1 + k) a (pre ++ List.replicate j 0) s (i : Int) = some (strOfNums (pre ++ le (a / 256 ^ i) j), 0)
  | 0, i, pre, k, h, hp => by
    rw [show 0 + 1 + k = k + 1 from by omega]
    simp only [word_Put.l0]
    rw [if_neg (by omega)]
    simp [le]
  | j + 1, i, pre, k, h, hp => by
    rw [show j + 1 + 1 + k = (j + 1 + k) + 1 from by omega]
    simp only [word_Put.l0]
    have e0 : (0 : Int) ≤ IntKind.u64.wrap (wrap64 (8 * (i : Int))) := by
      rw [u64_mod]
      omega
    have ew : wrap64 ((i : Int) + 1) = ((i + 1 : Nat) : Int) := by unfold wrap64; omega
    have es : (pre ++ List.replicate (j + 1) 0).set ((i : Int)).toNat (shr .u64 a (IntKind.u64.wrap (wrap64 (8 * (i : Int)))) % 256) = (pre ++ [a / 256 ^ i % 256]) ++ List.replicate j 0 := by
      rw [Int.toNat_natCast, List.set_append_right _ _ (by omega), hp, Nat.sub_self, shr_8 a i (by omega)]
      simp [List.replicate_succ]
    rw [if_pos (by omega), if_pos e0, if_pos (by omega), if_pos (by simp; omega), ew, es, put_loop a s hs j (i + 1) (pre ++ [a / 256 ^ i % 256]) k (by omega) (by simp [hp])]
    congr 2
    rw [le, List.append_assoc, List.singleton_append, Int.pow_succ, Int.ediv_ediv_of_nonneg (Int.pow_nonneg (by decide))]
theorem put_eq (a s : Int) (k : Nat) (hk : 12 ≤ k) (h0 : 0 ≤ a) (h1 : a < 18446744073709551616) : word_Put.f k a s = some (if sz s then putv a s else (⟨#[]⟩, 4)) := by
  unfold word_Put.f
  rw [sized_eq, Option.bind_some]
  cases h : sz s with
  | false => rfl
  | true =>
    have hs := sz_cases h
    rw [if_pos rfl, mask_eq h, Option.bind_some, if_pos rfl]
    unfold putv
    by_cases hp : a < pw s
    · rw [if_pos ((andNot_mask h h0 h1).2 hp), if_pos (by omega), if_pos (by omega), if_pos hp]
      obtain ⟨n, rfl⟩ : ∃ n : Nat, s = (n : Int) := ⟨s.toNat, by omega⟩
      have := put_loop a n (by omega) n 0 [] (k - n - 1) (by omega) rfl
      rw [show n + 1 + (k - n - 1) = k from by omega, List.nil_append, List.nil_append] at this
      simp only [Int.toNat_natCast]
      rw [show ((0 : Nat) : Int) = 0 from rfl] at this
      rw [this]
      simp
    · rw [if_neg (fun h' => hp ((andNot_mask h h0 h1).1 h')), if_neg hp]
theorem put (a s : Int) (h0 : 0 ≤ a) (h1 : a < 18446744073709551616) (w : World) :
    Calls Try.prog 28 #[.int .u64 a, .int .i64 s] w fun e w' => e = .returned (.tuple #[.string (if sz s then putv a s else (⟨#[]⟩, 4)).1, .int .i64 (if sz s then putv a s else (⟨#[]⟩, 4)).2]) ∧ Below w.heap.size w w' :=
  word_Put.calls 12 a s _ _ w (put_eq a s 12 (by decide) h0 h1)
end Go.Proofs.Ytmlfnlmdnhblmaa.Wd
/-
  DERIVED: THE SHELF's CONTRACTS AT THIS DUMP, IN PLAIN WORDS (tools/lay-plain.mjs out of 'TryShelf.lean', which tools/lay-shelf.mjs wrote): THE SAME DECLARATIONS UNDER THE SAME NAMES: 'import', 'namespace', 'open', 'def', 'theorem' AND NOTHING ELSE: no command of the shelf's: FOR A HAND-IN. Each laying: the table of numbers ('.._ren') and one theorem, a field a fact of the dump's own or the kernel's comparison; each contract: ONE APPLICATION.
-/
namespace Go.Proofs
open Go.Shelf
def Try.lays105_ren : Go.Shelf.Ren := ⟨fun | 105 => 18 | 212 => 31 | 99 => 32 | 165 => 33 | 166 => 26 | 170 => 24 | 169 => 25 | 263 => 43 | 264 => 44 | 206 => 45 | 240 => 35 | 241 => 46 | 276 => 49 | 277 => 52 | n => n, fun | 9 => 9 | 3 => 3 | 4 => 4 | 20 => 20 | 0 => 0 | 46 => 68 | 109 => 69 | 5 => 5 | 72 => 55 | 76 => 58 | 51 => 80 | 146 => 81 | 53 => 22 | 148 => 83 | 70 => 53 | 37 => 46 | 75 => 57 | 127 => 73 | 164 => 85 | 80 => 50 | n => n, fun | n => n⟩
theorem Try.lays105 : Go.Proofs.Lays.n105 Try.prog Try.lays105_ren := {
  mixed := by kernel_rfl
  f99 := Try.func32.trans (congrArg some (by kernel_rfl))
  f105 := Try.func18.trans (congrArg some (by kernel_rfl))
  f165 := Try.func33.trans (congrArg some (by kernel_rfl))
  f166 := Try.func26.trans (congrArg some (by kernel_rfl))
  f169 := Try.func25.trans (congrArg some (by kernel_rfl))
  f170 := Try.func24.trans (congrArg some (by kernel_rfl))
  f206 := Try.func45.trans (congrArg some (by kernel_rfl))
  f212 := Try.func31.trans (congrArg some (by kernel_rfl))
  f240 := Try.func35.trans (congrArg some (by kernel_rfl))
  f241 := Try.func46.trans (congrArg some (by kernel_rfl))
  f263 := Try.func43.trans (congrArg some (by kernel_rfl))
  f264 := Try.func44.trans (congrArg some (by kernel_rfl))
  f276 := Try.func49.trans (congrArg some (by kernel_rfl))
  f277 := Try.func52.trans (congrArg some (by kernel_rfl))
  t0 := Try.underlying0
  a0 := Try.isAgg0
  z0 := Try.sizeOf0
  v0 := Try.zeroValue0
  t3 := Try.underlying3
  a3 := Try.isAgg3
  z3 := Try.sizeOf3
  v3 := Try.zeroValue3
  t4 := Try.underlying4
  a4 := Try.isAgg4
  z4 := Try.sizeOf4
  v4 := Try.zeroValue4
  t5 := Try.underlying5
  a5 := Try.isAgg5
  z5 := Try.sizeOf5
  v5 := Try.zeroValue5
  t9 := Try.underlying9
  a9 := Try.isAgg9
  z9 := Try.sizeOf9
  v9 := Try.zeroValue9
  t20 := Try.underlying20
  a20 := Try.isAgg20
  z20 := Try.sizeOf20
  v20 := Try.zeroValue20
  t37 := Try.underlying46
  a37 := Try.isAgg46
  z37 := Try.sizeOf46
  v37 := Try.zeroValue46
  t46 := Try.underlying68
  a46 := Try.isAgg68
  z46 := Try.sizeOf68
  v46 := Try.zeroValue68
  t51 := Try.underlying80
  a51 := Try.isAgg80
  z51 := Try.sizeOf80
  v51 := Try.zeroValue80
  t53 := Try.underlying22
  a53 := Try.isAgg22
  z53 := Try.sizeOf22
  v53 := Try.zeroValue22
  t70 := Try.underlying53
  a70 := Try.isAgg53
  z70 := Try.sizeOf53
  v70 := Try.zeroValue53
  t72 := Try.underlying55
  a72 := Try.isAgg55
  z72 := Try.sizeOf55
  v72 := Try.zeroValue55
  t75 := Try.underlying57
  a75 := Try.isAgg57
  z75 := Try.sizeOf57
  v75 := Try.zeroValue57
  t76 := Try.underlying58
  a76 := Try.isAgg58
  z76 := Try.sizeOf58
  v76 := Try.zeroValue58
  t109 := Try.underlying69
  a109 := Try.isAgg69
  z109 := Try.sizeOf69
  v109 := Try.zeroValue69
  t127 := Try.underlying73
  a127 := Try.isAgg73
  z127 := Try.sizeOf73
  v127 := Try.zeroValue73
  t146 := Try.underlying81
  a146 := Try.isAgg81
  z146 := Try.sizeOf81
  v146 := Try.zeroValue81
  t148 := Try.underlying83
  a148 := Try.isAgg83
  z148 := Try.sizeOf83
  v148 := Try.zeroValue83
  t164 := Try.underlying85
  a164 := Try.isAgg85
  z164 := Try.sizeOf85
  v164 := Try.zeroValue85 }
theorem Try.Builder_Extra_105 : Builder.Extra Try.prog Try.lays105_ren := {
  sizeBuilder := by kernel_rfl
  liesBuilder := by kernel_rfl
  t5 := Try.underlying5
  a5 := Try.isAgg5
  z5 := Try.sizeOf5
  v5 := Try.zeroValue5
  infoByte := by kernel_rfl
  cellsByte := by kernel_rfl
  sizeByte := by kernel_rfl
  neB5 := by decide }
open Go.RowKit Go.Lib in
/-- **strings.Repeat: count ≥ 0, the result within one allocation: count copies of s.** (LAID: no walk: one application.) -/
theorem Try.strings_Repeat (s : ByteArray) (c : Nat) (w : World) (hc : c ≤ 9223372036854775807) (hlen : s.size * c ≤ 140737488355328) :
    Calls Try.prog 18 #[.string s, .int .i64 c] w fun e w' => e = .returned (.string ⟨(Lib.repeatL s.data.toList c).toArray⟩) ∧ Below w.heap.size w w' := Any.strings_Repeat Try.lays105 Try.Builder_Extra_105 s c w hc hlen
end Go.Proofs
namespace Go.Proofs.Ytmlfnlmdnhblmaa.Buf
open Go.RowKit Base Sp Flat Go.Proofs.YtmlfnlmdnhblmaaW.PrintWords Go.Lib Wd Al
/-- A buffer in block b that holds bytes. -/
def BB (w : World) (F : Nat → Prop) (b : Nat) (l : List UInt8) : Prop := uB w F b (l.length : Int) l
theorem BB.lt {w : World} {F : Nat → Prop} {b : Nat} {l : List UInt8} (h : BB w F b l) : ∀ k, F k → k < w.heap.size := uB.lt h
theorem BB.at_ {w : World} {F : Nat → Prop} {b : Nat} {l : List UInt8} (h : BB w F b l) : F b := uB.at_ h
theorem BB.far {w w' : World} {F G : Nat → Prop} {b : Nat} {l : List UInt8} (h : BB w F b l) (hm : Mod G w w') (hd : ∀ k, F k → ¬ G k) : BB w' F b l := uB.far h hm hd
theorem BB.below {w w' : World} {F : Nat → Prop} {b : Nat} {l : List UInt8} (h : BB w F b l) (hb : Below w.heap.size w w') : BB w' F b l := uB.below h hb
theorem BB.drew {w : World} {F : Nat → Prop} {b : Nat} {l : List UInt8} (h : BB w F b l) : BB w.drew F b l := h
/-- What lies below the blocks that may turn stays. -/
theorem arg {w W : World} {F : Nat → Prop} {B : Nat} {a : Addr} {u : Value} (hm : Mod F w W) (hF : ∀ k, F k → B ≤ k) (ha : a.block < B) (hc : w.cell? a = some u) : W.cell? a = some u :=
  hm.cell hc (fun h => by have := hF _ h; omega)
theorem argc {w W : World} {F : Nat → Prop} {B b o : Nat} {u : Value} (hm : Mod F w W) (hF : ∀ k, F k → B ≤ k) (ha : b < B) (hc : w.cell? ⟨b, o, none⟩ = some u) : W.cell? ⟨b, o, none⟩ = some u := arg hm hF ha hc
theorem argb {w W : World} {b o : Nat} {u : Value} (hb : Below w.heap.size w W) (hc : w.cell? ⟨b, o, none⟩ = some u) : W.cell? ⟨b, o, none⟩ = some u := cbel hb hc (World.block_lt_of_cell? w ⟨b, o, none⟩ hc)
theorem grow_up {w : World} {F F' : Nat → Prop} {B : Nat} (h : Grow F F' w) (hF : ∀ k, F k → B ≤ k) (hB : B ≤ w.heap.size) : ∀ k, F' k → B ≤ k :=
  fun k hk => (h k hk).elim (hF k) (fun h => Nat.le_trans hB h)
/-- What a write makes: the bytes, and where they are. -/
def Wr (w : World) (F : Nat → Prop) (b : Nat) (l : List UInt8) (w' : World) : Prop := ∃ F', BB w' F' b l ∧ Mod F w w' ∧ Grow F F' w
theorem Wr.trans {w w1 w2 : World} {F : Nat → Prop} {b : Nat} {l l2 : List UInt8} (h : ∃ F', BB w1 F' b l ∧ Mod F w w1 ∧ Grow F F' w ∧ Wr w1 F' b l2 w2) : Wr w F b l2 w2 := by
  obtain ⟨F1, h1, m1, g1, F2, h2, m2, g2⟩ := h
  exact ⟨F2, h2, m1.trans m2 (fun k hk => g1 k hk), fun k hk => (g2 k hk).elim (g1 k) (fun h => .inr (Nat.le_trans m1.size h))⟩
theorem fresh (w : World) : BB (w.alloc (.cells #[.int .i64 0, .pointer none, .slice none 0 0] 65)) (fun k => k = w.heap.size) w.heap.size [] :=
  ⟨_, _, heap_alloc_new _ _, .inl rfl, World.ownsRowF_nil _ _ _ _, by simp [Value.ownBlock], rfl, fun k hk => by simp [Value.ownBlock] at hk, fun k hk => by subst hk; simp⟩
theorem new (w : World) : Calls Try.prog 15 #[] w fun e w' => e = .returned (.pointer (some ⟨w.heap.size, 0, none⟩)) ∧ BB w' (fun k => k = w.heap.size) w.heap.size [] ∧ Below w.heap.size w w' := by
  have H := Lib.hid (fresh w)
  go_enter Try.func15, Try.ntmps15
  go_wp2
  go_ret
  exact ⟨rfl, H.out, (Below.refl _ _).alloc (Nat.le_refl _) _⟩
theorem len_ (F : Nat → Prop) (b : Nat) (l : List UInt8) (w : World) (h : BB w F b l) : Calls Try.prog 20 #[.pointer (some ⟨b, 0, none⟩)] w fun e w' => e = .returned (.int .i64 (l.length : Int)) ∧ w = w' := by
  obtain ⟨p, v, h1, -⟩ := h
  have c0 : w.cell? ⟨b, 0, none⟩ = some (.int .i64 (l.length : Int)) := blk_cell h1 0
  clear h1
  go_enter Try.func20, Try.ntmps20
  go_wp2
  go_ret
  exact ⟨rfl, rfl⟩
theorem len_nil (w : World) : Calls Try.prog 20 #[.pointer none] w fun e w' => e = .returned (.int .i64 0) ∧ w = w' := by
  go_enter Try.func20, Try.ntmps20
  go_wp2
  go_ret
  exact ⟨rfl, rfl⟩
theorem bytes (F : Nat → Prop) (b : Nat) (l : List UInt8) (w : World) (h : BB w F b l) : Calls Try.prog 21 #[.pointer (some ⟨b, 0, none⟩)] w fun e w' => e = .returned (.string ⟨l.toArray⟩) ∧ BB w' F b l ∧ Mod F w w' := by
  have H := ustring F b (l.length : Int) l w h
  obtain ⟨p, v, h1, -⟩ := h
  clear h1
  go_enter Try.func21, Try.ntmps21
  go_wp2_with fail
  refine H.mono ?_
  rintro e w' ⟨rfl, hb, hm⟩
  go_wp2
  go_ret
  exact ⟨rfl, hb, hm⟩
theorem bytes_nil (w : World) : Calls Try.prog 21 #[.pointer none] w fun e w' => e = .returned (.string ⟨#[]⟩) ∧ w = w' := by
  go_enter Try.func21, Try.ntmps21
  go_wp2
  go_ret
  exact ⟨rfl, rfl⟩
theorem gap_ (b : Nat) (a s : Int) (w : World) (h : w.cell? ⟨b, 0, none⟩ = some (.int .i64 a)) (h0 : -9223372036854775808 ≤ a) (h1 : a < 9223372036854775808) :
    Calls Try.prog 29 #[.pointer (some ⟨b, 0, none⟩), .int .i64 s] w fun e w' => e = .returned (.int .i64 (gapv a s)) ∧ Below w.heap.size w w' := by
  have H := fun w => Al.gap a s h0 h1 w
  clear h0 h1
  go_enter Try.func29, Try.ntmps29
  go_wp2_with fail
  refine (H _).mono ?_
  rintro e w' ⟨rfl, hb⟩
  go_wp2
  go_ret
  exact ⟨rfl, hb⟩
theorem move_ (b : Nat) (a n : Int) (cs : Array Value) (T : TypeId) (w : World) (h : w.heap[b]? = some (.cells cs T (0, 0))) (hc : cs[0]? = some (.int .i64 a)) (hw : -9223372036854775808 ≤ a + n ∧ a + n < 9223372036854775808) :
    Calls Try.prog 30 #[.pointer (some ⟨b, 0, none⟩), .int .i64 n] w fun e w' => e = .returned (.tuple #[]) ∧ w' = w.setCell ⟨b, 0, none⟩ (.int .i64 (a + n)) := by
  have c0 : w.cell? ⟨b, 0, none⟩ = some (.int .i64 a) := (Lib.cell_of_heap h 0).trans hc
  have f0 : w.frozen? ⟨b, 0, none⟩ = false := Lib.frozen_of_heap h 0
  have hv : IntKind.i64.wrap (a + n) = a + n := wrapi64 hw.1 hw.2
  have hv2 : wrap64 (a + n) = a + n := by unfold wrap64; omega
  clear hw h hc
  go_enter Try.func30, Try.ntmps30
  go_wp2
  go_end0
  exact ⟨rfl, rfl⟩
theorem BB.move {w : World} {F : Nat → Prop} {b : Nat} {a : Int} {l : List UInt8} (h : uB w F b a l) : BB (w.setCell ⟨b, 0, none⟩ (.int .i64 (l.length : Int))) F b l := by
  obtain ⟨p, v, h1, h2, h3, h4, h5, h6, h7⟩ := h
  refine ⟨p, v, by have := blk_set h1 0 (.int .i64 (l.length : Int)); simpa using this, h2, ?_, h4, h5, h6, fun k hk => by simpa using h7 k hk⟩
  exact ownF_same h3 (fun k hk => Below.heap_setCell _ _ _ _ (fun e => h4 (by rw [hk]; exact congrArg _ e)))
set_option maxHeartbeats 1000000 in
theorem text (F : Nat → Prop) (b : Nat) (l : List UInt8) (s : ByteArray) (w : World) (h : BB w F b l) (hl : l.length + s.size ≤ 140737488355328) :
    Calls Try.prog 17 #[.pointer (some ⟨b, 0, none⟩), .string s] w fun e w' => e = .returned (.tuple #[]) ∧ Wr w F b (l ++ s.data.toList) w' := by
  have H := uwrite F b (l.length : Int) l s w h hl
  have HL := Lib.hid hl
  have hF := h.at_
  clear h hl
  go_enter Try.func17, Try.ntmps17
  go_wp2_with fail
  refine H.mono ?_
  rintro e w1 ⟨rfl, F1, h1, m1, g1⟩
  have hM := fun cs T (h : w1.heap[b]? = some (.cells cs T (0, 0))) hc => move_ b (l.length : Int) (s.size : Int) cs T w1 h hc (by have := HL.out; omega)
  have h1' := h1
  obtain ⟨p, v, hb, -⟩ := h1'
  have hM2 := hM _ _ hb rfl
  clear hM hb
  go_wp2_with fail
  refine hM2.mono ?_
  rintro e w2 ⟨rfl, rfl⟩
  go_wp2
  go_end0
  have e1 : ((l.length : Int) + (s.size : Int)) = ((l ++ s.data.toList).length : Int) := by
    rw [List.length_append]
    show _ = ((l.length + s.size : Nat) : Int)
    omega
  rw [e1]
  exact ⟨rfl, F1, BB.move h1, Mod.set m1 (.inl hF) _, g1⟩
theorem text_nil (s : ByteArray) (w : World) : Calls Try.prog 17 #[.pointer none, .string s] w fun e w' => e = .returned (.tuple #[]) ∧ w = w' := by
  go_enter Try.func17, Try.ntmps17
  go_wp2
  go_end0
  exact ⟨rfl, rfl⟩
/-- What Put answers, and what the bytes are then. -/
def pcode (n s : Int) : Int := if sz s then (if n < pw s then 0 else 7) else 4
def nbytes (n s : Int) : List UInt8 := (strOfNums (le n s.toNat)).data.toList
def pbytes (l : List UInt8) (n s : Int) : List UInt8 := l ++ List.replicate (gapv l.length s).toNat 0 ++ nbytes n s
theorem put_res (n s : Int) : (if sz s then putv n s else (⟨#[]⟩, 4)).2 = pcode n s := by
  unfold pcode putv
  repeat' split
  all_goals rfl
theorem put_str (n s : Int) (h : pcode n s = 0) : (if sz s then putv n s else (⟨#[]⟩, 4)).1 = ⟨(nbytes n s).toArray⟩ := by
  unfold pcode at h
  unfold putv nbytes
  split at h
  · split at h
    · rw [if_pos (by assumption), if_pos (by assumption)]
    · cases h
  · cases h
theorem nbytes_len (n s : Int) : (nbytes n s).length = s.toNat := by
  unfold nbytes
  have : (strOfNums (le n s.toNat)).data.toList.length = (strOfNums (le n s.toNat)).size := rfl
  rw [this, strOfNums_size, le_len]
theorem zeros_str (k : Nat) : (Lib.repeatL (⟨#[0]⟩ : ByteArray).data.toList k) = List.replicate k 0 := by
  induction k with
  | zero => rfl
  | succ k ih => rw [List.replicate_succ, ← ih]; rfl
theorem put_bad (b : Nat) (n s : Int) (w : World) (h0 : 0 ≤ n) (h1 : n < 18446744073709551616) (hc : pcode n s ≠ 0) :
    Calls Try.prog 16 #[.pointer (some ⟨b, 0, none⟩), .int .u64 n, .int .i64 s] w fun e w' => e = .returned (.int .i64 (pcode n s)) ∧ Below w.heap.size w w' := by
  have H := fun w => Wd.put n s h0 h1 w
  rw [put_res] at H
  generalize (if sz s then putv n s else (⟨#[]⟩, 4)).1 = r at H
  generalize pcode n s = q at *
  have e : (q == 0) = false := by simpa using hc
  clear h0 h1
  go_enter Try.func16, Try.ntmps16
  go_wp2_with fail
  refine (H _).mono ?_
  rintro e w' ⟨rfl, hb⟩
  go_wp2
  go_ret
  exact ⟨rfl, hb⟩
set_option maxHeartbeats 1000000 in
theorem put_good (F : Nat → Prop) (b : Nat) (l : List UInt8) (n s : Int) (w : World) (h : BB w F b l) (hl : l.length ≤ 140737488355200) (h0 : 0 ≤ n) (h1 : n < 18446744073709551616) (hc : pcode n s = 0) :
    Calls Try.prog 16 #[.pointer (some ⟨b, 0, none⟩), .int .u64 n, .int .i64 s] w fun e w' => e = .returned (.int .i64 0) ∧ Wr w F b (pbytes l n s) w' := by
  have hs8 : s ≤ 8 := by
    unfold pcode at hc
    split at hc
    · rename_i h
      have := sz_cases h
      omega
    · cases hc
  have H := fun w => Wd.put n s h0 h1 w
  rw [put_res, put_str n s hc, hc] at H
  have hG := gapv_le l.length s
  have HG := fun w h => gap_ b (l.length : Int) s w h (by omega) (by omega)
  unfold pbytes
  have hnl := nbytes_len n s
  obtain ⟨g, hg⟩ : ∃ g : Nat, gapv l.length s = (g : Int) := ⟨(gapv l.length s).toNat, by omega⟩
  rw [hg] at HG hG ⊢
  rw [Int.toNat_natCast]
  have HR := fun w => Try.strings_Repeat ⟨#[0]⟩ g w (by omega) (by have : (⟨#[0]⟩ : ByteArray).size = 1 := rfl; rw [this]; omega)
  rw [zeros_str] at HR
  have hB : Hid (l.length ≤ 140737488355200 ∧ g ≤ 7 ∧ (nbytes n s).length ≤ 8) := Lib.hid ⟨hl, by omega, by omega⟩
  generalize nbytes n s = m at *
  clear hnl hg hG hs8 hl hc h0 h1
  go_enter Try.func16, Try.ntmps16
  go_wp2_with fail
  refine (H _).mono ?_
  rintro e w1 ⟨rfl, b1⟩
  have k1 := h.below b1
  have m1 := Mod.of (F := F) b1
  clear h b1 H
  have c0 : w1.cell? ⟨b, 0, none⟩ = some (.int .i64 (l.length : Int)) := by
    obtain ⟨p, v, hb, -⟩ := k1
    exact blk_cell hb 0
  go_wp2_with fail
  refine (HG _ c0).mono ?_
  rintro e w2 ⟨rfl, b2⟩
  have k2 := k1.below b2
  have m2 := m1.trans (Mod.of (F := F) b2) (fun k hk => .inl hk)
  clear k1 m1 b2 HG c0
  go_wp2_with fail
  refine (HR _).mono ?_
  rintro e w3 ⟨rfl, b3⟩
  have k3 := k2.below b3
  have m3 := m2.trans (Mod.of (F := F) b3) (fun k hk => .inl hk)
  clear k2 m2 b3 HR
  go_wp2_with fail
  refine (text F b l ⟨(List.replicate g 0).toArray⟩ w3 k3 (by have := hB.out; show l.length + (List.replicate g (0 : UInt8)).toArray.size ≤ _; simp; omega)).mono ?_
  rintro e w4 ⟨rfl, F4, k4, m4, g4⟩
  go_wp2_with fail
  refine (text F4 b _ ⟨m.toArray⟩ w4 k4 (by have := hB.out; show (l ++ (List.replicate g (0 : UInt8)).toArray.toList).length + m.toArray.size ≤ _; simp; omega)).mono ?_
  rintro e w5 ⟨rfl, F5, k5, m5, g5⟩
  go_wp2
  go_ret
  have mm4 := m3.trans m4 (fun k hk => .inl hk)
  refine ⟨rfl, F5, k5, mm4.trans m5 (fun k hk => (g4 k hk).imp id (fun h => Nat.le_trans m3.size h)), fun k hk => ?_⟩
  rcases g5 k hk with h | h
  · exact (g4 k h).imp id (fun h => Nat.le_trans m3.size h)
  · exact .inr (Nat.le_trans mm4.size h)
theorem put_nil (n s : Int) (w : World) : Calls Try.prog 16 #[.pointer none, .int .u64 n, .int .i64 s] w fun e w' => e = .returned (.int .i64 20) ∧ w = w' := by
  go_enter Try.func16, Try.ntmps16
  go_wp2
  go_ret
  exact ⟨rfl, rfl⟩
end Go.Proofs.Ytmlfnlmdnhblmaa.Buf
namespace Go.Proofs.Ytmlfnlmdnhblmaa.Al
open Go.RowKit Base Sp Go.Proofs.YtmlfnlmdnhblmaaW.PrintWords Go.Proofs.YtmlfnlmdnhblmaaW.PrintLast Wd Buf
/-- Bytes as a text. -/
def tx (l : List UInt8) : ByteArray := ⟨l.toArray⟩
theorem tx_size (l : List UInt8) : (tx l).size = l.length := rfl
theorem tx_app (a b : List UInt8) : tx (a ++ b) = tx a ++ tx b := by
  apply ByteArray.ext
  simp [tx]
theorem tx_of (s : ByteArray) : tx s.data.toList = s := rfl
theorem nums_tx (l : List Int) : strOfNums l = tx (strOfNums l).data.toList := rfl
theorem nums_zeros (k : Nat) : strOfNums (List.replicate k 0) = tx (List.replicate k 0) := by
  apply ByteArray.ext
  simp [strOfNums, tx]
/-- What Put makes of bytes. -/
def pto (l : List UInt8) (n s : Int) : List UInt8 := if pcode n s = 0 then pbytes l n s else l
theorem aput (F : Nat → Prop) (b : Nat) (l : List UInt8) (n s : Int) (w : World) (h : BB w F b l) (hl : l.length ≤ 140737488355200) (h0 : 0 ≤ n) (h1 : n < 18446744073709551616) :
    Calls Try.prog 16 #[.pointer (some ⟨b, 0, none⟩), .int .u64 n, .int .i64 s] w fun e w' => e = .returned (.int .i64 (pcode n s)) ∧ Wr w F b (pto l n s) w' := by
  unfold pto
  by_cases hc : pcode n s = 0
  · rw [if_pos hc, hc]
    exact put_good F b l n s w h hl h0 h1 hc
  · rw [if_neg hc]
    refine (put_bad b n s w h0 h1 hc).mono fun _ _ hh => ⟨hh.1, F, h.below hh.2, Mod.of hh.2, fun _ hk => .inl hk⟩
end Go.Proofs.Ytmlfnlmdnhblmaa.Al
namespace Go.Proofs.Ytmlfnlmdnhblmaa.RGapAlignPuts
open Go.RowKit Base Go.Proofs.YtmlfnlmdnhblmaaW.PrintWords Go.Proofs.YtmlfnlmdnhblmaaW.PrintLast Go.Proofs.YtmlfnlmdnhblmaaW.PrintMore Wd Al Go.Proofs.Ytmlfnlmdnhblmaa.PRecordPuts
theorem rsized (s : Int) : broadsheetref01_Sized.f s = some (sz s) := by
  unfold broadsheetref01_Sized.f sz
  by_cases h1 : s = 1
  · simp [h1]
  · by_cases h2 : s = 2
    · simp [h2]
    · by_cases h4 : s = 4
      · simp [h4]
      · simp [h1, h2, h4]
theorem rgap_loop (a s : Int) (h0 : 0 ≤ a) (hs : sz s = true) : ∀ (j n k : Nat), ((n + j : Nat) : Int) = (-a) % s → broadsheetref02_Gap.l0 (j + 1 + k) a s (n : Int) = some ((-a) % s)
  | 0, n, k, h => by
    rw [show 0 + 1 + k = k + 1 from by omega]
    simp only [broadsheetref02_Gap.l0]
    have hc := sz_cases hs
    have hw : wrap64 (Int.tmod a 8 + n) = a % 8 + n := by
      rw [Int.tmod_eq_emod_of_nonneg h0]
      unfold wrap64
      rcases hc with rfl | rfl | rfl | rfl <;> omega
    rw [hw, if_neg (by omega), Int.tmod_eq_emod_of_nonneg (by omega), if_pos (by rcases hc with rfl | rfl | rfl | rfl <;> omega)]
    congr 1
  | j + 1, n, k, h => by
    rw [show j + 1 + 1 + k = (j + 1 + k) + 1 from by omega]
    simp only [broadsheetref02_Gap.l0]
    have hc := sz_cases hs
    have hw : wrap64 (Int.tmod a 8 + n) = a % 8 + n := by
      rw [Int.tmod_eq_emod_of_nonneg h0]
      unfold wrap64
      rcases hc with rfl | rfl | rfl | rfl <;> omega
    have hw2 : wrap64 ((n : Int) + 1) = ((n + 1 : Nat) : Int) := by
      unfold wrap64
      rcases hc with rfl | rfl | rfl | rfl <;> omega
    rw [hw, if_neg (by omega), Int.tmod_eq_emod_of_nonneg (by omega), if_neg (by rcases hc with rfl | rfl | rfl | rfl <;> omega), hw2]
    exact rgap_loop a s h0 hs j (n + 1) k (by omega)
theorem rgap_eq (a s : Int) (k : Nat) (hk : 12 ≤ k) : broadsheetref02_Gap.f k a s = some (gapv a s) := by
  obtain ⟨k, rfl⟩ : ∃ m, k = m + 1 := ⟨k - 1, by omega⟩
  unfold broadsheetref02_Gap.f gapv
  rw [rsized]
  by_cases h : a < 0
  · rw [if_pos h, if_pos h]
    simp only [broadsheetref02_Gap.j0]
    rfl
  · rw [if_neg h, if_neg h, Option.bind_some]
    cases hs : sz s with
    | false =>
      simp only [broadsheetref02_Gap.j0]
      rfl
    | true =>
      simp only [broadsheetref02_Gap.j0]
      rw [if_pos trivial]
      have hg : 0 ≤ (-a) % s ∧ (-a) % s ≤ 7 := by
        rcases sz_cases hs with rfl | rfl | rfl | rfl <;> omega
      have := rgap_loop a s (by omega) hs ((-a) % s).toNat 0 (k - 1 - ((-a) % s).toNat) (by omega)
      rw [show ((-a) % s).toNat + 1 + (k - 1 - ((-a) % s).toNat) = k from by omega] at this
      exact this
theorem rgap (a s : Int) (w : World) : Calls Try.prog 48 #[.int .i64 a, .int .i64 s] w fun e w' => e = .returned (.int .i64 (gapv a s)) ∧ Below w.heap.size w w' :=
  (broadsheetref02_Gap.calls 12 a s _ w (rgap_eq a s 12 (by decide))).mono fun _ _ h => ⟨h.1, drawn_below h.2⟩
end Go.Proofs.Ytmlfnlmdnhblmaa.RGapAlignPuts
namespace Go.Proofs.Ytmlfnlmdnhblmaa.Wd
open Go.RowKit Base Go.Proofs.YtmlfnlmdnhblmaaW.PrintWords Go.Proofs.YtmlfnlmdnhblmaaW.PrintLast Go.Proofs.YtmlfnlmdnhblmaaW.PrintMore Go.Proofs.Ytmlfnlmdnhblmaa.PRecordPuts
theorem rsized_p (s : Int) : broadsheetref01_Sized.f s = some (sz s) := by
  unfold broadsheetref01_Sized.f sz
  by_cases h1 : s = 1
  · simp [h1]
  · by_cases h2 : s = 2
    · simp [h2]
    · by_cases h4 : s = 4
      · simp [h4]
      · simp [h1, h2, h4]
theorem rput_loop (s : Int) (hs : s ≤ 8) : ∀ (j i : Nat) (x : Int) (t : ByteArray) (k : Nat), ((i + j : Nat) : Int) = s → 0 ≤ x → x < 18446744073709551616 → t.size ≤ 1000 + i →
    broadsheetref01_Put.l0 (j + 1 + k) x s t (i : Int) = some (if x / 256 ^ j = 0 then (t ++ strOfNums (le x j), 0) else (⟨#[]⟩, 7))
  | 0, i, x, t, k, h, h0, h1, ht => by
    rw [show 0 + 1 + k = k + 1 from by omega]
    simp only [broadsheetref01_Put.l0]
    rw [if_neg (by omega), le, app_empty]
    by_cases hx : x = 0
    · rw [if_pos hx, if_pos (by simpa using hx)]
    · rw [if_neg hx, if_neg (by simpa using hx)]
  | j + 1, i, x, t, k, h, h0, h1, ht => by
    rw [show j + 1 + 1 + k = (j + 1 + k) + 1 from by omega]
    simp only [broadsheetref01_Put.l0]
    have ew : wrap64 ((i : Int) + 1) = ((i + 1 : Nat) : Int) := by unfold wrap64; omega
    have em : wrap64 (Int.tmod x 256) = x % 256 := by
      rw [Int.tmod_eq_emod_of_nonneg h0]
      unfold wrap64
      omega
    have ed : IntKind.u64.wrap (Int.tdiv x 256) = x / 256 := by
      rw [Int.tdiv_eq_ediv_of_nonneg h0, u64_mod]
      omega
    unfold broadsheetref01_Byte.f
    rw [if_pos (by omega), em, Option.bind_some, if_pos (by rw [strOfNums_size]; simp; omega), ew, ed, show x % 256 % 256 = x % 256 from by omega,
      rput_loop s hs j (i + 1) (x / 256) _ k (by omega) (by omega) (by omega) (by rw [ByteArray.size_append, strOfNums_size]; simp; omega)]
    rw [le, Int.pow_succ, Int.mul_comm, ← Int.ediv_ediv_of_nonneg (by decide), app_assoc, str_app]
    rfl
theorem rput_eq (a s : Int) (k : Nat) (hk : 12 ≤ k) (h0 : 0 ≤ a) (h1 : a < 18446744073709551616) : broadsheetref01_Put.f k a s = some (if sz s then putv a s else (⟨#[]⟩, 4)) := by
  unfold broadsheetref01_Put.f
  rw [rsized_p, Option.bind_some]
  cases h : sz s with
  | false => rfl
  | true =>
    have hs := sz_cases h
    rw [if_pos rfl, if_pos rfl]
    have hp : a / 256 ^ s.toNat = 0 ↔ a < pw s := by
      rcases hs with rfl | rfl | rfl | rfl
      · show a / 256 = 0 ↔ a < 256; omega
      · show a / 65536 = 0 ↔ a < 65536; omega
      · show a / 4294967296 = 0 ↔ a < 4294967296; omega
      · show a / 18446744073709551616 = 0 ↔ a < 18446744073709551616; omega
    obtain ⟨n, rfl⟩ : ∃ n : Nat, s = (n : Int) := ⟨s.toNat, by omega⟩
    have := rput_loop n (by omega) n 0 a ⟨#[]⟩ (k - n - 1) (by omega) h0 h1 (by show 0 ≤ _; omega)
    rw [show n + 1 + (k - n - 1) = k from by omega, empty_app] at this
    refine this.trans ?_
    unfold putv
    rw [Int.toNat_natCast] at hp ⊢
    by_cases hq : a < pw n
    · rw [if_pos hq, if_pos (hp.2 hq)]
    · rw [if_neg hq, if_neg (fun h => hq (hp.1 h))]
theorem rput (a s : Int) (h0 : 0 ≤ a) (h1 : a < 18446744073709551616) (w : World) :
    Calls Try.prog 47 #[.int .u64 a, .int .i64 s] w fun e w' => e = .returned (.tuple #[.string (if sz s then putv a s else (⟨#[]⟩, 4)).1, .int .i64 (if sz s then putv a s else (⟨#[]⟩, 4)).2]) ∧ Below w.heap.size w w' :=
  broadsheetref01_Put.calls 12 a s _ _ w (rput_eq a s 12 (by decide) h0 h1)
end Go.Proofs.Ytmlfnlmdnhblmaa.Wd
namespace Go.Proofs.Ytmlfnlmdnhblmaa.Al
open Go.RowKit Base Sp Go.Proofs.YtmlfnlmdnhblmaaW.PrintWords Go.Proofs.YtmlfnlmdnhblmaaW.PrintLast Wd Buf Go.Proofs.Ytmlfnlmdnhblmaa.PRecordPuts
theorem rput2_eq (l : List UInt8) (n s : Int) (hl : l.length ≤ 9223372036854775000) (h0 : 0 ≤ n) (h1 : n < 18446744073709551616) : broadsheetref02_Put.f 12 (tx l) n s = some (tx (pto l n s), pcode n s) := by
  unfold broadsheetref02_Put.f
  rw [rput_eq n s 12 (by decide) h0 h1, Option.bind_some, put_res]
  unfold pto
  by_cases hc : pcode n s = 0
  · have hs8 : s ≤ 8 := by
      unfold pcode at hc
      split at hc
      · rename_i h
        have := sz_cases h
        omega
      · cases hc
    have hG := gapv_le l.length s
    have hnl := nbytes_len n s
    rw [if_pos hc, if_pos hc, put_str n s hc, RGapAlignPuts.rgap_eq _ _ 12 (by decide), Option.bind_some, tx_size]
    unfold broadsheetref02_Zeros.f
    rw [if_pos hG.1, if_pos (by omega), Option.bind_some, nums_zeros, tx_size, List.length_replicate, if_pos (by omega), ByteArray.size_append, tx_size, tx_size, List.length_replicate,
      if_pos (by show _ + (nbytes n s).length ≤ _; omega)]
    unfold pbytes
    rw [tx_app, tx_app, hc]
    rfl
  · rw [if_neg hc, if_neg hc]
theorem rput2 (l : List UInt8) (n s : Int) (hl : l.length ≤ 9223372036854775000) (h0 : 0 ≤ n) (h1 : n < 18446744073709551616) (w : World) :
    Calls Try.prog 34 #[.string (tx l), .int .u64 n, .int .i64 s] w fun e w' => e = .returned (.tuple #[.string (tx (pto l n s)), .int .i64 (pcode n s)]) ∧ Below w.heap.size w w' :=
  broadsheetref02_Put.calls 12 (tx l) n s _ _ w (rput2_eq l n s hl h0 h1)
end Go.Proofs.Ytmlfnlmdnhblmaa.Al
namespace Go.Proofs.Ytmlfnlmdnhblmaa.Rec
open Go.RowKit Base Sp Flat Go.Proofs.YtmlfnlmdnhblmaaW.PrintWords Go.Proofs.YtmlfnlmdnhblmaaW.PrintLast Go.Proofs.YtmlfnlmdnhblmaaW.PrintMore Wd Al Buf Smp Go.Proofs.Ytmlfnlmdnhblmaa.PRecordPuts
/-- How many bytes a record has. -/
def rsz (n : Int) : Int := 45 + (if n < 0 then 0 else n) + gapv (45 + (if n < 0 then 0 else n)) 8
theorem gapv8 (a : Int) (h : 0 ≤ a) : gapv a 8 = (-a) % 8 := by
  unfold gapv
  rw [if_neg (by omega), if_pos (by decide)]
theorem rsz_eq (n : Int) : rsz n = 45 + (if n < 0 then 0 else n) + (-(45 + (if n < 0 then 0 else n))) % 8 := by
  unfold rsz
  rw [gapv8 _ (by split <;> omega)]
theorem rsz_rng (n : Int) (h : n ≤ 1000000000) : 48 ≤ rsz n ∧ rsz n ≤ 1000000100 ∧ rsz n % 8 = 0 := by
  rw [rsz_eq]
  split <;> omega
theorem size_eq (n : Int) (hn : n ≤ 1000000000) : record_Size.f n = some (rsz n) := by
  obtain ⟨m, hm⟩ : ∃ m : Int, m = (if n < 0 then 0 else n) := ⟨_, rfl⟩
  have hm0 : 0 ≤ m ∧ m ≤ 1000000000 := by rw [hm]; split <;> omega
  have hx : mx n 0 = m := by rw [hm]; unfold mx; repeat' split
                             all_goals omega
  have hg := gapv_le (45 + m) 8
  unfold record_Size.f rsz
  rw [hx, ← hm, show wrap64 (45 + m) = 45 + m from by unfold wrap64; omega, gap_eq _ _ (by omega) (by omega), Option.bind_some, show wrap64 (45 + m + gapv (45 + m) 8) = 45 + m + gapv (45 + m) 8 from by unfold wrap64; omega]
theorem size (n : Int) (hn : n ≤ 1000000000) (w : World) : Calls Try.prog 11 #[.int .i64 n] w fun e w' => e = .returned (.int .i64 (rsz n)) ∧ Below w.heap.size w w' :=
  record_Size.calls n _ w (size_eq n hn)
theorem rsize_l (m : Int) (hm : 0 ≤ m ∧ m ≤ 1000000000) (R : Int) (hR : R = 45 + m + (-(45 + m)) % 8) : ∀ (d : Nat) (x : Int), x + 8 * d = R → 48 ≤ x → Ev (fun k => broadsheetref40_Size.l0 k m x) R
  | 0, x, h, hx => by
    have e : x = R := by omega
    subst e
    refine Ev.step (f := fun _ => some x) (fun k => ?_) (Ev.now _)
    simp only [broadsheetref40_Size.l0]
    rw [show wrap64 (x - 45) = x - 45 from by unfold wrap64; omega, if_neg (by omega)]
  | d + 1, x, h, hx => by
    have ih := rsize_l m hm R hR d (x + 8) (by omega) (by omega)
    refine Ev.step (fun k => ?_) ih
    simp only [broadsheetref40_Size.l0]
    rw [show wrap64 (x - 45) = x - 45 from by unfold wrap64; omega, show wrap64 (x + 8) = x + 8 from by unfold wrap64; omega, if_pos (by omega)]
theorem rsize_ev (n : Int) (hn : n ≤ 1000000000) : Ev (fun k => broadsheetref40_Size.f k n) (rsz n) := by
  have key : ∀ m : Int, 0 ≤ m → m ≤ 1000000000 → m = (if n < 0 then 0 else n) → Ev (fun k => broadsheetref40_Size.j0 k m) (rsz n) := fun m h0 h1 hm => by
    refine Ev.step (f := fun k => broadsheetref40_Size.l0 k m 48) (fun k => by simp only [broadsheetref40_Size.j0]) ?_
    refine rsize_l m ⟨h0, h1⟩ (rsz n) (by rw [rsz_eq, ← hm]) ((rsz n - 48) / 8).toNat 48 ?_ (by omega)
    have := rsz_rng n hn
    omega
  unfold broadsheetref40_Size.f
  by_cases h : n < 0
  · simp only [if_pos h] at key ⊢
    exact key 0 (by omega) (by omega) rfl
  · simp only [if_neg h] at key ⊢
    exact key n (by omega) hn rfl
theorem rsize (n : Int) (hn : n ≤ 1000000000) (w : World) : Calls Try.prog 12 #[.int .i64 n] w fun e w' => e = .returned (.int .i64 (rsz n)) ∧ Below w.heap.size w w' := by
  obtain ⟨k, hk⟩ := (rsize_ev n hn).rounds
  exact (broadsheetref40_Size.calls k n _ w hk).mono fun _ _ h => ⟨h.1, drawn_below h.2⟩
/-- A key's bytes. -/
def kby (k : List Int) : List UInt8 := k.map fun n => UInt8.ofNat n.toNat
theorem kby_tx (k : List Int) : strOfNums k = tx (kby k) := rfl
theorem kby_len (k : List Int) : (kby k).length = k.length := List.length_map _
/-- A record's numbers, and the record. -/
def rhd (x : Smp) : List UInt8 := nbytes x.frame 8 ++ nbytes x.run 8 ++ nbytes x.seq 8
def rmd (x : Smp) : List UInt8 := rhd x ++ nbytes x.op 1 ++ nbytes x.writer 1 ++ nbytes (x.data.size : Int) 2
def rbd (x : Smp) : List UInt8 := rmd x ++ kby x.key ++ x.data.data.toList
def rgp (x : Smp) : Nat := (gapv (45 + (x.data.size : Int)) 8).toNat
def recb (x : Smp) : List UInt8 := rbd x ++ List.replicate (rgp x) 0
theorem rhd_len (x : Smp) : (rhd x).length = 24 := by unfold rhd; simp only [List.length_append, nbytes_len]; rfl
theorem rmd_len (x : Smp) : (rmd x).length = 28 := by unfold rmd; simp only [List.length_append, nbytes_len, rhd_len]; rfl
theorem data_len (x : Smp) : x.data.data.toList.length = x.data.size := rfl
theorem rbd_len (x : Smp) : (rbd x).length = 45 + x.data.size := by unfold rbd; simp only [List.length_append, rmd_len, kby_len, key_len, data_len]
theorem recb_len (x : Smp) : ((recb x).length : Int) = rsz x.data.size := by
  have := gapv_le (45 + (x.data.size : Int)) 8
  unfold recb rsz rgp
  rw [if_neg (by omega), List.length_append, rbd_len, List.length_replicate]
  omega
theorem rgp_le (x : Smp) : rgp x ≤ 7 := by
  have := gapv_le (45 + (x.data.size : Int)) 8
  unfold rgp
  omega
/-- Is a sample out of range? -/
def bad (x : Smp) : Bool := decide (x.op < 0) || decide (255 < x.op) || decide (x.writer < 0) || decide (255 < x.writer)
theorem bad_f {x : Smp} (h : bad x = false) : 0 ≤ x.op ∧ x.op ≤ 255 ∧ 0 ≤ x.writer ∧ x.writer ≤ 255 := by
  unfold bad at h
  simp only [Bool.or_eq_false_iff, decide_eq_false_iff_not] at h
  omega
/-- What Put answers. -/
def rput (x : Smp) : ByteArray × Int := if bad x then (⟨#[]⟩, 7) else if 512 < x.data.size then (⟨#[]⟩, 3) else (tx (recb x), 0)
/-- A put without a gap. -/
theorem pbytes_flat (L : List UInt8) (n s : Int) (m : Nat) (hl : L.length = m) (hg : gapv m s = 0) : pbytes L n s = L ++ nbytes n s := by
  unfold pbytes
  rw [hl, hg]
  simp
theorem pcode8 (n : Int) (h1 : n < 18446744073709551616) : pcode n 8 = 0 := by
  unfold pcode
  rw [if_pos (by decide), if_pos (by show n < 18446744073709551616; exact h1)]
theorem pcode1 (n : Int) (h1 : n ≤ 255) : pcode n 1 = 0 := by
  unfold pcode
  rw [if_pos (by decide), if_pos (by show n < 256; omega)]
theorem pcode2 (n : Int) (h1 : n ≤ 65535) : pcode n 2 = 0 := by
  unfold pcode
  rw [if_pos (by decide), if_pos (by show n < 65536; omega)]
theorem u64r {n : Int} (h : (Lit.int .u64 n).wf = true) : 0 ≤ n ∧ n < 18446744073709551616 := wf_u64 h
theorem size23 (x : Smp) : (Try.prog.info? 26).map (·.size) = some (cells x).length := by rw [cells_len]; kernel_rfl
theorem box_range {w : World} {g : Nat} {t : TypeId} {x : Smp} (h : w.heap[g]? = some (.cells (cells x).toArray t (0, 0))) : w.rangeAt g 0 (cells x) := fun j u hj => by
  rw [blk_cell h, Nat.zero_add, List.getElem?_toArray]
  exact hj
theorem box_set {w : World} {g : Nat} {t : TypeId} {x y : Smp} (h : w.heap[g]? = some (.cells (cells y).toArray t (0, 0))) : (w.setCells g 0 (cells x)).heap[g]? = some (.cells (cells x).toArray t (0, 0)) := by
  rw [setCells_heap g t (cells x) 0 _ w h (by rw [cells_len, cells_len]; omega), List.take_zero, List.nil_append, List.drop_eq_nil_of_le (by rw [cells_len, cells_len]; omega), List.append_nil]
/-- A sample's cells in its box. -/
structure BoxC (w : World) (g : Nat) (x : Smp) : Prop where
  c0 : w.cell? ⟨g, 0, none⟩ = some (.int .i64 x.op)
  c1 : w.cell? ⟨g, 1, none⟩ = some (.int .i64 x.writer)
  c2 : w.cell? ⟨g, 2, none⟩ = some (.int .u64 x.frame)
  c3 : w.cell? ⟨g, 3, none⟩ = some (.int .u64 x.run)
  c4 : w.cell? ⟨g, 4, none⟩ = some (.int .u64 x.seq)
  c22 : w.cell? ⟨g, 22, none⟩ = some (.string x.data)
  ck : ∀ i, i < 17 → w.cell? ⟨g, 5 + i, none⟩ = some (.int .u8 (x.key.getD i 0))
theorem BoxC.of {w : World} {g : Nat} {t : TypeId} {x : Smp} (h : w.heap[g]? = some (.cells (cells x).toArray t (0, 0))) : BoxC w g x := by
  have hk : ∀ j, (cells x)[5 + j]? = (nums .u8 x.key ++ [.string x.data])[j]? := fun j => by
    unfold cells head
    rw [List.getElem?_append_right (by simp)]
    simp only [List.length_cons, List.length_nil]
    rw [show 5 + j - (0 + 1 + 1 + 1 + 1 + 1) = j from by omega]
  refine ⟨?_, ?_, ?_, ?_, ?_, ?_, fun i hi => ?_⟩
  · rw [blk_cell h, List.getElem?_toArray]; rfl
  · rw [blk_cell h, List.getElem?_toArray]; rfl
  · rw [blk_cell h, List.getElem?_toArray]; rfl
  · rw [blk_cell h, List.getElem?_toArray]; rfl
  · rw [blk_cell h, List.getElem?_toArray]; rfl
  · rw [blk_cell h, List.getElem?_toArray, show (22 : Nat) = 5 + 17 from rfl, hk, List.getElem?_append_right (by rw [nums_length, key_len]; omega), nums_length, key_len]
    rfl
  · rw [blk_cell h, List.getElem?_toArray, hk, List.getElem?_append_left (by rw [nums_length, key_len]; exact hi)]
    unfold nums
    rw [List.getElem?_map, List.getElem?_eq_getElem (by rw [key_len]; exact hi), List.getD_eq_getElem?_getD, List.getElem?_eq_getElem (by rw [key_len]; exact hi)]
    rfl
end Go.Proofs.Ytmlfnlmdnhblmaa.Rec
