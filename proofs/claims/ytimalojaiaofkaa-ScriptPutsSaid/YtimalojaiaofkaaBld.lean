import Derived.Test.YtimalojaiaofkaaFlat
import Derived.Test.YtimalojaiaofkaaRegion
import Derived.Lib.FrozenHead
import Derived.Lib.UnsafeStr
import Derived.RegionTactic
import Derived.Outline
set_option linter.unusedVariables false
set_option linter.unusedSimpArgs false
namespace Go.Proofs.Ytimalojaiaofkaa.Buf
open Go.RowKit Base Sp Flat Go.Proofs.YtimalojaiaofkaaW.PrintWords Go.Lib
theorem ownF_up {w : World} {base base' : Nat} {e : TypeId} {size : Nat} {v : Value} {n : Nat} {xs : List Value} (h : w.ownsRowF base e size v n xs) (hb : base' ≤ base) : w.ownsRowF base' e size v n xs := by
  refine ⟨h.1, ?_⟩
  rcases h.2 with h1 | ⟨g, cap, cur, fz, hv, hg, r⟩
  · exact .inl h1
  · exact .inr ⟨g, cap, cur, fz, hv, Nat.le_trans hb hg, r⟩
theorem ownF_same {w w' : World} {base : Nat} {e : TypeId} {size : Nat} {v : Value} {n : Nat} {xs : List Value} (h : w.ownsRowF base e size v n xs) (hs : ∀ k, v.ownBlock = some k → w'.heap[k]? = w.heap[k]?) : w'.ownsRowF base e size v n xs := by
  refine ⟨h.1, ?_⟩
  rcases h.2 with h1 | ⟨g, cap, cur, fz, rfl, hb, hg, r⟩
  · exact .inl h1
  · exact .inr ⟨g, cap, cur, fz, rfl, hb, (hs g rfl).trans hg, r⟩
theorem own_str {w : World} {v : Value} {n : Nat} {xs : List Value} (ty : TypeId) (hown : w.ownsRowF 0 5 1 v n xs) (s : ByteArray) (hl : n + s.size ≤ 140737488355328) :
    ∃ v' w', (Builtin.append_ #[104, 9] ty #[v, .string s]).run Try.prog w = .ok v' w' ∧ w'.ownsRowF 0 5 1 v' (n + s.size) (xs ++ strCells s) ∧ w.grownBy w' v.ownBlock ∧ (∀ k, v'.ownBlock = some k → v.ownBlock = some k ∨ w.heap.size ≤ k) := by
  have hinfo : ((Try.prog).info? 5).map (fun i => (i.zero, i.size, i.bytes)) = some (some (.int .u8 0), 1, 1) := by kernel_rfl
  obtain ⟨i0, hi, hz0, hz1, hz2⟩ := info_parts hinfo
  have h63 : n + s.size ≤ maxLen := by simp only [maxLen]; omega
  rcases hown.2 with ⟨rfl, rfl⟩ | ⟨g, cap, cur, fz, rfl, hbg, hg, hfz, hnc, hcm, hcs, htake⟩
  · obtain ⟨v', w', h1, h2, h3, h4⟩ := run_append_own_stringF (P := Try.prog) w w.heap.size 104 9 ty 5 i0 Try.underlying104 Try.underlying9 hi hz0 hz1 hz2 (.slice none 0 0) 0 xs ⟨hown.1, .inl ⟨rfl, rfl⟩⟩ s h63 hl (Nat.le_refl _)
    exact ⟨v', w', h1, ownF_up h2 (Nat.zero_le _), h3, fun k hk => .inr (h2.lt k hk).1⟩
  · obtain ⟨v', w', h1, h2, h3, h4⟩ := run_append_own_stringF (P := Try.prog) w 0 104 9 ty 5 i0 Try.underlying104 Try.underlying9 hi hz0 hz1 hz2 _ n xs hown s h63 hl (Nat.zero_le _)
    refine ⟨v', w', h1, h2, h3, fun k hk => ?_⟩
    by_cases hroom : n + s.size ≤ cap
    · have hr := run_append_room_stringF (P := Try.prog) w 104 9 ty 5 i0 Try.underlying104 Try.underlying9 hi hz1 g n cap cur fz hg (by simpa using hfz) s hroom (by omega)
      rw [h1] at hr
      injection hr with hv _
      subst hv
      left
      simpa [Value.ownBlock] using hk
    · have hxl : xs.length = n := by simpa using hown.1
      have hr := run_append_grow_string (P := Try.prog) w 104 9 ty 5 i0 (.int .u8 0) Try.underlying104 Try.underlying9 hi hz0 ⟨g, 0, none⟩ n cap xs (by rw [hz1]; simpa using hxl) (hown.cells (g := g) rfl) s (by omega) (by omega) (by rw [hz2]; exact growslice_fits (by omega) (by omega))
      rw [h1] at hr
      injection hr with hv _
      subst hv
      right
      have : w.heap.size = k := by simpa [Value.ownBlock] using hk
      omega
/-- Block b. -/
def At (b : Nat) : Nat → Prop := fun k => k = b
theorem at_set {b : Nat} {w w' : World} (h : Mod (At b) w w') (i : Nat) (v : Value) : Mod (At b) w (w'.setCell ⟨b, i, none⟩ v) := h.set (p := ⟨b, i, none⟩) (.inl (show At b b from rfl)) v
theorem freeze_other (w : World) (g n k : Nat) (h : k ≠ g) : (w.freeze ⟨g, 0, none⟩ n).heap[k]? = w.heap[k]? := by
  unfold World.freeze
  split
  · rfl
  · simp only [Array.getElem?_modify]
    rw [if_neg (Ne.symm h)]
theorem freeze_size (w : World) (g n : Nat) : (w.freeze ⟨g, 0, none⟩ n).heap.size = w.heap.size := by
  unfold World.freeze
  split
  · rfl
  · simp
theorem freeze_row (w : World) (g n : Nat) (cur : Array Value) (e : TypeId) (fz : Nat × Nat) (h : w.heap[g]? = some (.cells cur e fz)) (hf : fz.2 ≤ n) : ∃ fz', (w.freeze ⟨g, 0, none⟩ n).heap[g]? = some (.cells cur e fz') ∧ fz'.2 ≤ n := by
  unfold World.freeze
  split
  · exact ⟨fz, h, hf⟩
  · obtain ⟨lo, hi⟩ := fz
    refine ⟨(if lo == hi then (0, 0 + n) else (min lo 0, max hi (0 + n))), by simp [Array.getElem?_modify, h], ?_⟩
    simp only at hf
    split <;> simp <;> omega
theorem Mod.freeze {F : Nat → Prop} {w w' : World} (h : Mod F w w') (g n : Nat) (hg : F g ∨ w.heap.size ≤ g) : Mod F w (w'.freeze ⟨g, 0, none⟩ n) := by
  refine ⟨?_, ?_, ?_, by rw [freeze_size]; exact h.size, fun k hk hF => ?_⟩
  · unfold World.freeze; split <;> exact h.os
  · unfold World.freeze; split <;> exact h.tape
  · unfold World.freeze; split <;> exact h.output
  · rw [freeze_other w' g n k (fun e => by subst e; exact hg.elim hF (fun hg => by omega))]
    exact h.block k hk hF
theorem ownF_froze {w : World} {g cap : Nat} {l : List Value} {n : Nat} (h : w.ownsRowF 0 5 1 (.slice (some ⟨g, 0, none⟩) n cap) n l) : (w.freeze ⟨g, 0, none⟩ n).ownsRowF 0 5 1 (.slice (some ⟨g, 0, none⟩) n cap) n l := by
  refine ⟨h.1, ?_⟩
  rcases h.2 with ⟨hv, _⟩ | ⟨g', cap', cur, fz, hv, hb, hg, hfz, r⟩
  · cases hv
  · injection hv with ha _ hc
    injection ha with ha
    injection ha with hgg _ _
    subst hgg hc
    obtain ⟨fz', h1, h2⟩ := freeze_row w g n cur _ fz hg (by simpa using hfz)
    exact .inr ⟨g, cap, cur, fz', rfl, hb, h1, by simpa using h2, r⟩
theorem unsafeString_none (W : World) (q : Option Addr) : (Builtin.unsafeString_ #[135, 3] 9 #[.pointer q, .int .i64 0]).run Try.prog W = .ok (.string .empty) W :=
  Lib.run_unsafeString_none W 135 3 9 q
/-- An append of a string whose run is known. -/
theorem wp_append' {P : Program} {ops : Array Oper} {rest : List Oper} {o : Oper} {a : Act} {Q : Exit → Act → World → Prop} {W w1 : World} {v1 v u : Value} (hgd : o.guard = none) (s x : Operand) (t t' : TypeId) (ho : o.op = .call { callee := .builtin .append, args := #[s, x], argTypes := #[t, t'] })
    (hs : a.eval s = v) (hx : a.eval x = u) (hrun : (Builtin.append_ #[t, t'] o.type #[v, u]).run P W = .ok v1 w1) (h : wpList P ops Q rest (a.put o.dst v1) w1) : wpList P ops Q (o :: rest) a W := by
  refine wpList_plain hgd fun K hK => ?_
  unfold Oper.wp execOp
  simp only [ho, resolve, invoke, builtin, Sem.run_bind, Sem.run_pure, Result.andThen_ok, List.map_toArray, List.map_cons, List.map_nil, hs, hx, hrun]
  exact hK _ _ h
end Go.Proofs.Ytimalojaiaofkaa.Buf
