import Derived.Shelf.Abstract
import Derived.OrdersHeld
import Derived.Deep.RegionHeld3
import Derived.Test.YtimalojaiaofkaaWLast
import Derived.Lib.SliceRun
import Derived.Test.YtimalojaiaofkaaSqRingSteps0
set_option linter.unusedVariables false
set_option linter.unusedSimpArgs false
namespace Go.Proofs.Ytimalojaiaofkaa.Smp
open Go.RowKit Base Sp Flat Go.Proofs.YtimalojaiaofkaaW.PrintWords Go.Shelf
/-- A predicate's contract: what it reads beside its argument lies in the blocks C. -/
structure Pr (f : Nat) (lb : Array Value) (p : Smp → Bool) (C : Nat → Prop) (w : World) : Prop where
  enters : ∀ (args : Array Value) (W : World), (callFunc f args).run Try.prog W = .ok (.enter f args) W
  old : ∀ k, C k → k < w.heap.size
  calls : ∀ (W : World) (x : Smp), Same C w W → Calls Try.prog f (#[.agg (cells x).toArray] ++ lb) W fun e w' => e = .returned (.bool (p x)) ∧ Below W.heap.size W w'
/-- The first place at which p holds, from i on; -1: none. -/
def fi (p : Smp → Bool) : List Smp → Nat → Int
  | [], _ => -1
  | x :: r, i => if p x = true then (i : Int) else fi p r (i + 1)
theorem fi_step (p : Smp → Bool) (xs : List Smp) (k : Nat) (hk : k < xs.length) (h : p xs[k] = false) : fi p (xs.drop (k + 1)) (k + 1) = fi p (xs.drop k) k := by
  rw [List.drop_eq_getElem_cons hk, fi, h]
  rfl
theorem fi_hit (p : Smp → Bool) (xs : List Smp) (k : Nat) (hk : k < xs.length) (h : p xs[k] = true) : fi p (xs.drop k) k = k := by
  rw [List.drop_eq_getElem_cons hk, fi, if_pos h]
theorem meas (T b : Nat) (h : b < T) : T - (intOf (.int .i64 (((b + 1 : Nat) : Int)))).toNat < T - (intOf (.int .i64 (b : Int))).toNat := by
  show T - (((b + 1 : Nat) : Int)).toNat < T - ((b : Int)).toNat
  rw [Int.toNat_natCast, Int.toNat_natCast]
  omega
set_option maxHeartbeats 1000000 in
set_option maxRecDepth 20000 in
theorem indexFunc {f : Nat} {lb : Array Value} {p : Smp → Bool} {C F : Nat → Prop} {w : World} {v : Value} {xs : List Smp} (hP : Pr f lb p C w) (h : Row w F v xs) :
    Calls Try.prog 97 #[v, .func (.func f) #[] lb] w fun e w' => e = .returned (.int .i64 (fi p xs 0)) ∧ Below w.heap.size w w' := by
  have b0 := Below.refl w.heap.size w
  have hm := h.small
  have hmm : maxLen = 9223372036854775807 := rfl
  have HS := Lib.hid (show xs.length ≤ 9223372036854775807 by omega)
  have HR := Lib.hid h
  have HP := Lib.hid hP
  obtain ⟨A, c, rfl, hc, hA⟩ := h.slice
  have HA := Lib.hid hA
  have eg := hP.enters
  clear h hP hA hm hmm hc
  go_enter Try.func97, Try.ntmps97
  go_wp2
  go_loopw [5, 8] (fun _ v8 wr => ∃ k : Nat, v8 = .int .i64 (k : Int) ∧ k ≤ xs.length ∧ Hid (fi p (xs.drop k) k = fi p xs 0) ∧ Below w.heap.size w wr) (fun _ v8 _ => xs.length - (intOf v8).toNat)
  case atStart => exact ⟨0, rfl, Nat.zero_le _, Lib.hid rfl, b0⟩
  case round =>
    clear b0
    obtain ⟨k, rfl, hk, hF, bb⟩ := hrel
    by_cases hlt : k < xs.length
    · have hlt1 : (k : Int) < (xs.length : Int) := by omega
      have h0 : (0 : Int) ≤ (k : Int) := by omega
      obtain ⟨g, rfl⟩ : ∃ g, A = some ⟨g, 0, none⟩ := by
        rcases HR.out with ⟨e, hx⟩ | ⟨g, cap, rest, e, _⟩
        · subst hx; exact absurd hlt (Nat.not_lt_zero _)
        · injection e with e1 _ _; exact ⟨g, e1⟩
      have hrng := (HR.out.below (bb.mono (Nat.le_refl _))).range hlt
      have hcall := HP.out.calls wr xs[k] (fun j hj => bb.block j (HP.out.old j hj))
      have hw : wrap64 ((k : Int) + 1) = ((k + 1 : Nat) : Int) := by have := HS.out; unfold wrap64; omega
      have hlt2 := Lib.hid hlt
      have hhit := fi_hit p xs k hlt
      have hstep := fi_step p xs k hlt
      generalize xs[k] = x at hrng hcall hhit hstep
      cases hp : p x with
      | true =>
        rw [hp] at hcall
        have hres := Lib.hid ((hhit hp).symm.trans hF.out)
        clear hhit hstep hlt hk hF
        go_wp2_with (first | ((with_reducible refine gate_dst (N := 15) rfl ?_); refine wpList_load_mid rfl 60 (.tmp 14) rfl g (k * 23) rfl (cells x) _ hrng Try.underlying60 rfl (by rw [cells_len]; kernel_rfl) ?_) | (go_at_fn f; refine hcall.mono ?_; rintro e w' ⟨rfl, hb'⟩))
        go_ret
        exact ⟨by rw [hres.out]; rfl, bstep bb hb'⟩
      | false =>
        rw [hp] at hcall
        have hres := Lib.hid ((hstep hp).trans hF.out)
        clear hhit hstep hlt hk hF
        go_wp2_with (first | ((with_reducible refine gate_dst (N := 15) rfl ?_); refine wpList_load_mid rfl 60 (.tmp 14) rfl g (k * 23) rfl (cells x) _ hrng Try.underlying60 rfl (by rw [cells_len]; kernel_rfl) ?_) | (go_at_fn f; refine hcall.mono ?_; rintro e w' ⟨rfl, hb'⟩))
        rw [hw]
        exact ⟨⟨k + 1, rfl, hlt2.out, hres, bstep bb hb'⟩, meas _ _ hlt2.out⟩
    · have hlt1 : ¬ (k : Int) < (xs.length : Int) := by omega
      have hres : Hid (fi p xs 0 = -1) := Lib.hid (by rw [← hF.out, List.drop_eq_nil_of_le (by omega)]; rfl)
      clear hlt hk hF
      go_wp2
      go_ret
      exact ⟨by rw [hres.out]; rfl, bb⟩
section
variable {P : Program} {ops : Array Oper} {rest : List Oper} {op : Oper} {a : Act} {W : World} {Q : Exit → Act → World → Prop}
/-- A store of many cells; the world behind it gets a name. -/
theorem store_ev (hgd : op.guard = none) (ty : TypeId) (x y : Operand) (ho : op.op = .store ty x y) (b o : Nat) (cs : List Value) (hx : a.eval x = .pointer (some ⟨b, o, none⟩)) (hy : a.eval y = .agg cs.toArray)
    (ht : W.there b o cs.length) (hi : (P.info? ty).map (·.size) = some cs.length) (h1 : ∀ u ∈ cs, u.oneCell' = true) (h : ∀ w1, w1 = W.setCells b o cs → wpList P ops Q rest (a.put op.dst undef) w1) : wpList P ops Q (op :: rest) a W :=
  wpList_store_mid hgd ty x y ho b o cs.toArray hx hy (by simpa using ht) (by simpa using hi) (all_oneCell_toArray h1) (h _ (by simp))
end
theorem fi_none (p : Smp → Bool) : ∀ (xs : List Smp) (i : Nat), fi p xs i = -1 → xs.filter (fun x => !p x) = xs
  | [], _, _ => rfl
  | x :: r, i, h => by
    rw [fi] at h
    by_cases hp : p x = true
    · rw [if_pos hp] at h; omega
    · rw [if_neg hp] at h
      rw [List.filter_cons_of_pos (by simp [hp]), fi_none p r (i + 1) h]
theorem fi_some (p : Smp → Bool) : ∀ (xs : List Smp) (i : Nat), fi p xs i ≠ -1 → ∃ k, ∃ hk : k < xs.length, fi p xs i = ((i + k : Nat) : Int) ∧ p xs[k] = true ∧ (xs.take k).filter (fun x => !p x) = xs.take k
  | [], _, h => absurd rfl h
  | x :: r, i, h => by
    rw [fi] at h ⊢
    by_cases hp : p x = true
    · exact ⟨0, Nat.zero_lt_succ _, by rw [if_pos hp, Nat.add_zero], hp, rfl⟩
    · rw [if_neg hp] at h ⊢
      obtain ⟨k, hk, h1, h2, h3⟩ := fi_some p r (i + 1) h
      refine ⟨k + 1, Nat.succ_lt_succ hk, by rw [h1]; congr 1; omega, h2, ?_⟩
      rw [List.take_succ_cons, List.filter_cons_of_pos (by simp [hp]), h3]
/-- What DeleteFunc keeps so far. -/
structure KI (p : Smp → Bool) (xs zs : List Smp) (i j : Nat) : Prop where
  len : zs.length = xs.length
  lt : i < j
  le : j ≤ xs.length
  front : zs.take i = (xs.take j).filter fun x => !p x
  back : zs.drop j = xs.drop j
theorem KI.at {p : Smp → Bool} {xs zs : List Smp} {i j : Nat} (h : KI p xs zs i j) (hj : j < xs.length) (hz : j < zs.length) : zs[j] = xs[j] := by
  have := h.back
  rw [List.drop_eq_getElem_cons hj, List.drop_eq_getElem_cons hz] at this
  exact (List.cons.inj this).1
theorem KI.skip {p : Smp → Bool} {xs zs : List Smp} {i j : Nat} (h : KI p xs zs i j) (hj : j < xs.length) (hp : p xs[j] = true) : KI p xs zs i (j + 1) := by
  refine ⟨h.len, by have := h.lt; omega, hj, ?_, ?_⟩
  · rw [h.front, List.take_succ_eq_append_getElem hj, List.filter_append, List.filter_cons_of_neg (by simp [hp])]
    simp
  · have := h.back
    rw [List.drop_eq_getElem_cons hj, List.drop_eq_getElem_cons (by rw [h.len]; exact hj)] at this
    exact (List.cons.inj this).2
theorem KI.keep {p : Smp → Bool} {xs zs : List Smp} {i j : Nat} (h : KI p xs zs i j) (hj : j < xs.length) (hp : p xs[j] = false) : KI p xs (zs.set i xs[j]) (i + 1) (j + 1) := by
  have hl := h.lt
  have hi : i < zs.length := by have := h.len; omega
  refine ⟨by rw [List.length_set]; exact h.len, by omega, hj, ?_, ?_⟩
  · rw [List.take_succ_eq_append_getElem (by rw [List.length_set]; exact hi), List.getElem_set_self, List.take_set_of_le (Nat.le_refl _), h.front, List.take_succ_eq_append_getElem hj, List.filter_append, List.filter_cons_of_pos (by simp [hp])]
    rfl
  · rw [List.drop_set_of_lt (by omega)]
    have := h.back
    rw [List.drop_eq_getElem_cons hj, List.drop_eq_getElem_cons (by rw [h.len]; exact hj)] at this
    exact (List.cons.inj this).2
theorem size23 (x : Smp) : (Try.prog.info? 60).map (·.size) = some (cells x).length := by rw [cells_len]; kernel_rfl
theorem box_set {w : World} {g : Nat} {t : TypeId} {x y : Smp} (h : w.heap[g]? = some (.cells (cells y).toArray t (0, 0))) : (w.setCells g 0 (cells x)).heap[g]? = some (.cells (cells x).toArray t (0, 0)) := by
  rw [setCells_heap g t (cells x) 0 _ w h (by rw [cells_len, cells_len]; omega), List.take_zero, List.nil_append, List.drop_eq_nil_of_le (by rw [cells_len, cells_len]; omega), List.append_nil]
theorem box_range {w : World} {g : Nat} {t : TypeId} {x : Smp} (h : w.heap[g]? = some (.cells (cells x).toArray t (0, 0))) : w.rangeAt g 0 (cells x) := fun j u hj => by
  rw [blk_cell h, Nat.zero_add, List.getElem?_toArray]
  exact hj
set_option maxHeartbeats 2000000 in
set_option maxRecDepth 20000 in
theorem deleteFunc {f : Nat} {lb : Array Value} {p : Smp → Bool} {C F : Nat → Prop} {w : World} {v : Value} {xs : List Smp} (hP : Pr f lb p C w) (h : Row w F v xs) (hd : ∀ k, C k → ¬ F k) (hF : ∀ k, F k → k < w.heap.size) :
    Calls Try.prog 96 #[v, .func (.func f) #[] lb] w fun e w' => ∃ v', e = .returned v' ∧ Row w' F v' (xs.filter fun x => !p x) ∧ Mod F w w' := by
  have C1 := indexFunc hP h
  have hm := h.small
  have hmm : maxLen = 9223372036854775807 := rfl
  have HS := Lib.hid (show xs.length ≤ 9223372036854775807 by omega)
  have HR := Lib.hid h
  have HP := Lib.hid hP
  have HD := Lib.hid hd
  have eg := hP.enters
  by_cases hn : fi p xs 0 = -1
  · have hres := Lib.hid (fi_none p xs 0 hn)
    rw [hn] at C1
    clear h hP hm hmm hn hd hF
    go_enter Try.func96, Try.ntmps96
    go_wp2_with fail
    refine C1.mono ?_
    rintro e w1 ⟨rfl, b1⟩
    go_wp2
    go_ret
    exact ⟨v, rfl, by rw [hres.out]; exact HR.out.below b1, Mod.of b1⟩
  · obtain ⟨k, hk, h1, h2, h3⟩ := fi_some p xs 0 hn
    rw [Nat.zero_add] at h1
    rw [h1] at C1
    obtain ⟨A, c, rfl, hc, hA⟩ := h.slice
    obtain ⟨g, rfl⟩ : ∃ g, A = some ⟨g, 0, none⟩ := by
      rcases h with ⟨e, hx⟩ | ⟨g, cap, rest, e, _⟩
      · subst hx; exact absurd hk (Nat.not_lt_zero _)
      · injection e with e1 _ _; exact ⟨g, e1⟩
    obtain ⟨k1, hk1⟩ : ∃ k1 : Nat, k1 = k + 1 := ⟨_, rfl⟩
    have hw0 : wrap64 ((k : Int) + 1) = (k1 : Int) := by unfold wrap64; omega
    have hg := (hA _ rfl).1
    have hFg := Lib.hid (hA _ rfl).2.1
    have hFlt := Lib.hid hF
    have HKI : Hid (KI p xs xs k k1) := hk1 ▸ Lib.hid ⟨rfl, Nat.lt_succ_self _, hk, by rw [List.take_succ_eq_append_getElem hk, List.filter_append, h3, List.filter_cons_of_neg (by simp [h2])]; simp, rfl⟩
    have hne : ((k : Int) == -1) = false := beq_eq_false_iff_ne.2 (by omega)
    have HC := Lib.hid hc
    clear h hP hm hmm hn hd hF hA h1 h2 h3 hk hc hk1
    go_enter Try.func96, Try.ntmps96
    go_wp2_with fail
    refine C1.mono ?_
    rintro e w1 ⟨rfl, b1⟩
    go_wp2
    rw [hw0]
    have R1 := HR.out.below b1
    have M1 : Mod F w w1 := Mod.of b1
    clear C1 b1
    go_loopw [5, 6, 7] (fun v5 v6 _ wr => ∃ (i j : Nat) (zs : List Smp), v5 = .int .i64 (i : Int) ∧ v6 = .int .i64 (j : Int) ∧ Hid (KI p xs zs i j) ∧ Row wr F (.slice (some ⟨g, 0, none⟩) xs.length c) zs ∧ Mod F w wr) (fun _ v6 _ _ => xs.length - (intOf v6).toNat)
    case atStart => exact ⟨k, k1, xs, rfl, rfl, HKI, R1, M1⟩
    case round =>
      clear R1 M1 HKI
      obtain ⟨i, j, zs, rfl, rfl, hK, hR, hM⟩ := hrel
      have hlen := hK.out.len
      have hjl := hK.out.le
      have hil := hK.out.lt
      by_cases hlt : j < xs.length
      · have hlt1 : (j : Int) < (xs.length : Int) := by omega
        have h0 : (0 : Int) ≤ (j : Int) := by omega
        have h0i : (0 : Int) ≤ (i : Int) := by omega
        have hi1 : (i : Int) < (xs.length : Int) := by omega
        have hrng := hR.range (i := j) (by omega)
        rw [hK.out.at hlt (by omega)] at hrng
        have hkeep := hK.out.keep hlt
        have hskip := hK.out.skip hlt
        have hlt2 := Lib.hid hlt
        have hwj : wrap64 ((j : Int) + 1) = ((j + 1 : Nat) : Int) := by have := HS.out; unfold wrap64; omega
        have hwi : wrap64 ((i : Int) + 1) = ((i + 1 : Nat) : Int) := by have := HS.out; unfold wrap64; omega
        generalize xs[j] = x at hrng hkeep hskip
        have hiz : Hid (i < zs.length) := Lib.hid (by omega)
        clear hlen hjl hil hlt hK
        cases hp : p x with
        | false =>
          go_wp2_with (first | ((with_reducible refine gate_dst (N := 25) rfl ?_); refine wpList_load_mid rfl 60 (.tmp 24) rfl g (j * 23) rfl (cells x) _ hrng Try.underlying60 rfl (size23 x) ?_) | ((with_reducible refine gate_dst (N := 7) rfl ?_); refine box_event rfl (N := 7) rfl (cs := (cells zsmp).toArray) (t := 60) ?hr ?_; (case hr => go_simp; rfl); intro gb hgb w8 hbox hb; subst hgb; clear hrng) | ((with_reducible refine gate_store (p := 7) (v := .tmp 25) rfl ?_); refine store_ev rfl 60 (.tmp 7) (.tmp 25) rfl wr.heap.size 0 (cells x) rfl rfl (there_of hbox (by rw [cells_len, cells_len]; omega)) (size23 x) (cells_one x) ?_; intro w9 hw9; have n9 := box_set (x := x) hbox; rw [← hw9] at n9; have M9 : Mod F w w9 := (hM.trans (Mod.of (F := F) hb) (fun _ h => .inl h)).trans (hw9 ▸ setCells_mod w8 wr.heap.size 0 (cells x)) (fun q hq => .inr (by have := hM.size; omega)); have R9 : Row w9 F (.slice (some ⟨g, 0, none⟩) xs.length c) zs := (hR.below hb).same (fun q hq => by rw [hw9]; exact setCells_other _ _ _ _ _ (fun e => by subst e; exact absurd (hFlt.out _ hq) (by have := hM.size; omega))); have r9 := box_range n9; clear hR hM hb hbox hw9) | ((with_reducible refine gate_dst (N := 27) rfl ?_); refine wpList_load_mid rfl 60 (.tmp 7) rfl wr.heap.size 0 rfl (cells x) _ r9 Try.underlying60 rfl (size23 x) ?_) | (go_at_fn f; have hcall := HP.out.calls w9 x (M9.same HP.out.old HD.out); rw [hp] at hcall; refine hcall.mono ?_; rintro e w10 ⟨rfl, hb'⟩; have n10 := box_range (blk_below n9 hb'); have M10 : Mod F w w10 := M9.trans (Mod.of (F := F) hb') (fun _ h => .inl h); have R10 := R9.below hb'; have P10 := R10.put hiz.out x; clear hcall hb' n9 M9 R9 r9) | ((with_reducible refine gate_dst (N := 32) rfl ?_); refine wpList_load_mid rfl 60 (.tmp 7) rfl wr.heap.size 0 rfl (cells x) _ n10 Try.underlying60 rfl (size23 x) ?_) | ((with_reducible refine gate_store (p := 33) (v := .tmp 32) rfl ?_); refine store_ev rfl 60 (.tmp 33) (.tmp 32) rfl g (i * 23) (cells x) rfl rfl (by rw [cells_len]; exact P10.1) (size23 x) (cells_one x) ?_; intro w11 hw11))
          rw [hwi, hwj]
          refine ⟨⟨i + 1, j + 1, zs.set i x, rfl, rfl, Lib.hid (hkeep hp), P10.2, M10.trans (setCells_mod w10 g (i * 23) (cells x)) (fun q hq => .inl (show F q from by rw [show q = g from hq]; exact hFg.out))⟩, meas _ _ hlt2.out⟩
        | true =>
          go_wp2_with (first | ((with_reducible refine gate_dst (N := 25) rfl ?_); refine wpList_load_mid rfl 60 (.tmp 24) rfl g (j * 23) rfl (cells x) _ hrng Try.underlying60 rfl (size23 x) ?_) | ((with_reducible refine gate_dst (N := 7) rfl ?_); refine box_event rfl (N := 7) rfl (cs := (cells zsmp).toArray) (t := 60) ?hr ?_; (case hr => go_simp; rfl); intro gb hgb w8 hbox hb; subst hgb; clear hrng) | ((with_reducible refine gate_store (p := 7) (v := .tmp 25) rfl ?_); refine store_ev rfl 60 (.tmp 7) (.tmp 25) rfl wr.heap.size 0 (cells x) rfl rfl (there_of hbox (by rw [cells_len, cells_len]; omega)) (size23 x) (cells_one x) ?_; intro w9 hw9; have n9 := box_set (x := x) hbox; rw [← hw9] at n9; have M9 : Mod F w w9 := (hM.trans (Mod.of (F := F) hb) (fun _ h => .inl h)).trans (hw9 ▸ setCells_mod w8 wr.heap.size 0 (cells x)) (fun q hq => .inr (by have := hM.size; omega)); have R9 : Row w9 F (.slice (some ⟨g, 0, none⟩) xs.length c) zs := (hR.below hb).same (fun q hq => by rw [hw9]; exact setCells_other _ _ _ _ _ (fun e => by subst e; exact absurd (hFlt.out _ hq) (by have := hM.size; omega))); have r9 := box_range n9; clear hR hM hb hbox hw9) | ((with_reducible refine gate_dst (N := 27) rfl ?_); refine wpList_load_mid rfl 60 (.tmp 7) rfl wr.heap.size 0 rfl (cells x) _ r9 Try.underlying60 rfl (size23 x) ?_) | (go_at_fn f; have hcall := HP.out.calls w9 x (M9.same HP.out.old HD.out); rw [hp] at hcall; refine hcall.mono ?_; rintro e w10 ⟨rfl, hb'⟩; have n10 := box_range (blk_below n9 hb'); have M10 : Mod F w w10 := M9.trans (Mod.of (F := F) hb') (fun _ h => .inl h); have R10 := R9.below hb'; have P10 := R10.put hiz.out x; clear hcall hb' n9 M9 R9 r9) | ((with_reducible refine gate_dst (N := 32) rfl ?_); refine wpList_load_mid rfl 60 (.tmp 7) rfl wr.heap.size 0 rfl (cells x) _ n10 Try.underlying60 rfl (size23 x) ?_) | ((with_reducible refine gate_store (p := 33) (v := .tmp 32) rfl ?_); refine store_ev rfl 60 (.tmp 33) (.tmp 32) rfl g (i * 23) (cells x) rfl rfl (by rw [cells_len]; exact P10.1) (size23 x) (cells_one x) ?_; intro w11 hw11))
          rw [hwj]
          exact ⟨⟨i, j + 1, zs, rfl, rfl, Lib.hid (hskip hp), R10, M10⟩, meas _ _ hlt2.out⟩
      · have hlt1 : ¬ (j : Int) < (xs.length : Int) := by omega
        have hj : j = xs.length := by omega
        have hi2 : i < zs.length := by omega
        have hcl := hR.clear i hi2 (c - i)
        have hfr := hK.out.front
        rw [hj, List.take_length] at hfr
        have h0i : (0 : Int) ≤ (i : Int) := by omega
        have hi1 : (i : Int) ≤ (xs.length : Int) := by omega
        have hic : (i : Int) ≤ (c : Int) := by have := HC.out; omega
        have hic2 : ¬ c = i := by have := HC.out; omega
        have hcr := fun ty => (hcl ty).1
        rw [hlen] at hcr
        have hrow := hcl 0
        rw [hlen] at hrow
        have H12 := Lib.hid (And.intro hrow.2 hfr)
        have HM := Lib.hid hM
        clear hcl hrow hfr hM hR hK hlen hjl hil hlt hi2
        go_wp2
        go_ret
        refine ⟨_, rfl, ?_, HM.out.trans (setCells_mod _ _ _ _) (fun q hq => .inl (show F q from by rw [show q = g from hq]; exact hFg.out))⟩
        rw [← H12.out.2]
        exact H12.out.1
end Go.Proofs.Ytimalojaiaofkaa.Smp
namespace Go.Proofs.Ytimalojaiaofkaa.Reg
open Go.Proofs.YtimalojaiaofkaaW.PrintLast
section
variable {P : Program} {ops : Array Oper} {Q : Exit → Act → World → Prop} {S : World → Prop} {z : Nat}

/-- Whatever order is picked from here on; S holds behind every operation but number z, for which nobody is left to wait. -/
def wpT (P : Program) (ops : Array Oper) (Q : Exit → Act → World → Prop) (S : World → Prop) (z : Nat) : Nat → Array Bool → Act → World → Prop
  | 0, listed, a, w => Region.ready .any ops listed = [] ∧ Q .normal a w
  | fuel + 1, listed, a, w =>
    (Region.ready .any ops listed = [] → Q .normal a w) ∧
    ∀ i ∈ Region.ready .any ops listed, wpOp P ops Q i (fun a' w' => (i ≠ z → S w') ∧ wpT P ops Q S z fuel (listed.setIfInBounds i true) a' w') a w

theorem wpAny_of_T : ∀ (fuel : Nat) (listed : Array Bool) (a : Act) (w : World), wpT P ops Q S z fuel listed a w → wpAny P .any ops Q fuel listed a w
  | 0, _, _, _, h => h
  | fuel + 1, _, _, _, h => ⟨h.1, fun i hi => wpOp_mono (fun _ _ h' => wpAny_of_T fuel _ _ _ h'.2) (h.2 i hi)⟩

/-- Number z waits for number i, or there is no such number. -/
def waitsB (ops : Array Oper) (z i : Nat) : Bool :=
  match ops[z]? with
  | none => true
  | some o => (o.after.any fun e => Region.binds .any e && e.on == i) || Region.reachB .any ops i 4 z

theorem not_ready {i j : Nat} {listed : Array Bool} (hc : ListedClosed .any ops listed) (hz : waitsB ops z i = true) (hi : i ∈ Region.ready .any ops listed) (hj : j ∈ Region.ready .any ops listed) : j ≠ z := by
  rintro rfl
  have hj0 := hj
  obtain ⟨_, o, ho, hall⟩ := mem_ready.1 hj
  have h0 := (mem_ready.1 hi).1
  unfold waitsB at hz
  rw [ho] at hz
  simp only [Bool.or_eq_true] at hz
  rcases hz with hz | hz
  case inr => exact Region.reach_not_ready hc hz h0 hj0
  obtain ⟨e, he, hb⟩ := Array.any_eq_true'.1 hz
  simp only [Bool.and_eq_true, beq_iff_eq] at hb
  have h1 := hall e he hb.1
  rw [hb.2] at h1
  rcases Nat.lt_or_ge i listed.size with h' | h'
  · simp [h'] at h0 h1
    rw [h0] at h1
    cases h1
  · simp [Array.getElem?_eq_none h'] at h1

theorem T_first {i : Nat} {oi : Oper} {v : Value} (hi : ops[i]? = some oi) (hsel : ∀ (j : Nat) (o : Oper) cs b, ops[j]? = some o → o.op ≠ .select cs b)
    (hQ : ∀ c a w, Q (.panic c) (a.put oi.dst v) w → Q (.panic c) a w) (hz : waitsB ops z i = true) :
    ∀ (fuel : Nat) (listed : Array Bool) (a : Act) (w : World), ListedClosed .any ops listed →
      (∀ j oj, ops[j]? = some oj → j ≠ i → listed.getD j true = false → (∀ e ∈ oj.after, Region.binds .any e = true → e.on ≠ i) → oi.apart ops oj = true) →
      i ∈ Region.ready .any ops listed → YieldsIf P ops S oi v a → S w →
      wpT P ops Q S z fuel (listed.setIfInBounds i true) (a.put oi.dst v) w → wpT P ops Q S z (fuel + 1) listed a w := by
  intro fuel
  induction fuel with
  | zero =>
    intro listed a w hc _ hr hy hS H
    refine ⟨fun h => (by rw [h] at hr; cases hr), fun j hj => ?_⟩
    by_cases hji : j = i
    · subst hji
      exact hy.wpOp hi hS ⟨fun _ => hS, H⟩
    · have := ready_mono hj hji
      rw [H.1] at this
      cases this
  | succ fuel ih =>
    intro listed a w hc hfree hr hy hS H
    refine ⟨fun h => (by rw [h] at hr; cases hr), fun j hj => ?_⟩
    by_cases hji : j = i
    · subst hji
      exact hy.wpOp hi hS ⟨fun _ => hS, H⟩
    · have hjz := not_ready hc hz hr hj
      have h1 := H.2 j (ready_mono hj hji)
      obtain ⟨hjun, oj, hoj, hall⟩ := mem_ready.1 hj
      have hnot : ∀ e ∈ oj.after, Region.binds .any e = true → e.on ≠ i := fun e he hb heq => by
        have h1 := hall e he hb
        have h0 := (mem_ready.1 hr).1
        rw [heq] at h1
        rcases Nat.lt_or_ge i listed.size with h' | h'
        · simp [h'] at h0 h1
          rw [h0] at h1
          cases h1
        · simp [Array.getElem?_eq_none h'] at h1
      have h2 := wpOp_putIf hoj (hfree j oj hoj hji hjun hnot) (fun cs b => hsel i oi cs b hi) (fun cs b => hsel j oj cs b hoj) hQ hy h1
      have hfree' : ∀ k ok, ops[k]? = some ok → k ≠ i → (listed.setIfInBounds j true).getD k true = false →
          (∀ e ∈ ok.after, Region.binds .any e = true → e.on ≠ i) → oi.apart ops ok = true := fun k ok hk hki hun hno => by
        refine hfree k ok hk hki ?_ hno
        by_cases hjk : j = k
        · subst hjk
          exact hjun
        · rw [getD_set_ne true hjk] at hun
          exact hun
      refine wpOp_mono (fun a' w' h3 => ⟨h3.2.1, ih (listed.setIfInBounds j true) a' w' (hc.set hj) hfree' (ready_mono hr (Ne.symm hji)) h3.1 (h3.2.1 hjz) ?_⟩) h2
      rw [Array.setIfInBounds_comm _ _ hji]
      exact h3.2.2

/-- Orders of a region that draws its order: fl: an operation that yields the same value in every world that meets S; one: the only one that is ready; two: two are ready. -/
inductive Pl where
  | done : Pl
  | fl : Nat → Pl → Pl
  | one : Nat → Pl → Pl
  | two : Nat → Nat → Pl → Pl → Pl
/-- S holds behind each operation but number z. -/
def wpG (P : Program) (ops : Array Oper) (Q : Exit → Act → World → Prop) (S : World → Prop) (z : Nat) : Pl → Act → World → Prop
  | .done, a, w => Q .normal a w
  | .fl i r, a, w => ∃ o v, ops[i]? = some o ∧ YieldsIf P ops S o v a ∧ wpG P ops Q S z r (a.put o.dst v) w
  | .one i r, a, w => wpOp P ops Q i (fun a' w' => (i ≠ z → S w') ∧ wpG P ops Q S z r a' w') a w
  | .two i j r q, a, w => wpOp P ops Q i (fun a' w' => (i ≠ z → S w') ∧ wpG P ops Q S z r a' w') a w ∧ wpOp P ops Q j (fun a' w' => (j ≠ z → S w') ∧ wpG P ops Q S z q a' w') a w

/-- The orders may be taken: each float is ready and free where it comes; each other is the only one that is ready, or one of two; z is the last. -/
def planB (ops : Array Oper) (z : Nat) : Array Bool → Pl → Bool
  | listed, .done => (Region.ready .any ops listed).isEmpty
  | listed, .fl i r => (Region.ready .any ops listed).contains i && Region.free .any ops listed i && waitsB ops z i && planB ops z (listed.setIfInBounds i true) r
  | listed, .one i r => (Region.ready .any ops listed == [i]) && (i != z || (match r with | .done => true | _ => false)) && planB ops z (listed.setIfInBounds i true) r
  | listed, .two i j r q => (Region.ready .any ops listed == [i, j]) && (i != z && j != z) && planB ops z (listed.setIfInBounds i true) r && planB ops z (listed.setIfInBounds j true) q

/-- How many steps the orders have at most. -/
def Pl.len : Pl → Nat
  | .done => 0
  | .fl _ r => r.len + 1
  | .one _ r => r.len + 1
  | .two _ _ r q => max r.len q.len + 1

theorem wpG_sound (hs : Region.noSelect ops = true) (hQ : ∀ c a w d v, Q (.panic c) (Act.put a d v) w → Q (.panic c) a w) :
    ∀ (l : Pl) (fuel : Nat) (listed : Array Bool) (a : Act) (w : World), ListedClosed .any ops listed → l.len ≤ fuel → planB ops z listed l = true → (l ≠ .done → S w) → wpG P ops Q S z l a w →
      wpT P ops Q S z fuel listed a w
  | .done, fuel, listed, a, w, _, _, hp, _, h => by
    simp only [planB, List.isEmpty_iff] at hp
    cases fuel with
    | zero => exact ⟨hp, h⟩
    | succ n => exact ⟨fun _ => h, by rw [hp]; simp⟩
  | .fl i r, 0, listed, a, w, _, hl, _, _, _ => by simp [Pl.len] at hl
  | .fl i r, fuel + 1, listed, a, w, hc, hl, hp, hS, h => by
    simp only [planB, Bool.and_eq_true] at hp
    obtain ⟨o, v, ho, hy, hr⟩ := h
    have hS' := hS (by simp)
    exact T_first ho (Region.noSelect_spec hs) (fun c a w h => hQ c a w _ _ h) hp.1.2 fuel listed a w hc (Region.free_spec ho hp.1.1.2) (by simpa using hp.1.1.1) hy hS'
      (wpG_sound hs hQ r fuel _ _ w (hc.set (by simpa using hp.1.1.1)) (by simpa [Pl.len] using hl) hp.2 (fun _ => hS') hr)
  | .one i r, 0, listed, a, w, _, hl, _, _, _ => by simp [Pl.len] at hl
  | .one i r, fuel + 1, listed, a, w, hc, hl, hp, hS, h => by
    simp only [planB, Bool.and_eq_true, beq_iff_eq, Bool.or_eq_true, bne_iff_ne] at hp
    refine ⟨fun h0 => (by rw [hp.1.1] at h0; cases h0), fun j hj => ?_⟩
    obtain rfl : j = i := by rw [hp.1.1] at hj; simpa using hj
    refine wpOp_mono (fun a' w' h' => ⟨h'.1, wpG_sound hs hQ r fuel _ _ w' (hc.set hj) (by simpa [Pl.len] using hl) hp.2 (fun hr => ?_) h'.2⟩) h
    refine h'.1 (hp.1.2.resolve_right ?_)
    cases r <;> simp_all
  | .two i j r q, 0, listed, a, w, _, hl, _, _, _ => by simp [Pl.len] at hl
  | .two i j r q, fuel + 1, listed, a, w, hc, hl, hp, hS, h => by
    simp only [planB, Bool.and_eq_true, beq_iff_eq, bne_iff_ne] at hp
    simp only [Pl.len] at hl
    refine ⟨fun h0 => (by rw [hp.1.1.1] at h0; cases h0), fun k hk => ?_⟩
    have hk' : k = i ∨ k = j := by rw [hp.1.1.1] at hk; simpa using hk
    rcases hk' with rfl | rfl
    · exact wpOp_mono (fun a' w' h' => ⟨h'.1, wpG_sound hs hQ r fuel _ _ w' (hc.set hk) (by omega) hp.1.2 (fun _ => h'.1 hp.1.1.2.1) h'.2⟩) h.1
    · exact wpOp_mono (fun a' w' h' => ⟨h'.1, wpG_sound hs hQ q fuel _ _ w' (hc.set hk) (by omega) hp.2 (fun _ => h'.1 hp.1.1.2.2) h'.2⟩) h.2

theorem closed_start (n : Nat) : ListedClosed .any ops (Array.replicate n false) := by
  intro j oj _ hl
  exfalso
  rw [Array.getD_eq_getD_getElem?, Array.getElem?_replicate] at hl
  split at hl <;> simp at hl
/-- The beginning. z: the last operation's number where S doesn't hold behind it; else the number of all. -/
theorem wp_plan (z : Nat) (l : Pl) {id : Nat} {a : Act} {w : World} (hm : P.follows .mixedOrders = true) (hs : Region.noSelect ops = true)
    (hp : planB ops z (Array.replicate ops.size false) l = true) (hl : decide (l.len ≤ ops.size) = true) (hQ : ∀ c a w d v, Q (.panic c) (Act.put a d v) w → Q (.panic c) a w) (hS : S w.drew)
    (h : S w.drew → wpG P ops Q S z l a w.drew) : (Code.region id ops true).wp P Q a w :=
  wp_region_any hm (wpAny_of_T _ _ _ _ (wpG_sound hs hQ l _ _ _ _ (closed_start _) (of_decide_eq_true hl) hp (fun _ => hS) (h hS)))

theorem G_on {i : Nat} {r : Pl} {a : Act} {w : World} {o : Oper} {v : Value} (ho : ops[i]? = some o) (hw : Region.wanted o (yielded ops a.tmps) = true)
    (hv : ∀ w, S w → (execOp a.eval o).run P w = .ok (.value v) w) (h : wpG P ops Q S z r (a.put o.dst v) w) : wpG P ops Q S z (.fl i r) a w :=
  ⟨o, v, ho, .inl ⟨hw, hv⟩, h⟩
theorem G_off {i : Nat} {r : Pl} {a : Act} {w : World} {o : Oper} (ho : ops[i]? = some o) (hw : Region.wanted o (yielded ops a.tmps) = false)
    (h : wpG P ops Q S z r (a.put o.dst undef) w) : wpG P ops Q S z (.fl i r) a w :=
  ⟨o, undef, ho, .inr ⟨hw, rfl⟩, h⟩
/-- One that waits its turn, and is not wanted. -/
theorem G_skip {i : Nat} {r : Pl} {a : Act} {w : World} {o : Oper} (ho : ops[i]? = some o) (hw : Region.wanted o (yielded ops a.tmps) = false) (hS : S w)
    (h : wpG P ops Q S z r (a.put o.dst undef) w) : wpG P ops Q S z (.one i r) a w := by
  show wpOp P ops Q i _ a w
  unfold wpOp
  simp only [ho, hw, Bool.false_eq_true, if_false]
  exact ⟨fun _ => hS, h⟩
/-- One that waits its turn. -/
theorem G_step {i : Nat} {r : Pl} {a : Act} {w : World} {o : Oper} (ho : ops[i]? = some o) (hw : Region.wanted o (yielded ops a.tmps) = true)
    (h : ∀ K' : Act → World → Prop, Shut (∀ a w, S w → (S w → wpG P ops Q S z r a w) → K' a w) → Oper.wp P o a w K' Q) : wpG P ops Q S z (.one i r) a w := by
  show wpOp P ops Q i _ a w
  unfold wpOp
  simp only [ho, hw, if_true]
  exact .inl (h _ (fun a w hS hW => ⟨fun _ => hS, hW hS⟩))
/-- The last. -/
theorem G_last {i : Nat} {a : Act} {w : World} {o : Oper} (hz : i = z) (ho : ops[i]? = some o) (hw : Region.wanted o (yielded ops a.tmps) = true)
    (h : ∀ K' : Act → World → Prop, Shut (∀ a w, Q .normal a w → K' a w) → Oper.wp P o a w K' Q) : wpG P ops Q S z (.one i .done) a w := by
  show wpOp P ops Q i _ a w
  unfold wpOp
  simp only [ho, hw, if_true]
  exact .inl (h _ (fun a w hW => ⟨fun h => absurd hz h, hW⟩))
/-- Two are ready: both ways. -/
theorem G_two {i j : Nat} {r q : Pl} {a : Act} {w : World} (h1 : wpG P ops Q S z (.one i r) a w) (h2 : wpG P ops Q S z (.one j q) a w) : wpG P ops Q S z (.two i j r q) a w := ⟨h1, h2⟩
theorem G_done {a : Act} {w : World} (h : Q .normal a w) : wpG P ops Q S z .done a w := h
end
attribute [irreducible] wpG
end Go.Proofs.Ytimalojaiaofkaa.Reg
namespace Go.Proofs.Ytimalojaiaofkaa.Smp
open Go.RowKit Base Sp Flat Go.Proofs.YtimalojaiaofkaaW.PrintWords Go.Shelf
section
variable {P : Program} {o : Oper} {a : Act} {Q : Exit → Act → World → Prop} {K : Act → World → Prop}
/-- An append whose run is known, as one operation. -/
theorem op_append {W w1 : World} {v1 v u : Value} (s x : Operand) (t : TypeId) (ho : o.op = .call { callee := .builtin .append, args := #[s, x], argTypes := #[t, t] })
    (hs : a.eval s = v) (hx : a.eval x = u) (hrun : (Builtin.append_ #[t, t] o.type #[v, u]).run P W = .ok v1 w1) (h : K (a.put o.dst v1) w1) : Oper.wp P o a W K Q := by
  unfold Oper.wp execOp
  simp only [ho, resolve, invoke, builtin, Sem.run_bind, Sem.run_pure, Result.andThen_ok, List.map_toArray, List.map_cons, List.map_nil, hs, hx, hrun]
  exact h
end
/-- append(xs[:i], xs[j:]...), in place. -/
theorem Row.move {w : World} {F : Nat → Prop} {g c : Nat} {xs : List Smp} (h : Row w F (.slice (some ⟨g, 0, none⟩) xs.length c) xs) {i j : Nat} (hij : i < j) (hj : j ≤ xs.length) (a : Addr) (ha : xs.length = j ∨ a = ⟨g, j * 23, none⟩) (c' : Nat) (ty : TypeId) :
    (Builtin.append_ #[56, 56] ty #[.slice (some ⟨g, 0, none⟩) i c, .slice (some a) (xs.length - j) c']).run Try.prog w = .ok (.slice (some ⟨g, 0, none⟩) (i + (xs.length - j)) c) (w.setCells g (i * 23) (flat (xs.drop j))) ∧
      Row (w.setCells g (i * 23) (flat (xs.drop j))) F (.slice (some ⟨g, 0, none⟩) xs.length c) (xs.take i ++ xs.drop j ++ xs.drop (i + (xs.length - j))) := by
  rcases h with ⟨e, _⟩ | ⟨g', cap', rest, e, hf, hh, hr, hc, hm⟩
  · cases e
  · injection e with e1 _ e3
    injection e1 with e1
    injection e1 with e1
    subst e1 e3
    have hlen : (flat xs ++ rest).length = xs.length * 23 + rest.length := by rw [List.length_append, flat_len]
    have hdl : (flat (xs.drop j)).length = (xs.length - j) * 23 := by rw [flat_len, List.length_drop]
    have hth := there_of hh (o := i * 23) (n := (xs.length - j) * 23) (by rw [hlen]; omega)
    obtain ⟨i0, hi, hzz⟩ := Option.map_eq_some_iff.1 info
    simp only [Prod.mk.injEq] at hzz
    obtain ⟨hz0, hz1, hz2⟩ := hzz
    constructor
    · have := run_append_room_cells (P := Try.prog) w 56 ty 60 i0 Try.underlying56 hi g 0 i c a (xs.length - j) c' (flat (xs.drop j)) (by rw [hdl, hz1]) (fun q u hq => by
        have hql : q < (xs.length - j) * 23 := by rw [← hdl]; exact (List.getElem?_eq_some_iff.1 hq).1
        rcases ha with ha | rfl
        · omega
        · have ea : (⟨g, j * 23, none⟩ : Addr).add q = ⟨g, j * 23 + q, none⟩ := Addr.add_mid g (j * 23) q
          rw [ea, blk_cell hh, List.getElem?_toArray, List.getElem?_append_left (by rw [flat_len]; omega), ← List.getElem?_drop, flat_drop xs j hj]
          exact hq) (fun u hu => flat_cells hu) (by omega) (fun q hq => by rw [hz1, Nat.zero_add]; exact (hth q (by omega)).1) (fun q hq => by rw [hz1, Nat.zero_add]; exact (hth q (by omega)).2)
      rw [hz1, Nat.zero_add] at this
      exact this
    · have hset := setCells_heap g _ (flat (xs.drop j)) (i * 23) _ w hh (by rw [hlen, hdl]; omega)
      have hl : (xs.take i ++ xs.drop j ++ xs.drop (i + (xs.length - j))).length = xs.length := by
        rw [List.length_append, List.length_append, List.length_take, List.length_drop, List.length_drop]
        omega
      refine .inr ⟨g, c, rest, by rw [hl], hf, ?_, by rw [hl]; exact hr, by rw [hl]; exact hc, hm⟩
      rw [hset, List.take_append_of_le_length (by rw [flat_len]; omega), flat_take xs i (by omega), hdl, show i * 23 + (xs.length - j) * 23 = (i + (xs.length - j)) * 23 from by omega, List.drop_append_of_le_length (by rw [flat_len]; omega), flat_drop xs _ (by omega),
        flat_append, flat_append, List.append_assoc, List.append_assoc, List.append_assoc]
theorem Row.cut {w : World} {F : Nat → Prop} {A : Option Addr} {n c : Nat} {xs : List Smp} (h : Row w F (.slice A n c) xs) (m : Nat) (hm : m ≤ xs.length) : Row w F (.slice A m c) (xs.take m) := by
  rcases h with ⟨e, rfl⟩ | ⟨g', cap', rest, e, hf, hh, hr, hc, hcm⟩
  · obtain rfl : m = 0 := by simpa using hm
    injection e with e1 e2 e3
    subst e1 e2 e3
    exact .inl ⟨rfl, rfl⟩
  · injection e with e1 e2 e3
    subst e1 e2 e3
    have hl : (xs.take m).length = m := by rw [List.length_take]; omega
    refine .inr ⟨g', c, flat (xs.drop m) ++ rest, by rw [hl], hf, ?_, ?_, by omega, hcm⟩
    · rw [← List.append_assoc, ← flat_append, List.take_append_drop]
      exact hh
    · rw [List.length_append, flat_len, List.length_drop, hr, hl, ← Nat.add_mul]
      congr 1
      omega
/-- append([]T{}, xs...). -/
theorem Row.clone {w : World} {F : Nat → Prop} {A : Option Addr} {n c : Nat} {xs : List Smp} (h : Row w F (.slice A n c) xs) (hl : xs.length * 80 ≤ 140737488355328) (hA : A ≠ none) (ty : TypeId) :
    ∃ v1 w1, (Builtin.append_ #[56, 56] ty #[.slice (some ⟨w.heap.size, 0, none⟩) 0 0, .slice A n c]).run Try.prog (w.alloc (.cells #[] 60)) = .ok v1 w1 ∧
      Row w1 (fun k => w.heap.size ≤ k ∧ k < w1.heap.size) v1 xs ∧ Below w.heap.size w w1 := by
  rcases h with ⟨e, _⟩ | ⟨g, cap', rest, e, hf, hh, hr, hc, hm⟩
  · injection e with e1
    exact absurd e1 hA
  · injection e with e1 e2 e3
    subst e1 e2 e3
    obtain ⟨i0, hi, hzz⟩ := Option.map_eq_some_iff.1 info
    simp only [Prod.mk.injEq] at hzz
    obtain ⟨hz0, hz1, hz2⟩ := hzz
    have hn : (w.alloc (.cells #[] 60)).heap[w.heap.size]? = some (.cells #[] 60 (0, 0)) := heap_alloc_new _ _
    have ho0 : (w.alloc (.cells #[] 60)).ownsRow 0 60 23 (.slice (some ⟨w.heap.size, 0, none⟩) 0 0) 0 [] := ⟨rfl, .inr ⟨w.heap.size, 0, #[], rfl, Nat.zero_le _, hn, Nat.le_refl _, Nat.zero_le _, rfl, rfl⟩⟩
    have hh1 := blk_alloc hh (.cells #[] 60)
    obtain ⟨v1, w1, hrun, ho, hg, _, hat⟩ := run_append_own_at (P := Try.prog) (w.alloc (.cells #[] 60)) 0 56 ty 60 i0 _ 23 80 Try.underlying56 hi hz0 hz1 hz2 (by show (cells zsmp).toArray.size = 23; rw [List.size_toArray, cells_len]) (by decide)
      (.slice (some ⟨w.heap.size, 0, none⟩) 0 0) 0 [] ho0 ⟨g, 0, none⟩ xs.length c (flat xs) (flat_len xs) (fun j u hu => by
        have hj : j < xs.length * 23 := by rw [← flat_len]; exact (List.getElem?_eq_some_iff.1 hu).1
        rw [add_plain, blk_cell hh1, List.getElem?_toArray, List.getElem?_append_left (by rw [flat_len]; exact hj)]
        exact hu) (fun u hu => flat_cells hu) (by simp only [maxLen]; omega) (by simpa using hl) (Nat.zero_le _)
    have hb : Below w.heap.size w w1 := by
      refine ⟨hg.os, hg.tape, hg.output, by have := hg.size; simp at this; omega, fun k hk => ?_⟩
      rw [hg.block k (by simp; omega) (by simp [Value.ownBlock]; omega)]
      exact Below.heap_alloc w _ k hk
    refine ⟨v1, w1, hrun, Row.of_owns (xs := xs) (by simpa using ho) (fun k hk => ?_), hb⟩
    have hlt : k < w1.heap.size := by
      rcases ho.2 with ⟨e, _⟩ | ⟨g', cap', cur, e, _, hh', _⟩
      · rw [e] at hk
        simp [Value.ownBlock] at hk
      · rw [e] at hk
        have : g' = k := by simpa [Value.ownBlock] using hk
        exact this ▸ blk_lt hh'
    refine ⟨?_, hlt⟩
    rcases hat with hat | hat
    · rw [hat] at hk
      have : w.heap.size = k := by simpa [Value.ownBlock] using hk
      omega
    · rw [hat] at hk
      have : w.heap.size + 1 = k := by simpa using hk
      omega
set_option maxHeartbeats 2000000 in
set_option maxRecDepth 20000 in
theorem delete_ {F : Nat → Prop} {w : World} {v : Value} {xs : List Smp} {i j : Nat} (h : Row w F v xs) (hij : i < j) (hj : j ≤ xs.length) :
    Calls Try.prog 79 #[v, .int .i64 (i : Int), .int .i64 (j : Int)] w fun e w' => ∃ v', e = .returned v' ∧ Row w' F v' (xs.take i ++ xs.drop j) ∧ Mod F w w' := by
  have hm := h.small
  have hmm : maxLen = 9223372036854775807 := rfl
  obtain ⟨A, c, rfl, hc, hA⟩ := h.slice
  obtain ⟨g, rfl⟩ : ∃ g, A = some ⟨g, 0, none⟩ := by
    rcases h with ⟨e, hx⟩ | ⟨g, cap, rest, e, _⟩
    · subst hx; exact absurd hj (by simp; omega)
    · injection e with e1 _ _; exact ⟨g, e1⟩
  have hFg := (hA _ rfl).2.1
  obtain ⟨K, hK⟩ : ∃ K, K = i + (xs.length - j) := ⟨_, rfl⟩
  have q1 : ((i : Int) == (j : Int)) = false := beq_eq_false_iff_ne.2 (by omega)
  have q2 : (0 : Int) ≤ (i : Int) := by omega
  have q3 : (i : Int) ≤ (j : Int) := by omega
  have q4 : (j : Int) ≤ (xs.length : Int) := by omega
  have q5 : (xs.length : Int) ≤ (c : Int) := by omega
  have q6 : (i : Int) ≤ (xs.length : Int) := by omega
  have q7 : (i : Int) ≤ (c : Int) := by omega
  have q8 : (K : Int) ≤ (xs.length : Int) := by omega
  have q9 : ¬ c = K := by omega
  have q10 : (0 : Int) ≤ (j : Int) := by omega
  have q11 : ¬ c = i := by omega
  have q12 : ¬ xs.length = i := by omega
  have key : ∀ (a : Addr), (xs.length = j ∨ a = ⟨g, j * 23, none⟩) → ∀ c' ty, (Builtin.append_ #[56, 56] ty #[.slice (some ⟨g, 0, none⟩) i c, .slice (some a) (xs.length - j) c']).run Try.prog w.drew = .ok (.slice (some ⟨g, 0, none⟩) K c) (w.drew.setCells g (i * 23) (flat (xs.drop j))) := fun a ha c' ty => by
    rw [hK]
    exact (Row.move h.drew hij hj a ha c' ty).1
  have hro0 := (Row.move h.drew hij hj ⟨g, j * 23, none⟩ (.inr rfl) 0 0).2
  rw [← hK] at hro0
  have hzl : (xs.take i ++ xs.drop j ++ xs.drop K).length = xs.length := by
    rw [List.length_append, List.length_append, List.length_take, List.length_drop, List.length_drop]
    omega
  have hcl := fun c ty => hro0.clear K (by rw [hzl]; omega) c ty
  rw [hzl] at hcl
  have htk : (xs.take i ++ xs.drop j ++ xs.drop K).take K = xs.take i ++ xs.drop j := by
    rw [List.take_left']
    rw [List.length_append, List.length_take, List.length_drop]
    omega
  have hro := Lib.hid (htk ▸ (hcl 0 0).2)
  have hcr := fun c ty => (hcl c ty).1
  have hmo : Hid (Mod F w ((w.drew.setCells g (i * 23) (flat (xs.drop j))).setCells g (K * 23) (flat (List.replicate (xs.length - K) zsmp)))) := Lib.hid (((Mod.refl F w).drew.trans (setCells_mod _ _ _ _) (fun q hq => .inl (show F q from by rw [show q = g from hq]; exact hFg))).trans (setCells_mod _ _ _ _) (fun q hq => .inl (show F q from by rw [show q = g from hq]; exact hFg)))
  clear hro0 hzl hcl htk hFg hm hmm hA
  by_cases hcj : c = j
  · have hrun := key ⟨g, 0, none⟩ (.inl (by omega)) 0
    subst hcj
    clear h key hij hj hc hK
    go_enter Try.func79, Try.ntmps79
    go_wp2
    refine Reg.wp_plan (S := fun w' => 0 ≤ w'.heap.size) 8 (.fl 0 (.fl 1 (.fl 2 (.fl 3 (.fl 4 (.fl 5 (.one 6 (.fl 7 .done)))))))) (by kernel_rfl) (by kernel_rfl) (by kernel_rfl) (by kernel_rfl) (fun _ _ _ d _ h => by cases d <;> exact h) ?_ (fun hHeld => ?_)
    · exact Nat.zero_le _
    refine Reg.G_on (o := { dst := some 20, op := Op.move (Operand.tmp 0), type := 56, pos := "slices.go:232", after := #[], guard := Option.none }) (v := ?_) (by rfl) ?_ (fun wS hSw => ?_) ?_
    rotate_left
    · kernel_rfl
    · (try dsimp only at hSw); go_simp; (try with_reducible rfl)
    try simp only [Act.put, List.setIfInBounds_toArray, List.set_cons_zero, List.set_cons_succ]
    refine Reg.G_on (o := { dst := some 21, op := Op.move (Operand.tmp 1), type := 3, pos := "slices.go:232", after := #[], guard := Option.none }) (v := ?_) (by rfl) ?_ (fun wS hSw => ?_) ?_
    rotate_left
    · kernel_rfl
    · (try dsimp only at hSw); go_simp; (try with_reducible rfl)
    try simp only [Act.put, List.setIfInBounds_toArray, List.set_cons_zero, List.set_cons_succ]
    refine Reg.G_on (o := { dst := some 22, op := Op.slice 56 (Operand.tmp 20) Option.none (some (Operand.tmp 21)) Option.none, type := 56, pos := "slices.go:232", after := #[{ on := 0, ground := Ground.data }, { on := 1, ground := Ground.data }], guard := Option.none }) (v := ?_) (by rfl) ?_ (fun wS hSw => ?_) ?_
    rotate_left
    · kernel_rfl
    · (try dsimp only at hSw); go_simp; (try with_reducible rfl)
    try simp only [Act.put, List.setIfInBounds_toArray, List.set_cons_zero, List.set_cons_succ]
    refine Reg.G_on (o := { dst := some 23, op := Op.move (Operand.tmp 0), type := 56, pos := "slices.go:232", after := #[], guard := Option.none }) (v := ?_) (by rfl) ?_ (fun wS hSw => ?_) ?_
    rotate_left
    · kernel_rfl
    · (try dsimp only at hSw); go_simp; (try with_reducible rfl)
    try simp only [Act.put, List.setIfInBounds_toArray, List.set_cons_zero, List.set_cons_succ]
    refine Reg.G_on (o := { dst := some 24, op := Op.move (Operand.tmp 2), type := 3, pos := "slices.go:232", after := #[], guard := Option.none }) (v := ?_) (by rfl) ?_ (fun wS hSw => ?_) ?_
    rotate_left
    · kernel_rfl
    · (try dsimp only at hSw); go_simp; (try with_reducible rfl)
    try simp only [Act.put, List.setIfInBounds_toArray, List.set_cons_zero, List.set_cons_succ]
    refine Reg.G_on (o := { dst := some 25, op := Op.slice 56 (Operand.tmp 23) (some (Operand.tmp 24)) Option.none Option.none, type := 56, pos := "slices.go:232", after := #[{ on := 3, ground := Ground.data }, { on := 4, ground := Ground.data }], guard := Option.none }) (v := ?_) (by rfl) ?_ (fun wS hSw => ?_) ?_
    rotate_left
    · kernel_rfl
    · (try dsimp only at hSw); go_simp; (try with_reducible rfl)
    try simp only [Act.put, List.setIfInBounds_toArray, List.set_cons_zero, List.set_cons_succ]
    refine Reg.G_step (o := { dst := some 26, op := Op.call { callee := Callee.builtin Builtin.append, args := #[Operand.tmp 22, Operand.tmp 25], argTypes := #[56, 56] }, type := 56, pos := "slices.go:232", after := #[{ on := 2, ground := Ground.data }, { on := 5, ground := Ground.data }], guard := Option.none }) (by rfl) ?_ (fun K hK => ?_)
    · kernel_rfl
    refine op_append (.tmp 22) (.tmp 25) 56 rfl rfl rfl (hrun _) ?_
    refine hK.out _ _ ?_ (fun hHeld => ?_)
    · exact Nat.zero_le _
    clear hK K
    try simp only [Act.put, List.setIfInBounds_toArray, List.set_cons_zero, List.set_cons_succ]
    refine Reg.G_on (o := { dst := some 0, op := Op.assign (Operand.tmp 26), type := 56, pos := "slices.go:232", after := #[{ on := 6, ground := Ground.data }, { on := 6, ground := Ground.chain }, { on := 0, ground := Ground.phase }, { on := 1, ground := Ground.phase }, { on := 2, ground := Ground.phase }, { on := 3, ground := Ground.phase }, { on := 4, ground := Ground.phase }, { on := 5, ground := Ground.phase }, { on := 6, ground := Ground.phase }], guard := Option.none }) (v := ?_) (by rfl) ?_ (fun wS hSw => ?_) ?_
    rotate_left
    · kernel_rfl
    · (try dsimp only at hSw); go_simp; (try with_reducible rfl)
    try simp only [Act.put, List.setIfInBounds_toArray, List.set_cons_zero, List.set_cons_succ]
    refine Reg.G_done ?_
    clear hHeld
    go_wp2
    go_ret
    refine ⟨_, rfl, ?_, ?_⟩
    · exact hro.out
    · exact hmo.out
  · have hrun := key ⟨g, j * 23, none⟩ (.inr rfl) (c - j)
    clear h key hij hj hc hK
    go_enter Try.func79, Try.ntmps79
    go_wp2
    refine Reg.wp_plan (S := fun w' => 0 ≤ w'.heap.size) 8 (.fl 0 (.fl 1 (.fl 2 (.fl 3 (.fl 4 (.fl 5 (.one 6 (.fl 7 .done)))))))) (by kernel_rfl) (by kernel_rfl) (by kernel_rfl) (by kernel_rfl) (fun _ _ _ d _ h => by cases d <;> exact h) ?_ (fun hHeld => ?_)
    · exact Nat.zero_le _
    refine Reg.G_on (o := { dst := some 20, op := Op.move (Operand.tmp 0), type := 56, pos := "slices.go:232", after := #[], guard := Option.none }) (v := ?_) (by rfl) ?_ (fun wS hSw => ?_) ?_
    rotate_left
    · kernel_rfl
    · (try dsimp only at hSw); go_simp; (try with_reducible rfl)
    try simp only [Act.put, List.setIfInBounds_toArray, List.set_cons_zero, List.set_cons_succ]
    refine Reg.G_on (o := { dst := some 21, op := Op.move (Operand.tmp 1), type := 3, pos := "slices.go:232", after := #[], guard := Option.none }) (v := ?_) (by rfl) ?_ (fun wS hSw => ?_) ?_
    rotate_left
    · kernel_rfl
    · (try dsimp only at hSw); go_simp; (try with_reducible rfl)
    try simp only [Act.put, List.setIfInBounds_toArray, List.set_cons_zero, List.set_cons_succ]
    refine Reg.G_on (o := { dst := some 22, op := Op.slice 56 (Operand.tmp 20) Option.none (some (Operand.tmp 21)) Option.none, type := 56, pos := "slices.go:232", after := #[{ on := 0, ground := Ground.data }, { on := 1, ground := Ground.data }], guard := Option.none }) (v := ?_) (by rfl) ?_ (fun wS hSw => ?_) ?_
    rotate_left
    · kernel_rfl
    · (try dsimp only at hSw); go_simp; (try with_reducible rfl)
    try simp only [Act.put, List.setIfInBounds_toArray, List.set_cons_zero, List.set_cons_succ]
    refine Reg.G_on (o := { dst := some 23, op := Op.move (Operand.tmp 0), type := 56, pos := "slices.go:232", after := #[], guard := Option.none }) (v := ?_) (by rfl) ?_ (fun wS hSw => ?_) ?_
    rotate_left
    · kernel_rfl
    · (try dsimp only at hSw); go_simp; (try with_reducible rfl)
    try simp only [Act.put, List.setIfInBounds_toArray, List.set_cons_zero, List.set_cons_succ]
    refine Reg.G_on (o := { dst := some 24, op := Op.move (Operand.tmp 2), type := 3, pos := "slices.go:232", after := #[], guard := Option.none }) (v := ?_) (by rfl) ?_ (fun wS hSw => ?_) ?_
    rotate_left
    · kernel_rfl
    · (try dsimp only at hSw); go_simp; (try with_reducible rfl)
    try simp only [Act.put, List.setIfInBounds_toArray, List.set_cons_zero, List.set_cons_succ]
    refine Reg.G_on (o := { dst := some 25, op := Op.slice 56 (Operand.tmp 23) (some (Operand.tmp 24)) Option.none Option.none, type := 56, pos := "slices.go:232", after := #[{ on := 3, ground := Ground.data }, { on := 4, ground := Ground.data }], guard := Option.none }) (v := ?_) (by rfl) ?_ (fun wS hSw => ?_) ?_
    rotate_left
    · kernel_rfl
    · (try dsimp only at hSw); go_simp; (try with_reducible rfl)
    try simp only [Act.put, List.setIfInBounds_toArray, List.set_cons_zero, List.set_cons_succ]
    refine Reg.G_step (o := { dst := some 26, op := Op.call { callee := Callee.builtin Builtin.append, args := #[Operand.tmp 22, Operand.tmp 25], argTypes := #[56, 56] }, type := 56, pos := "slices.go:232", after := #[{ on := 2, ground := Ground.data }, { on := 5, ground := Ground.data }], guard := Option.none }) (by rfl) ?_ (fun K hK => ?_)
    · kernel_rfl
    refine op_append (.tmp 22) (.tmp 25) 56 rfl rfl rfl (hrun _) ?_
    refine hK.out _ _ ?_ (fun hHeld => ?_)
    · exact Nat.zero_le _
    clear hK K
    try simp only [Act.put, List.setIfInBounds_toArray, List.set_cons_zero, List.set_cons_succ]
    refine Reg.G_on (o := { dst := some 0, op := Op.assign (Operand.tmp 26), type := 56, pos := "slices.go:232", after := #[{ on := 6, ground := Ground.data }, { on := 6, ground := Ground.chain }, { on := 0, ground := Ground.phase }, { on := 1, ground := Ground.phase }, { on := 2, ground := Ground.phase }, { on := 3, ground := Ground.phase }, { on := 4, ground := Ground.phase }, { on := 5, ground := Ground.phase }, { on := 6, ground := Ground.phase }], guard := Option.none }) (v := ?_) (by rfl) ?_ (fun wS hSw => ?_) ?_
    rotate_left
    · kernel_rfl
    · (try dsimp only at hSw); go_simp; (try with_reducible rfl)
    try simp only [Act.put, List.setIfInBounds_toArray, List.set_cons_zero, List.set_cons_succ]
    refine Reg.G_done ?_
    clear hHeld
    go_wp2
    go_ret
    refine ⟨_, rfl, ?_, ?_⟩
    · exact hro.out
    · exact hmo.out
set_option maxHeartbeats 1000000 in
set_option maxRecDepth 20000 in
theorem clone {F : Nat → Prop} {w : World} {v : Value} {xs : List Smp} (h : Row w F v xs) (hl : xs.length * 80 ≤ 140737488355328) :
    Calls Try.prog 70 #[v] w fun e w' => ∃ v', e = .returned v' ∧ Row w' (fun k => w.heap.size ≤ k ∧ k < w'.heap.size) v' xs ∧ Below w.heap.size w w' := by
  obtain ⟨A, c, rfl, hc, hA⟩ := h.slice
  rcases A with _ | a
  · have hx : xs = [] ∧ c = 0 := by
      rcases h with ⟨e, hx⟩ | ⟨g, cap, rest, e, _⟩
      · injection e with _ _ e3; exact ⟨hx, e3⟩
      · cases e
    obtain ⟨rfl, rfl⟩ := hx
    have b0 := Below.refl w.heap.size w
    have hsn : ∀ W, (binOp .eql 56 (.slice none 0 0) (.slice none 0 0)).run Try.prog W = .ok (.bool true) W := fun W => Lib.run_eql_slice_nil W 56 60 none 0 0 0 0 Try.underlying56
    clear h hA
    go_enter Try.func70, Try.ntmps70
    go_wp2
    go_ret
    exact ⟨_, rfl, Row.nil _ _, b0⟩
  · have hrun := fun ty => h.clone hl (by simp) ty
    obtain ⟨v1, w1, hr, hR, hb⟩ := hrun 56
    have HO := Lib.hid (And.intro hR hb)
    have hsn : ∀ W, (binOp .eql 56 (.slice (some a) xs.length c) (.slice none 0 0)).run Try.prog W = .ok (.bool false) W := fun W => Lib.run_eql_slice_nil W 56 60 (some a) xs.length c 0 0 Try.underlying56
    clear h hA hR hb hrun
    go_enter Try.func70, Try.ntmps70
    go_wp2_with (at_builtin; refine wp_append rfl _ _ _ rfl rfl rfl hr ?_)
    go_ret
    exact ⟨_, rfl, HO.out.1, HO.out.2⟩
end Go.Proofs.Ytimalojaiaofkaa.Smp
namespace Go.Proofs.Ytimalojaiaofkaa.Clock
open Go.RowKit Base
/-- Age: how long ago. -/
def age (a b : Int) : Int := if a ≤ b then 0 else a - b

theorem beyond_u (a b : Int) (w : World) (ha : a < 18446744073709551616) (hb : 0 ≤ b) :
    Calls Try.prog 95 #[.int .u64 a, .int .u64 b] w fun e w' => e = .returned (.int .u64 (age a b)) ∧ w = w' := by
  by_cases h : a ≤ b
  · go_enter Try.func95, Try.ntmps95
    go_wp2
    go_ret
    exact ⟨bx (by unfold age; rw [if_pos h]), rfl⟩
  · have hw : IntKind.u64.wrap (a - b) = a - b := wrapu64 (by omega) (by omega)
    go_enter Try.func95, Try.ntmps95
    go_wp2
    go_ret
    exact ⟨bx (by unfold age; rw [if_neg (by omega)]), rfl⟩

theorem beyond_i (a : Int) (w : World) (h0 : 0 ≤ a) (ha : a < 9223372036854775808) :
    Calls Try.prog 72 #[.int .i64 a, .int .i64 0] w fun e w' => e = .returned (.int .i64 a) ∧ w = w' := by
  by_cases h : a ≤ 0
  · obtain rfl : a = 0 := by omega
    go_enter Try.func72, Try.ntmps72
    go_wp2
    go_ret
    exact ⟨rfl, rfl⟩
  · have hw : IntKind.i64.wrap (a - 0) = a := by rw [Int.sub_zero]; exact wrapi64 (by omega) (by omega)
    go_enter Try.func72, Try.ntmps72
    go_wp2
    go_ret
    exact ⟨bx (by first | rfl | omega | simp), rfl⟩

theorem age_u (a b : Int) (w : World) (ha : a < 18446744073709551616) (hb : 0 ≤ b) :
    Calls Try.prog 71 #[.int .u64 a, .int .u64 b] w fun e w' => e = .returned (.int .u64 (age a b)) ∧ w = w' := by
  go_enter Try.func71, Try.ntmps71
  go_wp2_with (go_at_call 95; refine (beyond_u _ _ _ ha hb).mono ?_; rintro e w' ⟨rfl, rfl⟩)
  go_ret
  exact ⟨rfl, rfl⟩

theorem age_ref (a b : Int) (w : World) (ha : a < 18446744073709551616) (hb : 0 ≤ b) :
    Calls Try.prog 94 #[.int .u64 a, .int .u64 b] w fun e w' => e = .returned (.int .u64 (age a b)) ∧ w = w' := by
  by_cases h : a < b
  · go_enter Try.func94, Try.ntmps94
    go_wp2
    go_ret
    exact ⟨bx (by unfold age; rw [if_pos (by omega)]), rfl⟩
  · have hw : IntKind.u64.wrap (a - b) = a - b := wrapu64 (by omega) (by omega)
    go_enter Try.func94, Try.ntmps94
    go_wp2
    go_ret
    exact ⟨bx (by unfold age; split <;> omega), rfl⟩

/-- Over: so many frames ago, or more. -/
def over (a b f : Int) : Bool := decide (max f 0 ≤ age a b)

theorem over_u (a b f : Int) (w : World) (ha : a < 18446744073709551616) (hb : 0 ≤ b) (hf0 : -9223372036854775808 ≤ f) (hf1 : f < 9223372036854775808) :
    Calls Try.prog 40 #[.int .u64 a, .int .u64 b, .int .i64 f] w fun e w' => e = .returned (.bool (over a b f)) ∧ w = w' := by
  go_enter Try.func40, Try.ntmps40
  go_wp2_with (first
    | (go_at_call 71; refine (age_u _ _ _ ha hb).mono ?_; rintro e w' ⟨rfl, rfl⟩)
    | (go_at_call 72; refine (beyond_i _ _ (by omega) (by omega)).mono ?_; rintro e w' ⟨rfl, rfl⟩))
  all_goals
    go_ret
    exact ⟨bb (by unfold over; rw [decide_eq_decide]; omega), rfl⟩

theorem age_nonneg (a b : Int) : 0 ≤ age a b := by unfold age; split <;> omega

theorem over_ref (a b f : Int) (w : World) (ha : a < 18446744073709551616) (hb : 0 ≤ b) (hf0 : -9223372036854775808 ≤ f) (hf1 : f < 9223372036854775808) :
    Calls Try.prog 69 #[.int .u64 a, .int .u64 b, .int .i64 f] w fun e w' => e = .returned (.bool (over a b f)) ∧ w = w' := by
  have hn := age_nonneg a b
  by_cases h : f < 1
  · go_enter Try.func69, Try.ntmps69
    go_wp2_with (go_at_call 94; refine (age_ref _ _ _ ha hb).mono ?_; rintro e w' ⟨rfl, rfl⟩)
    go_ret
    exact ⟨bb (by unfold over; rw [eq_comm, decide_eq_true_eq]; omega), rfl⟩
  · go_enter Try.func69, Try.ntmps69
    go_wp2_with (go_at_call 94; refine (age_ref _ _ _ ha hb).mono ?_; rintro e w' ⟨rfl, rfl⟩)
    go_ret
    exact ⟨bb (by unfold over; rw [decide_eq_decide]; omega), rfl⟩
end Go.Proofs.Ytimalojaiaofkaa.Clock
namespace Go.Proofs.Ytimalojaiaofkaa.His
open Go.RowKit Base Sp Flat Go.Proofs.YtimalojaiaofkaaW.PrintWords Go.Shelf Smp
section
variable {P : Program} {ops : Array Oper} {rest : List Oper} {op : Oper} {a : Act} {W : World} {Q : Exit → Act → World → Prop}
/-- A comparison of two aggregates whose result is known. -/
theorem eql_ev (hgd : op.guard = none) (b : BinOp) (t t2 : TypeId) (x y : Operand) (ho : op.op = .binOp b t x y t2) (xs ys : Array Value) (hx : a.eval x = .agg xs) (hy : a.eval y = .agg ys) (hm : P.eqGuardType P.depth t = false) (r : Value)
    (hr : (binOp b t (.agg xs) (.agg ys)).run P W = .ok r W) (h : wpList P ops Q rest (a.put op.dst r) W) : wpList P ops Q (op :: rest) a W := by
  refine wpList_plain hgd fun K hK => ?_
  unfold Oper.wp execOp
  simp only [ho, hx, hy, Sem.run_bind, run_eqGuard_agg W b t x y xs ys hm, Result.andThen_ok, hr, Sem.run_pure]
  exact hK _ _ h
end
theorem box_key {w : World} {g : Nat} {t : TypeId} {x : Smp} (h : w.heap[g]? = some (.cells (cells x).toArray t (0, 0))) : w.rangeAt g 5 (nums .u8 x.key) := fun j u hj => by
  have hj' : j < 17 := by
    have := (List.getElem?_eq_some_iff.1 hj).1
    rwa [nums_length, key_len] at this
  rw [blk_cell h, List.getElem?_toArray]
  unfold cells head
  rw [List.getElem?_append_right (by simp)]
  simp only [List.length_cons, List.length_nil]
  rw [show 5 + j - (0 + 1 + 1 + 1 + 1 + 1) = j from by omega, List.getElem?_append_left (by rw [nums_length, key_len]; exact hj')]
  exact hj
theorem key17 (k : List Int) (h : k.length = 17) : (Try.prog.info? 53).map (·.size) = some (nums .u8 k).length := by rw [nums_length, h]; kernel_rfl
theorem gd_key : (Try.prog).eqGuardType (Try.prog).depth 53 = false := by kernel_rfl
theorem gd_smp : (Try.prog).eqGuardType (Try.prog).depth 60 = false := by kernel_rfl
/-- A key: 17 bytes. -/
def GKey (k : List Int) : Prop := k.length = 17 ∧ ∀ n ∈ k, (Lit.int .u8 n).wf = true
theorem smp_key (x : Smp) : GKey x.key := x.good.2.2.2.2.2.1
theorem keys_eql (x y : List Int) (hx : GKey x) (hy : GKey y) (W : World) : (binOp .eql 53 (.agg (nums .u8 x).toArray) (.agg (nums .u8 y).toArray)).run Try.prog W = .ok (.bool (decide (x = y))) W := by
  rw [run_eql_struct, key_deep _ _ hx.1 hy.1 hx.2 hy.2]
  rfl
/-- Put's its: a sample of the same key. -/
def itk (k : List Int) (x : Smp) : Bool := decide (x.key = k)
set_option maxRecDepth 20000 in
theorem its_call (g : Nat) (s x : Smp) (W : World) (h : W.heap[g]? = some (.cells (cells s).toArray 60 (0, 0))) :
    Calls Try.prog 73 (#[.agg (cells x).toArray] ++ #[.pointer (some ⟨g, 0, none⟩)]) W fun e w' => e = .returned (.bool (itk s.key x)) ∧ Below W.heap.size W w' := by
  have b1 : Below W.heap.size W (W.alloc (.cells (cells x).toArray 60)) := (Below.refl _ _).alloc (Nat.le_refl _) _
  have r1 := box_key (heap_alloc_new W (.cells (cells x).toArray 60))
  have r2 := box_key (blk_alloc h (.cells (cells x).toArray 60))
  have hq := fun w => keys_eql x.key s.key (smp_key x) (smp_key s) w
  unfold itk
  go_enter Try.func73, Try.ntmps73
  go_wp2_with (first | ((with_reducible refine gate_dst (N := 5) rfl ?_); refine wpList_load_mid rfl 53 (.tmp 4) rfl _ 5 rfl _ _ r1 Try.underlying53 rfl (key17 _ (key_len x)) ?_) | ((with_reducible refine gate_dst (N := 7) rfl ?_); refine wpList_load_mid rfl 53 (.tmp 6) rfl _ 5 rfl _ _ r2 Try.underlying53 rfl (key17 _ (key_len s)) ?_) | ((with_reducible refine gate_dst (N := 8) rfl ?_); refine eql_ev rfl .eql 53 53 (.tmp 5) (.tmp 7) rfl _ _ rfl rfl gd_key _ (hq _) ?_))
  go_ret
  exact ⟨rfl, b1⟩
theorem its_pr (g : Nat) (s : Smp) (w : World) (h : w.heap[g]? = some (.cells (cells s).toArray 60 (0, 0))) : Pr 73 #[.pointer (some ⟨g, 0, none⟩)] (itk s.key) (fun k => k = g) w :=
  ⟨enters_of Try.func73 (by kernel_rfl) rfl, fun k hk => hk ▸ blk_lt h, fun W x hs => its_call g s x W ((hs g rfl).trans h)⟩
set_option maxRecDepth 20000 in
theorem all_call (x : Smp) (W : World) : Calls Try.prog 76 (#[.agg (cells x).toArray] ++ #[]) W fun e w' => e = .returned (.bool true) ∧ Below W.heap.size W w' := by
  have b1 : Below W.heap.size W (W.alloc (.cells (cells x).toArray 60)) := (Below.refl _ _).alloc (Nat.le_refl _) _
  go_enter Try.func76, Try.ntmps76
  go_wp2
  go_ret
  exact ⟨rfl, b1⟩
theorem all_pr (w : World) : Pr 76 #[] (fun _ => true) (fun _ => False) w :=
  ⟨enters_of Try.func76 (by kernel_rfl) rfl, fun k hk => hk.elim, fun W x _ => all_call x W⟩
set_option maxRecDepth 20000 in
theorem old_call (g1 g2 : Nat) (n f : Int) (x : Smp) (W : World) (h1 : W.heap[g1]? = some (.cells #[.int .u64 n] 58 (0, 0))) (h2 : W.heap[g2]? = some (.cells #[.int .i64 f] 3 (0, 0))) (hn : n < 18446744073709551616) (f0 : -9223372036854775808 ≤ f) (f1 : f < 9223372036854775808) :
    Calls Try.prog 77 (#[.agg (cells x).toArray] ++ #[.pointer (some ⟨g1, 0, none⟩), .pointer (some ⟨g2, 0, none⟩)]) W fun e w' => e = .returned (.bool (Clock.over n x.frame f)) ∧ Below W.heap.size W w' := by
  have b1 : Below W.heap.size W (W.alloc (.cells (cells x).toArray 60)) := (Below.refl _ _).alloc (Nat.le_refl _) _
  have n1 := heap_alloc_new W (.cells (cells x).toArray 60)
  have c0 : (W.alloc (.cells (cells x).toArray 60)).cell? ⟨W.heap.size, 2, none⟩ = some (.int .u64 x.frame) := blk_cell n1 2
  have c1 : (W.alloc (.cells (cells x).toArray 60)).cell? ⟨g1, 0, none⟩ = some (.int .u64 n) := blk_cell (blk_alloc h1 _) 0
  have c2 : (W.alloc (.cells (cells x).toArray 60)).cell? ⟨g2, 0, none⟩ = some (.int .i64 f) := blk_cell (blk_alloc h2 _) 0
  have hx := wf_u64 x.good.2.2.1
  have C := fun w => Clock.over_u n x.frame f w hn hx.1 f0 f1
  clear h1 h2 n1 hx f0 f1
  generalize x.frame = q at *
  go_enter Try.func77, Try.ntmps77
  go_wp2_with fail
  refine (C _).mono ?_
  rintro e w' ⟨rfl, rfl⟩
  go_wp2
  go_ret
  exact ⟨rfl, b1⟩
theorem old_pr (g1 g2 : Nat) (n f : Int) (w : World) (h1 : w.heap[g1]? = some (.cells #[.int .u64 n] 58 (0, 0))) (h2 : w.heap[g2]? = some (.cells #[.int .i64 f] 3 (0, 0))) (hn : n < 18446744073709551616) (f0 : -9223372036854775808 ≤ f) (f1 : f < 9223372036854775808) :
    Pr 77 #[.pointer (some ⟨g1, 0, none⟩), .pointer (some ⟨g2, 0, none⟩)] (fun x => Clock.over n x.frame f) (fun k => k = g1 ∨ k = g2) w :=
  ⟨enters_of Try.func77 (by kernel_rfl) rfl, fun k hk => hk.elim (fun h => h ▸ blk_lt h1) (fun h => h ▸ blk_lt h2), fun W x hs => old_call g1 g2 n f x W ((hs g1 (.inl rfl)).trans h1) ((hs g2 (.inr rfl)).trans h2) hn f0 f1⟩
end Go.Proofs.Ytimalojaiaofkaa.His
namespace Go.Proofs.Ytimalojaiaofkaa.His
open Go.RowKit Base Sp Flat Go.Proofs.YtimalojaiaofkaaW.PrintWords Go.Shelf Smp
/-- A history: where it lies, what it keeps; its row's block is F's. -/
structure HS (w : World) (F : Nat → Prop) (b : Nat) (d s : Int) (xs : List Smp) : Prop where
  at_ : ∃ v, w.heap[b]? = some (.cells #[.int .i64 d, .int .i64 s, v] 75 (0, 0)) ∧ Row w F v xs
  off : ¬ F b
  old : ∀ k, F k → k < w.heap.size
  d0 : 0 ≤ d
  s0 : 0 ≤ s
  dm : d < 9223372036854775808
  sm : s < 9223372036854775808
theorem HS.lt {w : World} {F : Nat → Prop} {b : Nat} {d s : Int} {xs : List Smp} (h : HS w F b d s xs) : b < w.heap.size := by
  obtain ⟨v, h1, _⟩ := h.at_
  exact blk_lt h1
theorem HS.below {w w' : World} {F : Nat → Prop} {b : Nat} {d s : Int} {xs : List Smp} (h : HS w F b d s xs) (hb : Below w.heap.size w w') : HS w' F b d s xs := by
  obtain ⟨v, h1, h2⟩ := h.at_
  exact ⟨⟨v, blk_below h1 hb, h2.below hb⟩, h.off, fun k hk => Nat.lt_of_lt_of_le (h.old k hk) hb.size, h.d0, h.s0, h.dm, h.sm⟩
theorem HS.same {w w' : World} {F : Nat → Prop} {b : Nat} {d s : Int} {xs : List Smp} (h : HS w F b d s xs) {G : Nat → Prop} (hm : Mod G w w') (hd : ∀ k, G k → ¬ F k ∧ k ≠ b) : HS w' F b d s xs := by
  obtain ⟨v, h1, h2⟩ := h.at_
  refine ⟨⟨v, (hm.block b (blk_lt h1) (fun hg => (hd b hg).2 rfl)).trans h1, h2.same (fun k hk => hm.block k (h.old k hk) (fun hg => (hd k hg).1 hk))⟩, h.off, fun k hk => Nat.lt_of_lt_of_le (h.old k hk) hm.size, h.d0, h.s0, h.dm, h.sm⟩
/-- What a call may turn. -/
abbrev HM (F : Nat → Prop) (b : Nat) : Nat → Prop := fun k => k = b ∨ F k
def mx0 (x : Int) : Int := if x < 0 then 0 else x
theorem mx0_0 (x : Int) : 0 ≤ mx0 x := by unfold mx0; split <;> omega
theorem mx0_m {x : Int} (h : x < 9223372036854775808) : mx0 x < 9223372036854775808 := by unfold mx0; split <;> omega
set_option maxRecDepth 20000 in
theorem new (d s : Int) (w : World) (hd : d < 9223372036854775808) (hs : s < 9223372036854775808) :
    Calls Try.prog 30 #[.int .i64 d, .int .i64 s] w fun e w' => e = .returned (.pointer (some ⟨w.heap.size, 0, none⟩)) ∧ HS w' (fun _ => False) w.heap.size (mx0 d) (mx0 s) [] ∧ Below w.heap.size w w' := by
  have HH : HS (w.alloc (.cells #[.int .i64 (mx0 d), .int .i64 (mx0 s), .slice none 0 0] 75)) (fun _ => False) w.heap.size (mx0 d) (mx0 s) [] :=
    ⟨⟨_, heap_alloc_new _ _, Row.nil _ _⟩, fun h => h, fun k h => h.elim, mx0_0 d, mx0_0 s, mx0_m hd, mx0_m hs⟩
  have b1 : Below w.heap.size w (w.alloc (.cells #[.int .i64 (mx0 d), .int .i64 (mx0 s), .slice none 0 0] 75)) := (Below.refl _ _).alloc (Nat.le_refl _) _
  clear hd hs
  unfold mx0 at *
  by_cases h1 : d < 0
  · rw [if_pos h1] at *
    by_cases h2 : s < 0
    · rw [if_pos h2] at *
      go_enter Try.func30, Try.ntmps30
      go_wp2
      go_ret
      exact ⟨rfl, HH, b1⟩
    · rw [if_neg h2] at *
      go_enter Try.func30, Try.ntmps30
      go_wp2
      go_ret
      exact ⟨rfl, HH, b1⟩
  · rw [if_neg h1] at *
    by_cases h2 : s < 0
    · rw [if_pos h2] at *
      go_enter Try.func30, Try.ntmps30
      go_wp2
      go_ret
      exact ⟨rfl, HH, b1⟩
    · rw [if_neg h2] at *
      go_enter Try.func30, Try.ntmps30
      go_wp2
      go_ret
      exact ⟨rfl, HH, b1⟩
set_option maxRecDepth 20000 in
theorem all_nil (w : World) : Calls Try.prog 35 #[.pointer none] w fun e w' => e = .returned (.slice none 0 0) ∧ Below w.heap.size w w' := by
  have b := Below.refl w.heap.size w
  go_enter Try.func35, Try.ntmps35
  go_wp2
  go_ret
  exact ⟨rfl, b⟩
set_option maxRecDepth 20000 in
theorem all {w : World} {F : Nat → Prop} {b : Nat} {d s : Int} {xs : List Smp} (h : HS w F b d s xs) (hl : xs.length * 80 ≤ 140737488355328) :
    Calls Try.prog 35 #[.pointer (some ⟨b, 0, none⟩)] w fun e w' => ∃ v, e = .returned v ∧ Row w' (fun k => w.heap.size ≤ k ∧ k < w'.heap.size) v xs ∧ Below w.heap.size w w' := by
  obtain ⟨v, h1, h2⟩ := h.at_
  have c2 : w.cell? ⟨b, 2, none⟩ = some v := blk_cell h1 2
  have C := clone h2 hl
  obtain ⟨A, c, rfl, _, _⟩ := h2.slice
  clear h h1 h2 hl
  go_enter Try.func35, Try.ntmps35
  go_wp2_with fail
  refine C.mono ?_
  rintro e w' ⟨v', rfl, hr, hb⟩
  go_wp2
  go_ret
  exact ⟨v', rfl, hr, hb⟩
set_option maxRecDepth 20000 in
theorem len_nil (w : World) : Calls Try.prog 36 #[.pointer none] w fun e w' => e = .returned (.int .i64 0) ∧ w = w' := by
  go_enter Try.func36, Try.ntmps36
  go_wp2
  go_ret
  exact ⟨rfl, rfl⟩
set_option maxRecDepth 20000 in
theorem len {w : World} {F : Nat → Prop} {b : Nat} {d s : Int} {xs : List Smp} (h : HS w F b d s xs) :
    Calls Try.prog 36 #[.pointer (some ⟨b, 0, none⟩)] w fun e w' => e = .returned (.int .i64 (xs.length : Int)) ∧ w = w' := by
  obtain ⟨v, h1, h2⟩ := h.at_
  have c2 : w.cell? ⟨b, 2, none⟩ = some v := blk_cell h1 2
  obtain ⟨A, c, rfl, _, _⟩ := h2.slice
  clear h h1 h2
  go_enter Try.func36, Try.ntmps36
  go_wp2
  go_ret
  exact ⟨rfl, rfl⟩
/-- How many are of a key. -/
def cnt (k : List Int) (xs : List Smp) : Nat := xs.countP (itk k)
theorem cnt_step (k : List Int) (xs : List Smp) (i : Nat) (hi : i < xs.length) : cnt k (xs.take (i + 1)) = cnt k (xs.take i) + (if itk k xs[i] = true then 1 else 0) := by
  unfold cnt
  rw [List.take_succ_eq_append_getElem hi, List.countP_append, List.countP_singleton]
theorem cnt_le (k : List Int) (xs : List Smp) (i : Nat) : cnt k (xs.take i) ≤ i := by
  unfold cnt
  refine Nat.le_trans List.countP_le_length ?_
  rw [List.length_take]
  omega
/-- Of, over what All gave. -/
theorem of_nil (k : List Int) (w : World) : Calls Try.prog 37 #[.pointer none, .agg (nums .u8 k).toArray] w fun e w' => e = .returned (.int .i64 0) ∧ Below w.heap.size w w' := by
  have b1 : Below w.heap.size w (w.alloc (.cells (nums .u8 k).toArray 53)) := (Below.refl _ _).alloc (Nat.le_refl _) _
  go_enter Try.func37, Try.ntmps37
  go_wp2_with fail
  refine (all_nil _).mono ?_
  rintro e w1 ⟨rfl, b2⟩
  have bb := bstep b1 b2
  clear b1 b2
  go_wp2
  go_loopw [5, 11] (fun v5 v wr => v5 = .int .i64 0 ∧ v = .int .i64 0 ∧ Below w.heap.size w wr) (fun _ _ _ => 0)
  case atStart => exact ⟨rfl, rfl, bb⟩
  case round =>
    clear bb
    obtain ⟨rfl, rfl, bb⟩ := hrel
    go_wp2
    go_ret
    exact ⟨rfl, bb⟩
set_option maxHeartbeats 2000000 in
set_option maxRecDepth 20000 in
theorem of {w : World} {F : Nat → Prop} {b : Nat} {d s : Int} {xs : List Smp} (h : HS w F b d s xs) (hl : xs.length * 80 ≤ 140737488355328) (k : List Int) (hk : GKey k) :
    Calls Try.prog 37 #[.pointer (some ⟨b, 0, none⟩), .agg (nums .u8 k).toArray] w fun e w' => e = .returned (.int .i64 (cnt k xs : Int)) ∧ Below w.heap.size w w' := by
  have b1 : Below w.heap.size w (w.alloc (.cells (nums .u8 k).toArray 53)) := (Below.refl _ _).alloc (Nat.le_refl _) _
  have C := all (h.below b1) hl
  have kb := heap_alloc_new w (.cells (nums .u8 k).toArray 53)
  have hsz : (w.alloc (.cells (nums .u8 k).toArray 53)).heap.size = w.heap.size + 1 := by simp
  have HS1 := Lib.hid hsz
  have HL := Lib.hid hl
  have HK := Lib.hid hk
  clear h hl hk hsz
  go_enter Try.func37, Try.ntmps37
  go_wp2_with fail
  refine C.mono ?_
  rintro e w1 ⟨v, rfl, hR, b2⟩
  have kb1 := blk_below kb b2
  have bb := bstep b1 b2
  obtain ⟨A, c, rfl, _, hA⟩ := hR.slice
  have hR1 := hR.mono (G := fun q => q ≠ w.heap.size) (fun q hq => by have := HS1.out; omega)
  clear C kb b1 b2 hR hA
  go_wp2
  go_loopw [5, 7, 11] (fun v5 _ v11 wr => ∃ i : Nat, v11 = .int .i64 (i : Int) ∧ v5 = .int .i64 (cnt k (xs.take i) : Int) ∧ i ≤ xs.length ∧ Row wr (fun q => q ≠ w.heap.size) (.slice A xs.length c) xs ∧ wr.heap[w.heap.size]? = some (.cells (nums .u8 k).toArray 53 (0, 0)) ∧ Below w.heap.size w wr) (fun _ _ v11 _ => xs.length - (intOf v11).toNat)
  case atStart => exact ⟨0, rfl, rfl, Nat.zero_le _, hR1, kb1, bb⟩
  case round =>
    clear hR1 kb1 bb
    obtain ⟨i, rfl, rfl, hi, hR, hk, bb⟩ := hrel
    have hcn := cnt_le k xs i
    by_cases hlt : i < xs.length
    · have h0 : (0 : Int) ≤ (i : Int) := by omega
      have hlt1 : (i : Int) < (xs.length : Int) := by omega
      obtain ⟨g, rfl⟩ : ∃ g, A = some ⟨g, 0, none⟩ := by
        rcases hR with ⟨e, hx⟩ | ⟨g, cap, rest, e, _⟩
        · subst hx; exact absurd hlt (Nat.not_lt_zero _)
        · injection e with e1 _ _; exact ⟨g, e1⟩
      have hrng := hR.range hlt
      have hstep := cnt_step k xs i hlt
      have hwi : wrap64 ((i : Int) + 1) = ((i + 1 : Nat) : Int) := by have := HL.out; unfold wrap64; omega
      have hwc : wrap64 ((cnt k (xs.take i) : Int) + 1) = ((cnt k (xs.take i) + 1 : Nat) : Int) := by have := HL.out; unfold wrap64; omega
      have hlt2 := Lib.hid hlt
      have hb1 := below_size bb
      generalize xs[i] = x at hrng hstep
      have hq := fun W => keys_eql x.key k (smp_key x) HK.out W
      generalize hC : cnt k (xs.take i) = C at *
      have HB := Lib.hid bb
      have HR2 := Lib.hid hR
      have HK2 := Lib.hid hk
      clear hC hcn hlt hi bb hR hk
      cases hp : itk k x with
      | true =>
        have hd : decide (x.key = k) = true := hp
        rw [hp, if_pos rfl] at hstep
        rw [hd] at hq
        have hs2 := Lib.hid hstep
        clear hp hd hstep
        go_wp2_with (first | ((with_reducible refine gate_dst (N := 14) rfl ?_); refine wpList_load_mid rfl 60 (.tmp 13) rfl g (i * 23) rfl (cells x) _ hrng Try.underlying60 rfl (size23 x) ?_) | ((with_reducible refine gate_dst (N := 7) rfl ?_); refine box_event rfl (N := 7) rfl (cs := (cells zsmp).toArray) (t := 60) ?hr ?_; (case hr => go_simp; rfl); intro gb hgb w8 hbox hb; subst hgb; clear hrng) | ((with_reducible refine gate_store (p := 7) (v := .tmp 14) rfl ?_); refine store_ev rfl 60 (.tmp 7) (.tmp 14) rfl wr.heap.size 0 (cells x) rfl rfl (there_of hbox (by rw [cells_len, cells_len]; omega)) (size23 x) (cells_one x) ?_; intro w9 hw9; have n9 := box_set (x := x) hbox; rw [← hw9] at n9; have M9 : Mod (fun k => k = wr.heap.size) w8 w9 := hw9 ▸ setCells_mod w8 wr.heap.size 0 (cells x); have W9 : Below wr.heap.size wr w9 := M9.below hb hb.size (fun k hk => by rw [show k = wr.heap.size from hk]; exact Nat.le_refl _); have r9 := box_key n9; have r10 : w9.rangeAt w.heap.size 0 (nums .u8 k) := (fun j u hj => by rw [blk_cell (blk_below HK2.out W9), Nat.zero_add, List.getElem?_toArray]; exact hj); clear hb hbox hw9 M9 n9) | ((with_reducible refine gate_dst (N := 16) rfl ?_); refine wpList_load_mid rfl 53 (.tmp 15) rfl _ 5 rfl _ _ r9 Try.underlying53 rfl (key17 _ (key_len x)) ?_) | ((with_reducible refine gate_dst (N := 17) rfl ?_); refine wpList_load_mid rfl 53 (.tmp 3) rfl _ 0 rfl _ _ r10 Try.underlying53 rfl (key17 _ HK.out.1) ?_) | ((with_reducible refine gate_dst (N := 18) rfl ?_); refine eql_ev rfl .eql 53 53 (.tmp 16) (.tmp 17) rfl _ _ rfl rfl gd_key _ (hq _) ?_))
        rw [hwi, hwc]
        exact ⟨⟨i + 1, rfl, by rw [hs2.out], hlt2.out, HR2.out.below W9, blk_below HK2.out W9, bstep HB.out W9⟩, meas _ _ hlt2.out⟩
      | false =>
        have hd : decide (x.key = k) = false := hp
        rw [hp, if_neg (by decide)] at hstep
        rw [hd] at hq
        have hs2 := Lib.hid hstep
        clear hp hd hstep
        go_wp2_with (first | ((with_reducible refine gate_dst (N := 14) rfl ?_); refine wpList_load_mid rfl 60 (.tmp 13) rfl g (i * 23) rfl (cells x) _ hrng Try.underlying60 rfl (size23 x) ?_) | ((with_reducible refine gate_dst (N := 7) rfl ?_); refine box_event rfl (N := 7) rfl (cs := (cells zsmp).toArray) (t := 60) ?hr ?_; (case hr => go_simp; rfl); intro gb hgb w8 hbox hb; subst hgb; clear hrng) | ((with_reducible refine gate_store (p := 7) (v := .tmp 14) rfl ?_); refine store_ev rfl 60 (.tmp 7) (.tmp 14) rfl wr.heap.size 0 (cells x) rfl rfl (there_of hbox (by rw [cells_len, cells_len]; omega)) (size23 x) (cells_one x) ?_; intro w9 hw9; have n9 := box_set (x := x) hbox; rw [← hw9] at n9; have M9 : Mod (fun k => k = wr.heap.size) w8 w9 := hw9 ▸ setCells_mod w8 wr.heap.size 0 (cells x); have W9 : Below wr.heap.size wr w9 := M9.below hb hb.size (fun k hk => by rw [show k = wr.heap.size from hk]; exact Nat.le_refl _); have r9 := box_key n9; have r10 : w9.rangeAt w.heap.size 0 (nums .u8 k) := (fun j u hj => by rw [blk_cell (blk_below HK2.out W9), Nat.zero_add, List.getElem?_toArray]; exact hj); clear hb hbox hw9 M9 n9) | ((with_reducible refine gate_dst (N := 16) rfl ?_); refine wpList_load_mid rfl 53 (.tmp 15) rfl _ 5 rfl _ _ r9 Try.underlying53 rfl (key17 _ (key_len x)) ?_) | ((with_reducible refine gate_dst (N := 17) rfl ?_); refine wpList_load_mid rfl 53 (.tmp 3) rfl _ 0 rfl _ _ r10 Try.underlying53 rfl (key17 _ HK.out.1) ?_) | ((with_reducible refine gate_dst (N := 18) rfl ?_); refine eql_ev rfl .eql 53 53 (.tmp 16) (.tmp 17) rfl _ _ rfl rfl gd_key _ (hq _) ?_))
        rw [hwi]
        exact ⟨⟨i + 1, rfl, by rw [hs2.out]; rfl, hlt2.out, HR2.out.below W9, blk_below HK2.out W9, bstep HB.out W9⟩, meas _ _ hlt2.out⟩
    · have hlt1 : ¬ (i : Int) < (xs.length : Int) := by omega
      have hres : Hid (cnt k (xs.take i) = cnt k xs) := Lib.hid (by rw [List.take_of_length_le (by omega)])
      clear hlt hi hcn hk hR
      go_wp2
      go_ret
      exact ⟨by rw [hres.out]; rfl, bb⟩
end Go.Proofs.Ytimalojaiaofkaa.His
namespace Go.Proofs.Ytimalojaiaofkaa.His
open Go.RowKit Base Sp Flat Go.Proofs.YtimalojaiaofkaaW.PrintWords Go.Shelf Smp
/-- A load of many cells, as one operation. -/
theorem load_yields {P : Program} {op : Oper} {a : Act} {w : World} {ty : TypeId} {x : Operand} (ho : op.op = .load ty x) {b o : Nat} (hx : a.eval x = .pointer (some ⟨b, o, none⟩)) {cs : List Value} {d : TypeDesc} (hc : w.rangeAt b o cs)
    (hu : P.underlying ty = some d) (hd : d.isRow = true) (hi : (P.info? ty).map (·.size) = some cs.length) : (execOp a.eval op).run P w = .ok (.value (.agg cs.toArray)) w := by
  unfold execOp
  simp only [ho, hx, Instr.loadAt, Instr.sureAddr, Sem.run_bind, Sem.run_pure, Result.andThen_ok, run_loadVar_mid w b o ty cs d hc hu hd hi]
theorem HS.store {w w' : World} {F : Nat → Prop} {b : Nat} {d s : Int} {xs ys : List Smp} (h : HS w F b d s xs) {v : Value} (hR : Row w' F v ys) (hM : Mod F w w') :
    HS (w'.setCell ⟨b, 2, none⟩ v) F b d s ys ∧ Mod (HM F b) w (w'.setCell ⟨b, 2, none⟩ v) := by
  obtain ⟨u, h1, h2⟩ := h.at_
  have h3 := (hM.block b (blk_lt h1) h.off).trans h1
  refine ⟨⟨⟨v, blk_put h3 2 v rfl, hR.set (a := ⟨b, 2, none⟩) h.off v⟩, h.off, fun k hk => Nat.lt_of_lt_of_le (h.old k hk) (by have := hM.size; simpa [World.setCell] using this), h.d0, h.s0, h.dm, h.sm⟩, ?_⟩
  exact (hM.mono (G := HM F b) (fun k hk => .inl (.inr hk))).set (p := ⟨b, 2, none⟩) (.inl (.inl rfl)) v
set_option maxRecDepth 20000 in
theorem drop_ {w : World} {F : Nat → Prop} {b : Nat} {d s : Int} {xs : List Smp} (h : HS w F b d s xs) {f : Nat} {lb : Array Value} {p : Smp → Bool} {C : Nat → Prop} (hP : Pr f lb p C w) (hC : ∀ k, C k → ¬ F k) :
    Calls Try.prog 74 #[.pointer (some ⟨b, 0, none⟩), .func (.func f) #[] lb] w fun e w' => e = .returned (.tuple #[]) ∧ HS w' F b d s (xs.filter fun x => !p x) ∧ Mod (HM F b) w w' := by
  obtain ⟨v, h1, h2⟩ := h.at_
  have c2 : w.cell? ⟨b, 2, none⟩ = some v := blk_cell h1 2
  have C1 := deleteFunc hP h2 hC h.old
  have HH := Lib.hid h
  have H1 := Lib.hid h1
  clear h h1 h2 hP hC
  go_enter Try.func74, Try.ntmps74
  go_wp2_with fail
  refine C1.mono ?_
  rintro e w1 ⟨v1, rfl, hr, hm⟩
  have hS := HH.out.store hr hm
  have k1 := (hm.block b (blk_lt H1.out) HH.out.off).trans H1.out
  have z2 := blk_frozen k1 2
  have y2 : w1.cell? ⟨b, 2, none⟩ = some v := blk_cell k1 2
  obtain ⟨A, c, rfl, _, _⟩ := hr.slice
  clear C1 hr hm k1
  go_wp2
  go_end0
  exact ⟨rfl, hS.1, hS.2⟩
/-- Without the first for which p holds. -/
def dropf (p : Smp → Bool) (xs : List Smp) : List Smp := if fi p xs 0 = -1 then xs else xs.take (fi p xs 0).toNat ++ xs.drop ((fi p xs 0).toNat + 1)
set_option maxRecDepth 20000 in
theorem first {w : World} {F : Nat → Prop} {b : Nat} {d s : Int} {xs : List Smp} (h : HS w F b d s xs) {f : Nat} {lb : Array Value} {p : Smp → Bool} {C : Nat → Prop} (hP : Pr f lb p C w) :
    Calls Try.prog 75 #[.pointer (some ⟨b, 0, none⟩), .func (.func f) #[] lb] w fun e w' => e = .returned (.tuple #[]) ∧ HS w' F b d s (dropf p xs) ∧ Mod (HM F b) w w' := by
  obtain ⟨v, h1, h2⟩ := h.at_
  have c2 : w.cell? ⟨b, 2, none⟩ = some v := blk_cell h1 2
  have C1 := indexFunc hP h2
  have hsm := h2.small
  have hmm : maxLen = 9223372036854775807 := rfl
  unfold dropf
  by_cases hn : fi p xs 0 = -1
  · rw [if_pos hn]
    rw [hn] at C1
    have HH := Lib.hid h
    obtain ⟨A, c, rfl, _, _⟩ := h2.slice
    clear h h1 h2 hP hn hsm hmm
    go_enter Try.func75, Try.ntmps75
    go_wp2_with fail
    refine C1.mono ?_
    rintro e w1 ⟨rfl, b1⟩
    go_wp2
    go_end0
    exact ⟨rfl, HH.out.below b1, Mod.of b1⟩
  · obtain ⟨k, hk, e1, e2, e3⟩ := fi_some p xs 0 hn
    rw [Nat.zero_add] at e1
    rw [if_neg hn, e1, Int.toNat_natCast]
    rw [e1] at C1
    have HH := Lib.hid h
    have H1 := Lib.hid h1
    have H2 := Lib.hid h2
    have hw : wrap64 ((k : Int) + 1) = ((k + 1 : Nat) : Int) := by unfold wrap64; omega
    obtain ⟨k1, hk1⟩ : ∃ k1 : Nat, k1 = k + 1 := ⟨_, rfl⟩
    rw [← hk1] at hw ⊢
    have hkk : Hid (k < k1 ∧ k1 ≤ xs.length) := Lib.hid ⟨by omega, by omega⟩
    obtain ⟨A, c, rfl, _, _⟩ := h2.slice
    have h0 : (0 : Int) ≤ (k : Int) := by omega
    have C2 := fun (w1 : World) (b1 : Below w.heap.size w w1) => delete_ (H2.out.below b1) hkk.out.1 hkk.out.2
    generalize xs.take k ++ xs.drop k1 = ys at C2 ⊢
    clear h h1 h2 hP hn e1 e2 e3 hsm hmm hk hk1
    go_enter Try.func75, Try.ntmps75
    go_wp2_with fail
    refine C1.mono ?_
    rintro e w1 ⟨rfl, b1⟩
    have c3 := cbel b1 c2 (blk_lt H1.out)
    have C3 := C2 w1 b1
    go_wp2_with fail
    refine C3.mono ?_
    rintro e w2 ⟨v2, rfl, hr, hm⟩
    have hm2 : Mod F w w2 := (Mod.of (F := F) b1).trans hm (fun _ h => .inl h)
    have hS := HH.out.store hr hm2
    have k1 := (hm2.block b (blk_lt H1.out) HH.out.off).trans H1.out
    have z2 := blk_frozen k1 2
    have y2 : w2.cell? ⟨b, 2, none⟩ = some (.slice A xs.length c) := blk_cell k1 2
    obtain ⟨A2, c2', rfl, _, _⟩ := hr.slice
    clear C1 C2 C3 hr hm hm2 k1 c2 c3
    go_wp2
    go_end0
    exact ⟨rfl, hS.1, hS.2⟩
/-- Put: what is kept then. -/
def hput (d s : Int) (xs : List Smp) (x : Smp) : List Smp :=
  if x.op ≠ 1 then xs.filter fun y => !itk x.key y
  else if 0 < d ∧ d ≤ (cnt x.key xs : Int) then dropf (itk x.key) xs ++ [x]
  else if d = 0 ∧ s = 0 then xs
  else if d = 0 ∧ s ≤ (xs.length : Int) then dropf (fun _ => true) xs ++ [x]
  else xs ++ [x]
theorem dropf_le (p : Smp → Bool) (xs : List Smp) : (dropf p xs).length ≤ xs.length := by
  unfold dropf
  split
  · exact Nat.le_refl _
  · rw [List.length_append, List.length_take, List.length_drop]
    rename_i h
    obtain ⟨k, hk, e1, _⟩ := fi_some p xs 0 h
    rw [Nat.zero_add] at e1
    rw [e1, Int.toNat_natCast]
    omega
set_option maxRecDepth 20000 in
theorem put_nil (x : Smp) (w : World) : Calls Try.prog 41 #[.pointer none, .agg (cells x).toArray] w fun e w' => e = .returned (.tuple #[]) ∧ Below w.heap.size w w' := by
  have b1 : Below w.heap.size w (w.alloc (.cells (cells x).toArray 60)) := (Below.refl _ _).alloc (Nat.le_refl _) _
  go_enter Try.func41, Try.ntmps41
  go_wp2
  refine bodyPost_ret (results_none rfl _ _ _) rfl ?_
  exact ⟨rfl, b1⟩
set_option maxRecDepth 20000 in
theorem put_drop {w : World} {F : Nat → Prop} {b : Nat} {d s : Int} {xs : List Smp} (h : HS w F b d s xs) (x : Smp) (ho : x.op ≠ 1) :
    Calls Try.prog 41 #[.pointer (some ⟨b, 0, none⟩), .agg (cells x).toArray] w fun e w' => e = .returned (.tuple #[]) ∧ HS w' F b d s (xs.filter fun y => !itk x.key y) ∧ Mod (HM F b) w w' := by
  obtain ⟨v0, h1, h2⟩ := h.at_
  have hmf : ∀ (fn : Fn) (first cap : Array Value) (w : World), (Instr.makeFunc fn first cap).run Try.prog w = .ok (.func fn first cap) w := fun _ _ _ _ => rfl
  have b1 : Below w.heap.size w (w.alloc (.cells (cells x).toArray 60)) := (Below.refl _ _).alloc (Nat.le_refl _) _
  have n1 := heap_alloc_new w (.cells (cells x).toArray 60)
  have o0 : (w.alloc (.cells (cells x).toArray 60)).cell? ⟨w.heap.size, 0, none⟩ = some (.int .i64 x.op) := blk_cell n1 0
  have HB := h.below b1
  have p1 := its_pr w.heap.size x _ n1
  have hdis : ∀ k, k = w.heap.size → ¬ F k := fun k hk hf => by have := h.old k hf; omega
  have C := drop_ HB p1 hdis
  have ho2 : (x.op != 1) = true := bne_iff_ne.2 ho
  have hM := Lib.hid (Mod.of (F := HM F b) b1)
  generalize x.op = q at *
  clear h h1 h2 ho HB p1 hdis n1 b1
  go_enter Try.func41, Try.ntmps41
  go_wp2_with fail
  refine C.mono ?_
  rintro e w2 ⟨rfl, h2, m2⟩
  go_wp2
  refine bodyPost_ret (results_none rfl _ _ _) rfl ?_
  exact ⟨rfl, h2, hM.out.trans m2 (fun _ h => .inl h)⟩
end Go.Proofs.Ytimalojaiaofkaa.His
