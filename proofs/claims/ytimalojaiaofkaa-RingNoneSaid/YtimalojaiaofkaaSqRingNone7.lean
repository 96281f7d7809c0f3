import Derived.Test.YtimalojaiaofkaaSqRingNone6
set_option linter.unusedVariables false
set_option linter.unusedSimpArgs false
namespace Go.Proofs.Ytimalojaiaofkaa.His
open Go.RowKit Base Sp Flat Go.Proofs.YtimalojaiaofkaaW.PrintWords Go.Shelf Smp
set_option maxRecDepth 20000 in
theorem put_0 {w : World} {F : Nat → Prop} {v : Value} {xs : List Smp} (h : Row w F v xs) (d s : Int) (x : Smp) (hd : d ≤ 0) (hs : s ≤ 0) (ho : x.op = 1) :
    Calls Try.prog 33 #[v, .int .i64 d, .int .i64 s, .agg (cells x).toArray] w fun e w' => ∃ v', e = .returned v' ∧ Row w' (fun k => F k ∨ New w.heap.size w' k) v' xs ∧ Below w.heap.size w w' := by
  have bb0 : Below w.heap.size w (w.alloc (.cells (cells x).toArray 60)) := (Below.refl _ _).alloc (Nat.le_refl _) _
  have o0 : (w.alloc (.cells (cells x).toArray 60)).cell? ⟨w.heap.size, 0, none⟩ = some (.int .i64 x.op) := blk_cell (heap_alloc_new _ _) 0
  rw [ho] at o0
  have hd1 : ¬ 0 < d := by omega
  have HX := Lib.hid (And.intro (h.below bb0) bb0)
  obtain ⟨A, c, rfl, _, hA⟩ := h.slice
  clear h ho hA bb0
  go_enter Try.func33, Try.ntmps33
  go_wp2
  go_ret
  exact ⟨_, rfl, HX.out.1.mono (fun k hk => .inl hk), HX.out.2⟩
theorem rput {w : World} {F : Nat → Prop} {v : Value} {xs : List Smp} (h : Row w F v xs) (d s : Int) (x : Smp) (hlen : (xs.length + 1) * 80 ≤ 140737488355328) :
    Calls Try.prog 33 #[v, .int .i64 d, .int .i64 s, .agg (cells x).toArray] w fun e w' => ∃ v', e = .returned v' ∧ Row w' (fun k => F k ∨ New w.heap.size w' k) v' (hput (mx0 d) (mx0 s) xs x) ∧ Below w.heap.size w w' := by
  by_cases hne : d ≤ 0 ∧ s ≤ 0 ∧ x.op = 1
  · have e : hput (mx0 d) (mx0 s) xs x = xs := by
      have e1 : mx0 d = 0 := by have := hne.1; unfold mx0; split <;> omega
      have e2 : mx0 s = 0 := by have := hne.2.1; unfold mx0; split <;> omega
      unfold hput
      rw [if_neg (fun hh => hh hne.2.2), e1, e2, if_neg (fun hh => absurd hh.1 (by decide)), if_pos ⟨rfl, rfl⟩]
    rw [e]
    exact put_0 h d s x hne.1 hne.2.1 hne.2.2
  · by_cases ho : x.op = 1
    · by_cases hd : d ≤ 0
      · by_cases hl : s ≤ (xs.length : Int)
        · exact put_w h d s x hlen hne hd ho hl
        · exact put_x h d s x hlen hne hd ho hl
      · by_cases hc : d ≤ (cnt x.key xs : Int)
        · exact put_z1 h d s x hlen hne (by omega) ho hc
        · exact put_z2 h d s x hlen hne (by omega) ho hc
    · by_cases hd : d ≤ 0
      · by_cases hs : s ≤ 0
        · exact put_y1 h d s x hlen hne hd ho hs
        · by_cases hl : s ≤ (xs.length : Int)
          · exact put_y2 h d s x hlen hne hd ho hs hl
          · exact put_y3 h d s x hlen hne hd ho hs hl
      · by_cases hc : d ≤ (cnt x.key xs : Int)
        · exact put_z3 h d s x hlen hne (by omega) ho hc
        · exact put_z4 h d s x hlen hne (by omega) ho hc
end Go.Proofs.Ytimalojaiaofkaa.His
namespace Go.Proofs.Ytimalojaiaofkaa.Rng
open Go.RowKit Base Sp Flat Go.Proofs.YtimalojaiaofkaaW.PrintWords Go.Shelf Smp His
section
variable {P : Program} {ops : Array Oper} {rest : List Oper} {op : Oper} {a : Act} {W : World} {Q : Exit → Act → World → Prop}
/-- A guarded comparison of two aggregates whose result is known. -/
theorem eql_guarded (hw : Region.wanted op (yielded ops a.tmps) = true) (b : BinOp) (t t2 : TypeId) (x y : Operand) (ho : op.op = .binOp b t x y t2) (xs ys : Array Value) (hx : a.eval x = .agg xs) (hy : a.eval y = .agg ys) (hm : P.eqGuardType P.depth t = false) (r : Value)
    (hr : (binOp b t (.agg xs) (.agg ys)).run P W = .ok r W) (h : wpList P ops Q rest (a.put op.dst r) W) : wpList P ops Q (op :: rest) a W := by
  refine wpList_step fun K hK => ?_
  rw [if_pos hw]
  unfold Oper.wp execOp
  simp only [ho, hx, hy, Sem.run_bind, run_eqGuard_agg W b t x y xs ys hm, Result.andThen_ok, hr, Sem.run_pure]
  exact hK _ _ h
end
/-- Of a sample's instance, as the queue sees it. -/
def itr (s x : Smp) : Bool := decide (x.op = s.op) && (decide (x.writer = s.writer) && decide (x.key = s.key))
set_option maxRecDepth 20000 in
set_option maxHeartbeats 1000000 in
theorem its_call (g : Nat) (s x : Smp) (W : World) (h : W.heap[g]? = some (.cells (cells s).toArray 60 (0, 0))) :
    Calls Try.prog 98 (#[.agg (cells x).toArray] ++ #[.pointer (some ⟨g, 0, none⟩)]) W fun e w' => e = .returned (.bool (itr s x)) ∧ Below W.heap.size W w' := by
  have b1 : Below W.heap.size W (W.alloc (.cells (cells x).toArray 60)) := (Below.refl _ _).alloc (Nat.le_refl _) _
  have n1 := heap_alloc_new W (.cells (cells x).toArray 60)
  have n2 := blk_alloc h (.cells (cells x).toArray 60)
  have c0 : (W.alloc (.cells (cells x).toArray 60)).cell? ⟨W.heap.size, 0, none⟩ = some (.int .i64 x.op) := blk_cell n1 0
  have c1 : (W.alloc (.cells (cells x).toArray 60)).cell? ⟨W.heap.size, 1, none⟩ = some (.int .i64 x.writer) := blk_cell n1 1
  have d0 : (W.alloc (.cells (cells x).toArray 60)).cell? ⟨g, 0, none⟩ = some (.int .i64 s.op) := blk_cell n2 0
  have d1 : (W.alloc (.cells (cells x).toArray 60)).cell? ⟨g, 1, none⟩ = some (.int .i64 s.writer) := blk_cell n2 1
  have r1 := box_key n1
  have r2 := box_key n2
  have hq := fun w => keys_eql x.key s.key (smp_key x) (smp_key s) w
  unfold itr
  generalize x.op = xo at *
  generalize s.op = so at *
  generalize x.writer = xw at *
  generalize s.writer = sw at *
  clear n1 n2 h
  by_cases ho : xo = so
  · have ho1 : (xo == so) = true := beq_iff_eq.2 ho
    rw [decide_eq_true ho, Bool.true_and]
    by_cases hw : xw = sw
    · have hw1 : (xw == sw) = true := beq_iff_eq.2 hw
      rw [decide_eq_true hw, Bool.true_and]
      clear ho hw
      go_enter Try.func98, Try.ntmps98
      go_wp2_with (first | ((with_reducible refine gate_dst (N := 18) rfl ?_); refine load_guarded (by kernel_rfl) 53 (.tmp 17) rfl _ 5 rfl _ _ r1 Try.underlying53 rfl (key17 _ (key_len x)) ?_) | ((with_reducible refine gate_dst (N := 20) rfl ?_); refine load_guarded (by kernel_rfl) 53 (.tmp 19) rfl _ 5 rfl _ _ r2 Try.underlying53 rfl (key17 _ (key_len s)) ?_) | ((with_reducible refine gate_dst (N := 21) rfl ?_); refine eql_guarded (by kernel_rfl) .eql 53 53 (.tmp 18) (.tmp 20) rfl _ _ rfl rfl gd_key _ (hq _) ?_))
      go_ret
      exact ⟨rfl, b1⟩
    · have hw1 : (xw == sw) = false := beq_eq_false_iff_ne.2 hw
      rw [decide_eq_false hw, Bool.false_and]
      clear ho hw
      go_enter Try.func98, Try.ntmps98
      go_wp2
      go_ret
      exact ⟨rfl, b1⟩
  · have ho1 : (xo == so) = false := beq_eq_false_iff_ne.2 ho
    rw [decide_eq_false ho, Bool.false_and]
    clear ho
    go_enter Try.func98, Try.ntmps98
    go_wp2
    go_ret
    exact ⟨rfl, b1⟩
theorem its_pr (g : Nat) (s : Smp) (w : World) (h : w.heap[g]? = some (.cells (cells s).toArray 60 (0, 0))) : Pr 98 #[.pointer (some ⟨g, 0, none⟩)] (itr s) (fun k => k = g) w :=
  ⟨enters_of Try.func98 (by kernel_rfl) rfl, fun k hk => hk ▸ blk_lt h, fun W x hs => its_call g s x W ((hs g rfl).trans h)⟩
/-- It lived long enough. -/
def oldr (n f : Int) (x : Smp) : Bool := decide (x.op = 1) && Clock.over n x.frame f
set_option maxRecDepth 20000 in
theorem old_call (g1 g2 : Nat) (n f : Int) (x : Smp) (W : World) (h1 : W.heap[g1]? = some (.cells #[.int .u64 n] 58 (0, 0))) (h2 : W.heap[g2]? = some (.cells #[.int .i64 f] 3 (0, 0))) (hn : n < 18446744073709551616) (f0 : -9223372036854775808 ≤ f) (f1 : f < 9223372036854775808) :
    Calls Try.prog 81 (#[.agg (cells x).toArray] ++ #[.pointer (some ⟨g1, 0, none⟩), .pointer (some ⟨g2, 0, none⟩)]) W fun e w' => e = .returned (.bool (oldr n f x)) ∧ Below W.heap.size W w' := by
  have b1 : Below W.heap.size W (W.alloc (.cells (cells x).toArray 60)) := (Below.refl _ _).alloc (Nat.le_refl _) _
  have n1 := heap_alloc_new W (.cells (cells x).toArray 60)
  have c00 : (W.alloc (.cells (cells x).toArray 60)).cell? ⟨W.heap.size, 0, none⟩ = some (.int .i64 x.op) := blk_cell n1 0
  have c0 : (W.alloc (.cells (cells x).toArray 60)).cell? ⟨W.heap.size, 2, none⟩ = some (.int .u64 x.frame) := blk_cell n1 2
  have c1 : (W.alloc (.cells (cells x).toArray 60)).cell? ⟨g1, 0, none⟩ = some (.int .u64 n) := blk_cell (blk_alloc h1 _) 0
  have c2 : (W.alloc (.cells (cells x).toArray 60)).cell? ⟨g2, 0, none⟩ = some (.int .i64 f) := blk_cell (blk_alloc h2 _) 0
  have hx := wf_u64 x.good.2.2.1
  have C := fun w => Clock.over_u n x.frame f w hn hx.1 f0 f1
  unfold oldr
  clear h1 h2 n1 hx f0 f1
  generalize x.frame = q at *
  generalize x.op = o at *
  by_cases ho : o = 1
  · have ho1 : (o == 1) = true := beq_iff_eq.2 ho
    rw [decide_eq_true ho, Bool.true_and]
    clear ho
    go_enter Try.func81, Try.ntmps81
    go_wp2_with fail
    refine (C _).mono ?_
    rintro e w' ⟨rfl, rfl⟩
    go_wp2
    go_ret
    exact ⟨rfl, b1⟩
  · have ho1 : (o == 1) = false := beq_eq_false_iff_ne.2 ho
    rw [decide_eq_false ho, Bool.false_and]
    clear ho
    go_enter Try.func81, Try.ntmps81
    go_wp2
    go_ret
    exact ⟨rfl, b1⟩
theorem old_pr (g1 g2 : Nat) (n f : Int) (w : World) (h1 : w.heap[g1]? = some (.cells #[.int .u64 n] 58 (0, 0))) (h2 : w.heap[g2]? = some (.cells #[.int .i64 f] 3 (0, 0))) (hn : n < 18446744073709551616) (f0 : -9223372036854775808 ≤ f) (f1 : f < 9223372036854775808) :
    Pr 81 #[.pointer (some ⟨g1, 0, none⟩), .pointer (some ⟨g2, 0, none⟩)] (oldr n f) (fun k => k = g1 ∨ k = g2) w :=
  ⟨enters_of Try.func81 (by kernel_rfl) rfl, fun k hk => hk.elim (fun h => h ▸ blk_lt h1) (fun h => h ▸ blk_lt h2), fun W x hs => old_call g1 g2 n f x W ((hs g1 (.inl rfl)).trans h1) ((hs g2 (.inr rfl)).trans h2) hn f0 f1⟩
end Go.Proofs.Ytimalojaiaofkaa.Rng
namespace Go.Proofs.Ytimalojaiaofkaa.Rng
open Go.RowKit Base Sp Flat Go.Proofs.YtimalojaiaofkaaW.PrintWords Go.Shelf Smp His
set_option maxHeartbeats 2000000 in
set_option maxRecDepth 20000 in
theorem parted {f : Nat} {lb : Array Value} {p : Smp → Bool} {C F : Nat → Prop} {w : World} {v : Value} {xs : List Smp} (hP : Pr f lb p C w) (h : Row w F v xs) (hl : xs.length * 80 ≤ 140737488355328) :
    Calls Try.prog 80 #[v, .func (.func f) #[] lb] w fun e w' => ∃ v1 v2, e = .returned (.tuple #[v1, v2]) ∧ Row w' (New w.heap.size w') v1 (xs.filter p) ∧ Row w' (New w.heap.size w') v2 (xs.filter fun x => !p x) ∧ Below w.heap.size w w' := by
  have b0 := Below.refl w.heap.size w
  have HR := Lib.hid h
  have HP := Lib.hid hP
  have HL := Lib.hid hl
  have eg := hP.enters
  obtain ⟨A, c, rfl, _, hA⟩ := h.slice
  clear h hP hl hA
  go_enter Try.func80, Try.ntmps80
  go_wp2
  go_loopw [6, 7, 9, 12] (fun v6 v7 _ v12 wr => ∃ (k : Nat) (ys ns : List Smp) (F1 F2 : Nat → Prop), v12 = .int .i64 (k : Int) ∧ k ≤ xs.length ∧ Hid (ys = (xs.take k).filter p) ∧ Hid (ns = (xs.take k).filter fun x => !p x) ∧ Row wr F1 v6 ys ∧ Row wr F2 v7 ns ∧ Hid (∀ q, F1 q → New w.heap.size wr q ∧ ¬ F2 q) ∧ Hid (∀ q, F2 q → New w.heap.size wr q) ∧ Below w.heap.size w wr) (fun _ _ _ v12 _ => xs.length - (intOf v12).toNat)
  case atStart => exact ⟨0, [], [], fun _ => False, fun _ => False, rfl, Nat.zero_le _, Lib.hid rfl, Lib.hid rfl, Row.nil _ _, Row.nil _ _, Lib.hid (fun q h => h.elim), Lib.hid (fun q h => h.elim), b0⟩
  case round =>
    clear b0
    obtain ⟨k, ys, ns, F1, F2, rfl, hk, hys, hns, r6, r7, hF1, hF2, bb⟩ := hrel
    obtain ⟨A6, c6, rfl, _, hA6⟩ := r6.slice
    obtain ⟨A7, c7, rfl, _, hA7⟩ := r7.slice
    clear hA6 hA7
    by_cases hlt : k < xs.length
    · have hlt1 : (k : Int) < (xs.length : Int) := by omega
      have h0 : (0 : Int) ≤ (k : Int) := by omega
      obtain ⟨g, rfl⟩ := His.Row.addr HR.out hlt
      have hrng := (HR.out.below bb).range hlt
      have hwk : wrap64 ((k : Int) + 1) = ((k + 1 : Nat) : Int) := by have := HL.out; unfold wrap64; omega
      have hlt2 := Lib.hid hlt
      have hyb : Hid (ys.length + 1 ≤ xs.length) := Lib.hid (by
        have := List.length_filter_le p (xs.take k)
        rw [← hys.out, List.length_take] at this
        omega)
      have hnb : Hid (ns.length + 1 ≤ xs.length) := Lib.hid (by
        have := List.length_filter_le (fun x => !p x) (xs.take k)
        rw [← hns.out, List.length_take] at this
        omega)
      have hy1 : (xs.take (k + 1)).filter p = ys ++ [xs[k]].filter p := by rw [List.take_succ_eq_append_getElem hlt, List.filter_append, ← hys.out]; rfl
      have hn1 : (xs.take (k + 1)).filter (fun x => !p x) = ns ++ [xs[k]].filter fun x => !p x := by rw [List.take_succ_eq_append_getElem hlt, List.filter_append, ← hns.out]; rfl
      generalize xs[k] = x at hrng hy1 hn1
      have R6 := Lib.hid r6
      have R7 := Lib.hid r7
      have BB := Lib.hid bb
      have hbs := Lib.hid bb.size
      clear hlt hk hys hns r6 r7 bb
      have alive : ∀ w8 w9 : World, Below wr.heap.size wr w8 → (hb : w8.heap[wr.heap.size]? = some (.cells (cells zsmp).toArray 60 (0, 0))) → w9 = w8.setCells wr.heap.size 0 (cells x) → Below wr.heap.size wr w9 ∧ w9.heap[wr.heap.size]? = some (.cells (cells x).toArray 60 (0, 0)) := fun w8 w9 hb hbox e => by
        subst e
        exact ⟨(setCells_mod w8 wr.heap.size 0 (cells x)).below hb hb.size (fun k hk => Nat.le_of_eq (show k = wr.heap.size from hk).symm), box_set (x := x) hbox⟩
      have AL := Lib.hid alive
      clear alive
      cases hp : p x with
      | true =>
        go_wp2_with (first | ((with_reducible refine gate_dst (N := 15) rfl ?_); refine wpList_load_mid rfl 60 (.tmp 14) rfl g (k * 23) rfl (cells x) _ hrng Try.underlying60 rfl (size23 x) ?_) | ((with_reducible refine gate_dst (N := 9) rfl ?_); refine box_event rfl (N := 9) rfl (cs := (cells zsmp).toArray) (t := 60) ?hr ?_; (case hr => go_simp; rfl); intro gb hgb w8 hbox hb; subst hgb; clear hrng) | ((with_reducible refine gate_store (p := 9) (v := .tmp 15) rfl ?_); refine store_ev rfl 60 (.tmp 9) (.tmp 15) rfl wr.heap.size 0 (cells x) rfl rfl (there_of hbox (by rw [cells_len, cells_len]; omega)) (size23 x) (cells_one x) ?_; intro w9 hw9; obtain ⟨B9, n9⟩ := AL.out w8 w9 hb hbox hw9; have r9 := box_range n9; clear hb hbox hw9) | ((with_reducible refine gate_dst (N := 17) rfl ?_); refine wpList_load_mid rfl 60 (.tmp 9) rfl wr.heap.size 0 rfl (cells x) _ r9 Try.underlying60 rfl (size23 x) ?_) | (go_at_fn f; have hcall := HP.out.calls w9 x (fun j hj => (BB.out.trans (B9.mono hbs.out)).block j (HP.out.old j hj)); rw [hp] at hcall; refine hcall.mono ?_; rintro e w10 ⟨rfl, hb'⟩; have n10 := box_range (blk_below n9 hb'); have B10 := bstep B9 hb'; have r6 := R6.out.below B10; have r7 := R7.out.below B10; obtain ⟨v19, w19, hrun, r19, g19, s19⟩ := r6.append (fun q hq => Nat.lt_of_lt_of_le (hF1.out q hq).1.2 B10.size) x (by have := hyb.out; have := HL.out; omega) 56; have hown := r6.own; clear hcall hb' n9 B9 r9) | ((with_reducible refine gate_dst (N := 20) rfl ?_); refine wpList_load_mid rfl 60 (.tmp 9) rfl wr.heap.size 0 rfl (cells x) _ n10 Try.underlying60 rfl (size23 x) ?_) | ((with_reducible refine gate_dst (N := 21) rfl ?_); refine build1L (x := x) rfl rfl rfl ?_) | (at_builtin; refine wp_append rfl (.tmp 19) (.tmp 21) 56 rfl rfl rfl hrun ?_))
        rw [hwk]
        have B19 : Below w.heap.size w w19 := (BB.out.trans (B10.mono hbs.out)).grown g19 (Nat.le_trans hbs.out B10.size) (fun q hq => (hF1.out q (hown q hq).1).1.1)
        refine ⟨⟨k + 1, ys ++ [x], ns, _, F2, rfl, hlt2.out, Lib.hid (by rw [hy1, List.filter_cons_of_pos (by rw [hp])]; rfl), Lib.hid (by rw [hn1, List.filter_cons_of_neg (by rw [hp]; decide)]; simp), r19, r7.same (fun q hq => g19.block q (Nat.lt_of_lt_of_le (hF2.out q hq).2 B10.size) (fun e => (hF1.out q (hown q e.symm).1).2 hq)), Lib.hid (fun q hq => hq.elim (fun hh => ⟨⟨(hF1.out q hh).1.1, Nat.lt_of_lt_of_le (hF1.out q hh).1.2 (Nat.le_trans B10.size (Nat.le_of_lt s19))⟩, (hF1.out q hh).2⟩) (fun hh => ⟨⟨Nat.le_trans hbs.out (Nat.le_trans B10.size hh.1), hh.2⟩, fun h2 => by have := (hF2.out q h2).2; have := B10.size; have := hh.1; omega⟩)), Lib.hid (fun q hq => ⟨(hF2.out q hq).1, Nat.lt_of_lt_of_le (hF2.out q hq).2 (Nat.le_trans B10.size (Nat.le_of_lt s19))⟩), B19⟩, meas _ _ hlt2.out⟩
      | false =>
        go_wp2_with (first | ((with_reducible refine gate_dst (N := 15) rfl ?_); refine wpList_load_mid rfl 60 (.tmp 14) rfl g (k * 23) rfl (cells x) _ hrng Try.underlying60 rfl (size23 x) ?_) | ((with_reducible refine gate_dst (N := 9) rfl ?_); refine box_event rfl (N := 9) rfl (cs := (cells zsmp).toArray) (t := 60) ?hr ?_; (case hr => go_simp; rfl); intro gb hgb w8 hbox hb; subst hgb; clear hrng) | ((with_reducible refine gate_store (p := 9) (v := .tmp 15) rfl ?_); refine store_ev rfl 60 (.tmp 9) (.tmp 15) rfl wr.heap.size 0 (cells x) rfl rfl (there_of hbox (by rw [cells_len, cells_len]; omega)) (size23 x) (cells_one x) ?_; intro w9 hw9; obtain ⟨B9, n9⟩ := AL.out w8 w9 hb hbox hw9; have r9 := box_range n9; clear hb hbox hw9) | ((with_reducible refine gate_dst (N := 17) rfl ?_); refine wpList_load_mid rfl 60 (.tmp 9) rfl wr.heap.size 0 rfl (cells x) _ r9 Try.underlying60 rfl (size23 x) ?_) | (go_at_fn f; have hcall := HP.out.calls w9 x (fun j hj => (BB.out.trans (B9.mono hbs.out)).block j (HP.out.old j hj)); rw [hp] at hcall; refine hcall.mono ?_; rintro e w10 ⟨rfl, hb'⟩; have n10 := box_range (blk_below n9 hb'); have B10 := bstep B9 hb'; have r6 := R6.out.below B10; have r7 := R7.out.below B10; obtain ⟨v19, w19, hrun, r19, g19, s19⟩ := r7.append (fun q hq => Nat.lt_of_lt_of_le (hF2.out q hq).2 B10.size) x (by have := hnb.out; have := HL.out; omega) 56; have hown := r7.own; clear hcall hb' n9 B9 r9) | ((with_reducible refine gate_dst (N := 24) rfl ?_); refine wpList_load_mid rfl 60 (.tmp 9) rfl wr.heap.size 0 rfl (cells x) _ n10 Try.underlying60 rfl (size23 x) ?_) | ((with_reducible refine gate_dst (N := 25) rfl ?_); refine build1L (x := x) rfl rfl rfl ?_) | (at_builtin; refine wp_append rfl (.tmp 23) (.tmp 25) 56 rfl rfl rfl hrun ?_))
        rw [hwk]
        have B19 : Below w.heap.size w w19 := (BB.out.trans (B10.mono hbs.out)).grown g19 (Nat.le_trans hbs.out B10.size) (fun q hq => (hF2.out q (hown q hq).1).1)
        refine ⟨⟨k + 1, ys, ns ++ [x], F1, _, rfl, hlt2.out, Lib.hid (by rw [hy1, List.filter_cons_of_neg (by rw [hp]; decide)]; simp), Lib.hid (by rw [hn1, List.filter_cons_of_pos (by rw [hp]; rfl)]; rfl), r6.same (fun q hq => g19.block q (Nat.lt_of_lt_of_le (hF1.out q hq).1.2 B10.size) (fun e => (hF1.out q hq).2 (hown q e.symm).1)), r19, Lib.hid (fun q hq => ⟨⟨(hF1.out q hq).1.1, Nat.lt_of_lt_of_le (hF1.out q hq).1.2 (Nat.le_trans B10.size (Nat.le_of_lt s19))⟩, fun h2 => h2.elim (hF1.out q hq).2 (fun hh => by have := (hF1.out q hq).1.2; have := B10.size; have := hh.1; omega)⟩), Lib.hid (fun q hq => hq.elim (fun hh => ⟨(hF2.out q hh).1, Nat.lt_of_lt_of_le (hF2.out q hh).2 (Nat.le_trans B10.size (Nat.le_of_lt s19))⟩) (fun hh => ⟨Nat.le_trans hbs.out (Nat.le_trans B10.size hh.1), hh.2⟩)), B19⟩, meas _ _ hlt2.out⟩
    · have hlt1 : ¬ (k : Int) < (xs.length : Int) := by omega
      have HX : Hid (Row wr (New w.heap.size wr) (.slice A6 ys.length c6) (xs.filter p) ∧ Row wr (New w.heap.size wr) (.slice A7 ns.length c7) (xs.filter fun x => !p x)) := Lib.hid ⟨by
        have e : ys = xs.filter p := by rw [hys.out, List.take_of_length_le (by omega)]
        rw [← e]; exact r6.mono (fun q hq => (hF1.out q hq).1), by
        have e : ns = xs.filter fun x => !p x := by rw [hns.out, List.take_of_length_le (by omega)]
        rw [← e]; exact r7.mono hF2.out⟩
      clear hlt hk hys hns r6 r7
      go_wp2
      go_ret2
      exact ⟨_, _, rfl, HX.out.1, HX.out.2, bb⟩
end Go.Proofs.Ytimalojaiaofkaa.Rng
namespace Go.Proofs.Ytimalojaiaofkaa.Rng
open Go.RowKit Base Sp Flat Go.Proofs.YtimalojaiaofkaaW.PrintWords Go.Shelf Smp His
/-- A queue's numbers. -/
structure Qn where
  room : Int
  depth : Int
  newest : Bool
/-- A queue: where it lies, what waits; its row's block is F's. -/
structure QS (w : World) (F : Nat → Prop) (b : Nat) (n : Qn) (lost ev : Int) (xs : List Smp) : Prop where
  at_ : ∃ v, w.heap[b]? = some (.cells #[.int .i64 n.room, .int .i64 n.depth, .bool n.newest, v, .int .u64 lost, .int .u64 ev] 97 (0, 0)) ∧ Row w F v xs
  off : ¬ F b
  old : ∀ k, F k → k < w.heap.size
  r0 : 0 ≤ n.room
  d0 : 0 ≤ n.depth
  rm : n.room < 9223372036854775808
  dm : n.depth < 9223372036854775808
theorem QS.lt {w : World} {F : Nat → Prop} {b : Nat} {n : Qn} {lost ev : Int} {xs : List Smp} (h : QS w F b n lost ev xs) : b < w.heap.size := by
  obtain ⟨v, h1, _⟩ := h.at_
  exact blk_lt h1
theorem QS.below {w w' : World} {F : Nat → Prop} {b : Nat} {n : Qn} {lost ev : Int} {xs : List Smp} (h : QS w F b n lost ev xs) (hb : Below w.heap.size w w') : QS w' F b n lost ev xs := by
  obtain ⟨v, h1, h2⟩ := h.at_
  exact ⟨⟨v, blk_below h1 hb, h2.below hb⟩, h.off, fun k hk => Nat.lt_of_lt_of_le (h.old k hk) hb.size, h.r0, h.d0, h.rm, h.dm⟩
theorem QS.same {w w' : World} {F : Nat → Prop} {b : Nat} {n : Qn} {lost ev : Int} {xs : List Smp} (h : QS w F b n lost ev xs) {G : Nat → Prop} (hm : Mod G w w') (hd : ∀ k, G k → ¬ F k ∧ k ≠ b) : QS w' F b n lost ev xs := by
  obtain ⟨v, h1, h2⟩ := h.at_
  refine ⟨⟨v, (hm.block b (blk_lt h1) (fun hg => (hd b hg).2 rfl)).trans h1, h2.same (fun k hk => hm.block k (h.old k hk) (fun hg => (hd k hg).1 hk))⟩, h.off, fun k hk => Nat.lt_of_lt_of_le (h.old k hk) hm.size, h.r0, h.d0, h.rm, h.dm⟩
/-- The row is stored. -/
theorem QS.store {w w' : World} {F G : Nat → Prop} {b : Nat} {n : Qn} {lost ev : Int} {xs ys : List Smp} (h : QS w F b n lost ev xs) {v : Value} (hR : Row w' G v ys) (hG : ¬ G b) (hGs : ∀ k, G k → k < w'.heap.size) (hM : Mod F w w') :
    QS (w'.setCell ⟨b, 3, none⟩ v) G b n lost ev ys ∧ Mod (HM F b) w (w'.setCell ⟨b, 3, none⟩ v) := by
  obtain ⟨u, h1, h2⟩ := h.at_
  have h3 := (hM.block b (blk_lt h1) h.off).trans h1
  refine ⟨⟨⟨v, blk_put h3 3 v rfl, hR.set (a := ⟨b, 3, none⟩) hG v⟩, hG, fun k hk => by have := hGs k hk; simpa [World.setCell] using this, h.r0, h.d0, h.rm, h.dm⟩, ?_⟩
  exact (hM.mono (G := HM F b) (fun k hk => .inl (.inr hk))).set (p := ⟨b, 3, none⟩) (.inl (.inl rfl)) v
theorem QS.lost_ {w : World} {F : Nat → Prop} {b : Nat} {n : Qn} {lost ev : Int} {xs : List Smp} (h : QS w F b n lost ev xs) (k : Int) : QS (w.setCell ⟨b, 4, none⟩ (.int .u64 k)) F b n k ev xs ∧ Mod (HM F b) w (w.setCell ⟨b, 4, none⟩ (.int .u64 k)) := by
  obtain ⟨u, h1, h2⟩ := h.at_
  refine ⟨⟨⟨u, blk_put h1 4 _ rfl, h2.set (a := ⟨b, 4, none⟩) h.off _⟩, h.off, fun k hk => by have := h.old k hk; simpa [World.setCell] using this, h.r0, h.d0, h.rm, h.dm⟩, ?_⟩
  exact (Mod.refl (HM F b) w).set (p := ⟨b, 4, none⟩) (.inl (.inl rfl)) _
theorem QS.ev_ {w : World} {F : Nat → Prop} {b : Nat} {n : Qn} {lost ev : Int} {xs : List Smp} (h : QS w F b n lost ev xs) (k : Int) : QS (w.setCell ⟨b, 5, none⟩ (.int .u64 k)) F b n lost k xs ∧ Mod (HM F b) w (w.setCell ⟨b, 5, none⟩ (.int .u64 k)) := by
  obtain ⟨u, h1, h2⟩ := h.at_
  refine ⟨⟨⟨u, blk_put h1 5 _ rfl, h2.set (a := ⟨b, 5, none⟩) h.off _⟩, h.off, fun k hk => by have := h.old k hk; simpa [World.setCell] using this, h.r0, h.d0, h.rm, h.dm⟩, ?_⟩
  exact (Mod.refl (HM F b) w).set (p := ⟨b, 5, none⟩) (.inl (.inl rfl)) _
/-- How many of a sample's instance wait. -/
def cntr (s : Smp) (xs : List Smp) : Nat := xs.countP (itr s)
/-- Behind an eviction. -/
def evm (d : Int) (xs : List Smp) (ev : Int) (x : Smp) : List Smp × Int := if x.op = 1 ∧ 0 < d ∧ d ≤ (cntr x xs : Int) then (dropf (itr x) xs, ev + 1) else (xs, ev)
theorem evm_le (d : Int) (xs : List Smp) (ev : Int) (x : Smp) : (evm d xs ev x).1.length ≤ xs.length := by
  unfold evm
  split
  · exact dropf_le _ _
  · exact Nat.le_refl _
set_option maxRecDepth 20000 in
theorem new (r d k : Int) (w : World) (hr : r < 9223372036854775808) (hd : d < 9223372036854775808) :
    Calls Try.prog 44 #[.int .i64 r, .int .i64 d, .int .i64 k] w fun e w' => e = .returned (.pointer (some ⟨w.heap.size, 0, none⟩)) ∧ QS w' (fun _ => False) w.heap.size ⟨mx0 r, mx0 d, k != 0⟩ 0 0 [] ∧ Below w.heap.size w w' := by
  have HH : QS (w.alloc (.cells #[.int .i64 (mx0 r), .int .i64 (mx0 d), .bool (k != 0), .slice none 0 0, .int .u64 0, .int .u64 0] 97)) (fun _ => False) w.heap.size ⟨mx0 r, mx0 d, k != 0⟩ 0 0 [] :=
    ⟨⟨_, heap_alloc_new _ _, Row.nil _ _⟩, fun h => h, fun k h => h.elim, mx0_0 r, mx0_0 d, mx0_m hr, mx0_m hd⟩
  have b1 : Below w.heap.size w (w.alloc (.cells #[.int .i64 (mx0 r), .int .i64 (mx0 d), .bool (k != 0), .slice none 0 0, .int .u64 0, .int .u64 0] 97)) := (Below.refl _ _).alloc (Nat.le_refl _) _
  clear hr hd
  generalize hq : (k != 0) = q at *
  unfold mx0 at *
  by_cases h1 : r < 0
  · rw [if_pos h1] at *
    by_cases h2 : d < 0
    · rw [if_pos h2] at *
      go_enter Try.func44, Try.ntmps44
      go_wp2
      go_ret
      exact ⟨rfl, HH, b1⟩
    · rw [if_neg h2] at *
      go_enter Try.func44, Try.ntmps44
      go_wp2
      go_ret
      exact ⟨rfl, HH, b1⟩
  · rw [if_neg h1] at *
    by_cases h2 : d < 0
    · rw [if_pos h2] at *
      go_enter Try.func44, Try.ntmps44
      go_wp2
      go_ret
      exact ⟨rfl, HH, b1⟩
    · rw [if_neg h2] at *
      go_enter Try.func44, Try.ntmps44
      go_wp2
      go_ret
      exact ⟨rfl, HH, b1⟩
set_option maxRecDepth 20000 in
theorem len_nil (w : World) : Calls Try.prog 48 #[.pointer none] w fun e w' => e = .returned (.int .i64 0) ∧ w = w' := by
  go_enter Try.func48, Try.ntmps48
  go_wp2
  go_ret
  exact ⟨rfl, rfl⟩
set_option maxRecDepth 20000 in
theorem len {w : World} {F : Nat → Prop} {b : Nat} {n : Qn} {lost ev : Int} {xs : List Smp} (h : QS w F b n lost ev xs) :
    Calls Try.prog 48 #[.pointer (some ⟨b, 0, none⟩)] w fun e w' => e = .returned (.int .i64 (xs.length : Int)) ∧ w = w' := by
  obtain ⟨v, h1, h2⟩ := h.at_
  have c3 : w.cell? ⟨b, 3, none⟩ = some v := blk_cell h1 3
  have c4 : w.cell? ⟨b, 4, none⟩ = some (.int .u64 lost) := blk_cell h1 4
  have c5 : w.cell? ⟨b, 5, none⟩ = some (.int .u64 ev) := blk_cell h1 5
  obtain ⟨A, c, rfl, _, _⟩ := h2.slice
  clear h h1 h2
  go_enter Try.func48, Try.ntmps48
  go_wp2
  go_ret
  exact ⟨rfl, rfl⟩
set_option maxRecDepth 20000 in
theorem lost_nil (w : World) : Calls Try.prog 49 #[.pointer none] w fun e w' => e = .returned (.int .u64 0) ∧ w = w' := by
  go_enter Try.func49, Try.ntmps49
  go_wp2
  go_ret
  exact ⟨rfl, rfl⟩
set_option maxRecDepth 20000 in
theorem lost {w : World} {F : Nat → Prop} {b : Nat} {n : Qn} {lost ev : Int} {xs : List Smp} (h : QS w F b n lost ev xs) :
    Calls Try.prog 49 #[.pointer (some ⟨b, 0, none⟩)] w fun e w' => e = .returned (.int .u64 lost) ∧ w = w' := by
  obtain ⟨v, h1, h2⟩ := h.at_
  have c3 : w.cell? ⟨b, 3, none⟩ = some v := blk_cell h1 3
  have c4 : w.cell? ⟨b, 4, none⟩ = some (.int .u64 lost) := blk_cell h1 4
  have c5 : w.cell? ⟨b, 5, none⟩ = some (.int .u64 ev) := blk_cell h1 5
  obtain ⟨A, c, rfl, _, _⟩ := h2.slice
  clear h h1 h2
  go_enter Try.func49, Try.ntmps49
  go_wp2
  go_ret
  exact ⟨rfl, rfl⟩
set_option maxRecDepth 20000 in
theorem evicted_nil (w : World) : Calls Try.prog 50 #[.pointer none] w fun e w' => e = .returned (.int .u64 0) ∧ w = w' := by
  go_enter Try.func50, Try.ntmps50
  go_wp2
  go_ret
  exact ⟨rfl, rfl⟩
set_option maxRecDepth 20000 in
theorem evicted {w : World} {F : Nat → Prop} {b : Nat} {n : Qn} {lost ev : Int} {xs : List Smp} (h : QS w F b n lost ev xs) :
    Calls Try.prog 50 #[.pointer (some ⟨b, 0, none⟩)] w fun e w' => e = .returned (.int .u64 ev) ∧ w = w' := by
  obtain ⟨v, h1, h2⟩ := h.at_
  have c3 : w.cell? ⟨b, 3, none⟩ = some v := blk_cell h1 3
  have c4 : w.cell? ⟨b, 4, none⟩ = some (.int .u64 lost) := blk_cell h1 4
  have c5 : w.cell? ⟨b, 5, none⟩ = some (.int .u64 ev) := blk_cell h1 5
  obtain ⟨A, c, rfl, _, _⟩ := h2.slice
  clear h h1 h2
  go_enter Try.func50, Try.ntmps50
  go_wp2
  go_ret
  exact ⟨rfl, rfl⟩
end Go.Proofs.Ytimalojaiaofkaa.Rng
namespace Go.Proofs.Ytimalojaiaofkaa.Rng
open Go.RowKit Base Sp Flat Go.Proofs.YtimalojaiaofkaaW.PrintWords Go.Shelf Smp His
theorem wrapk {k k1 n : Nat} (h : k < n) (hl : n * 80 ≤ 140737488355328) (e : k1 = k + 1) : wrap64 ((k : Int) + 1) = (k1 : Int) := by
  unfold wrap64; omega
theorem filter_none {p : Smp → Bool} {xs : List Smp} (h : xs.filter (fun y => !p y) = xs) : (xs.filter p).length = 0 := by
  have : xs.filter p = [] := by
    rw [List.filter_eq_nil_iff]
    intro y hy hp
    rw [← h] at hy
    have := (List.mem_filter.1 hy).2
    rw [hp] at this
    cases this
  rw [this]
  rfl
set_option maxHeartbeats 1000000 in
set_option maxRecDepth 20000 in
theorem evict_a {w : World} {F : Nat → Prop} {b : Nat} {n : Qn} {lost ev : Int} {xs : List Smp} (h : QS w F b n lost ev xs) (x : Smp) (ho : x.op ≠ 1) :
    Calls Try.prog 78 #[.pointer (some ⟨b, 0, none⟩), .agg (cells x).toArray] w fun e w' => e = .returned (.tuple #[]) ∧ QS w' F b n lost ev xs ∧ Mod (HM F b) w w' := by
  obtain ⟨v0, h1, h2⟩ := h.at_
  have hmf : ∀ (fn : Fn) (first cap : Array Value) (w : World), (Instr.makeFunc fn first cap).run Try.prog w = .ok (.func fn first cap) w := fun _ _ _ _ => rfl
  have b1 : Below w.heap.size w (w.alloc (.cells (cells x).toArray 60)) := (Below.refl _ _).alloc (Nat.le_refl _) _
  have n1 := heap_alloc_new w (.cells (cells x).toArray 60)
  have o0 : (w.alloc (.cells (cells x).toArray 60)).cell? ⟨w.heap.size, 0, none⟩ = some (.int .i64 x.op) := blk_cell n1 0
  have HB := Lib.hid (h.below b1)
  have hd1 : (w.alloc (.cells (cells x).toArray 60)).cell? ⟨b, 1, none⟩ = some (.int .i64 n.depth) := blk_cell (blk_alloc h1 _) 1
  have hd3 : (w.alloc (.cells (cells x).toArray 60)).cell? ⟨b, 3, none⟩ = some v0 := blk_cell (blk_alloc h1 _) 3
  have M1 := Lib.hid (Mod.of (F := HM F b) b1)
  have ho2 : (x.op != 1) = true := bne_iff_ne.2 ho
  generalize x.op = q at *
  clear h h1 h2 ho b1 n1
  go_enter Try.func78, Try.ntmps78
  go_wp2
  refine bodyPost_ret (results_none rfl _ _ _) rfl ?_
  exact ⟨rfl, HB.out, M1.out⟩
set_option maxHeartbeats 1000000 in
set_option maxRecDepth 20000 in
theorem evict_b {w : World} {F : Nat → Prop} {b : Nat} {n : Qn} {lost ev : Int} {xs : List Smp} (h : QS w F b n lost ev xs) (x : Smp) (ho : x.op = 1) (hd : n.depth = 0) :
    Calls Try.prog 78 #[.pointer (some ⟨b, 0, none⟩), .agg (cells x).toArray] w fun e w' => e = .returned (.tuple #[]) ∧ QS w' F b n lost ev xs ∧ Mod (HM F b) w w' := by
  obtain ⟨v0, h1, h2⟩ := h.at_
  have hmf : ∀ (fn : Fn) (first cap : Array Value) (w : World), (Instr.makeFunc fn first cap).run Try.prog w = .ok (.func fn first cap) w := fun _ _ _ _ => rfl
  have b1 : Below w.heap.size w (w.alloc (.cells (cells x).toArray 60)) := (Below.refl _ _).alloc (Nat.le_refl _) _
  have n1 := heap_alloc_new w (.cells (cells x).toArray 60)
  have o0 : (w.alloc (.cells (cells x).toArray 60)).cell? ⟨w.heap.size, 0, none⟩ = some (.int .i64 x.op) := blk_cell n1 0
  have HB := Lib.hid (h.below b1)
  have hd1 : (w.alloc (.cells (cells x).toArray 60)).cell? ⟨b, 1, none⟩ = some (.int .i64 n.depth) := blk_cell (blk_alloc h1 _) 1
  have hd3 : (w.alloc (.cells (cells x).toArray 60)).cell? ⟨b, 3, none⟩ = some v0 := blk_cell (blk_alloc h1 _) 3
  have M1 := Lib.hid (Mod.of (F := HM F b) b1)
  rw [ho] at o0
  rw [hd] at hd1
  clear h h1 h2 ho hd b1 n1
  go_enter Try.func78, Try.ntmps78
  go_wp2
  refine bodyPost_ret (results_none rfl _ _ _) rfl ?_
  exact ⟨rfl, HB.out, M1.out⟩
set_option maxHeartbeats 1000000 in
set_option maxRecDepth 20000 in
theorem evict_c {w : World} {F : Nat → Prop} {b : Nat} {n : Qn} {lost ev : Int} {xs : List Smp} (h : QS w F b n lost ev xs) (x : Smp) (ho : x.op = 1) (hd : 0 < n.depth) (hl : xs.length * 80 ≤ 140737488355328) (hc : ¬ n.depth ≤ (cntr x xs : Int)) :
    Calls Try.prog 78 #[.pointer (some ⟨b, 0, none⟩), .agg (cells x).toArray] w fun e w' => e = .returned (.tuple #[]) ∧ QS w' F b n lost ev xs ∧ Mod (HM F b) w w' := by
  obtain ⟨v0, h1, h2⟩ := h.at_
  have hmf : ∀ (fn : Fn) (first cap : Array Value) (w : World), (Instr.makeFunc fn first cap).run Try.prog w = .ok (.func fn first cap) w := fun _ _ _ _ => rfl
  have b1 : Below w.heap.size w (w.alloc (.cells (cells x).toArray 60)) := (Below.refl _ _).alloc (Nat.le_refl _) _
  have n1 := heap_alloc_new w (.cells (cells x).toArray 60)
  have o0 : (w.alloc (.cells (cells x).toArray 60)).cell? ⟨w.heap.size, 0, none⟩ = some (.int .i64 x.op) := blk_cell n1 0
  have HB := Lib.hid (h.below b1)
  have hd1 : (w.alloc (.cells (cells x).toArray 60)).cell? ⟨b, 1, none⟩ = some (.int .i64 n.depth) := blk_cell (blk_alloc h1 _) 1
  have hd3 : (w.alloc (.cells (cells x).toArray 60)).cell? ⟨b, 3, none⟩ = some v0 := blk_cell (blk_alloc h1 _) 3
  have M1 := Lib.hid (Mod.of (F := HM F b) b1)
  have hd0 : (n.depth == 0) = false := beq_eq_false_iff_ne.2 (by omega)
  have hP := Lib.hid (its_pr w.heap.size x _ n1)
  have H2 := Lib.hid (h2.alloc (.cells (cells x).toArray 60))
  have H1 := Lib.hid (blk_alloc h1 (.cells (cells x).toArray 60))
  have N1 := Lib.hid n1
  have HN := Lib.hid (And.intro h.lt (And.intro h.off h.old))
  have hcl : (xs.filter (itr x)).length = cntr x xs := (List.countP_eq_length_filter ..).symm
  have C1 := parted hP.out H2.out hl
  rw [ho] at o0
  obtain ⟨A0, c0, rfl, _, _⟩ := h2.slice
  have hc1 : (cntr x xs : Int) < n.depth := by omega
  rw [← hcl] at hc1
  generalize xs.filter (itr x) = ys at *
  generalize n.depth = dd at hd1 hd0 hc1
  clear h h1 h2 ho hc hd b1 n1 hcl hl
  go_enter Try.func78, Try.ntmps78
  go_wp2_with fail
  refine C1.mono ?_
  rintro e w2 ⟨v1, v2, rfl, r1, r2, b2⟩
  obtain ⟨A1, c1, rfl, _, _⟩ := r1.slice
  obtain ⟨A2, c2, rfl, _, _⟩ := r2.slice
  have e1 := cbel b2 hd1 (blk_lt H1.out)
  clear C1 r1 r2 hd1 hd3 o0
  go_wp2
  refine bodyPost_ret (results_none rfl _ _ _) rfl ?_
  exact ⟨rfl, HB.out.below b2, M1.out.trans (Mod.of (F := HM F b) b2) (fun _ h => .inl h)⟩
set_option maxHeartbeats 1000000 in
set_option maxRecDepth 20000 in
theorem evict_d {w : World} {F : Nat → Prop} {b : Nat} {n : Qn} {lost ev : Int} {xs : List Smp} (h : QS w F b n lost ev xs) (x : Smp) (ho : x.op = 1) (hd : 0 < n.depth) (hl : xs.length * 80 ≤ 140737488355328) (hc : n.depth ≤ (cntr x xs : Int)) (he : 0 ≤ ev ∧ ev < 1000000000) :
    Calls Try.prog 78 #[.pointer (some ⟨b, 0, none⟩), .agg (cells x).toArray] w fun e w' => e = .returned (.tuple #[]) ∧ QS w' F b n lost (ev + 1) (dropf (itr x) xs) ∧ Mod (HM F b) w w' := by
  obtain ⟨v0, h1, h2⟩ := h.at_
  have hmf : ∀ (fn : Fn) (first cap : Array Value) (w : World), (Instr.makeFunc fn first cap).run Try.prog w = .ok (.func fn first cap) w := fun _ _ _ _ => rfl
  have b1 : Below w.heap.size w (w.alloc (.cells (cells x).toArray 60)) := (Below.refl _ _).alloc (Nat.le_refl _) _
  have n1 := heap_alloc_new w (.cells (cells x).toArray 60)
  have o0 : (w.alloc (.cells (cells x).toArray 60)).cell? ⟨w.heap.size, 0, none⟩ = some (.int .i64 x.op) := blk_cell n1 0
  have HB := Lib.hid (h.below b1)
  have hd1 : (w.alloc (.cells (cells x).toArray 60)).cell? ⟨b, 1, none⟩ = some (.int .i64 n.depth) := blk_cell (blk_alloc h1 _) 1
  have hd3 : (w.alloc (.cells (cells x).toArray 60)).cell? ⟨b, 3, none⟩ = some v0 := blk_cell (blk_alloc h1 _) 3
  have M1 := Lib.hid (Mod.of (F := HM F b) b1)
  have hd0 : (n.depth == 0) = false := beq_eq_false_iff_ne.2 (by omega)
  have hP := Lib.hid (its_pr w.heap.size x _ n1)
  have H2 := Lib.hid (h2.alloc (.cells (cells x).toArray 60))
  have H1 := Lib.hid (blk_alloc h1 (.cells (cells x).toArray 60))
  have N1 := Lib.hid n1
  have HN := Lib.hid (And.intro h.lt (And.intro h.off h.old))
  have hcl : (xs.filter (itr x)).length = cntr x xs := (List.countP_eq_length_filter ..).symm
  have C1 := parted hP.out H2.out hl
  rw [ho] at o0
  obtain ⟨A0, c0, rfl, _, _⟩ := h2.slice
  have hc1 : ¬ (cntr x xs : Int) < n.depth := by omega
  have hne : fi (itr x) xs 0 ≠ -1 := fun hh => by
    have := fi_none (itr x) xs 0 hh
    have h5 : (xs.filter (itr x)).length = 0 := filter_none this
    rw [hcl] at h5
    omega
  obtain ⟨k, hk, e1, e2, e3⟩ := fi_some (itr x) xs 0 hne
  rw [Nat.zero_add] at e1
  have hdf : dropf (itr x) xs = xs.take k ++ xs.drop (k + 1) := by unfold dropf; rw [if_neg hne, e1, Int.toNat_natCast]
  obtain ⟨k1, hk1⟩ : ∃ k1, k1 = k + 1 := ⟨_, rfl⟩
  rw [hdf, ← hk1]
  have hw : wrap64 ((k : Int) + 1) = (k1 : Int) := wrapk hk hl hk1
  have hwe : IntKind.u64.wrap (ev + 1) = ev + 1 := wrapu64 (by omega) (by omega)
  have hkk : Hid (k < k1 ∧ k1 ≤ xs.length) := Lib.hid ⟨hk1 ▸ Nat.lt_succ_self k, hk1 ▸ hk⟩
  rw [← hcl] at hc1
  have CF := Lib.hid (fun (w2 : World) (b2 : Below (w.alloc (.cells (cells x).toArray 60)).heap.size (w.alloc (.cells (cells x).toArray 60)) w2) => indexFunc (its_pr w.heap.size x w2 (blk_below N1.out b2)) (H2.out.below b2))
  rw [e1] at CF
  have CD := Lib.hid (fun (w3 : World) (b3 : Below (w.alloc (.cells (cells x).toArray 60)).heap.size (w.alloc (.cells (cells x).toArray 60)) w3) => delete_ (H2.out.below b3) hkk.out.1 hkk.out.2)
  generalize xs.filter (itr x) = ys at *
  generalize xs.take k ++ xs.drop k1 = zs at CD hdf ⊢
  generalize n.depth = dd at hd1 hd0 hc1
  have h0 : (0 : Int) ≤ (k : Int) := by omega
  clear h h1 h2 ho hc hd b1 n1 hcl hl hne e1 e2 e3 hdf hk hk1 he
  go_enter Try.func78, Try.ntmps78
  go_wp2_with fail
  refine C1.mono ?_
  rintro e w2 ⟨v1, v2, rfl, r1, r2, b2⟩
  obtain ⟨A1, c1, rfl, _, _⟩ := r1.slice
  obtain ⟨A2, c2, rfl, _, _⟩ := r2.slice
  have g1 := cbel b2 hd1 (blk_lt H1.out)
  have g3 := cbel b2 hd3 (blk_lt H1.out)
  have C2 := CF.out w2 b2
  clear C1 r1 r2 hd1 hd3 o0 CF
  go_wp2_with fail
  refine C2.mono ?_
  rintro e w3 ⟨rfl, b3⟩
  have B3 := bstep b2 b3
  have f3 := cbel b3 g3 (by exact Nat.lt_of_lt_of_le (blk_lt H1.out) b2.size)
  have C3 := CD.out w3 B3
  clear C2 CD g1 g3 b2 b3
  go_wp2_with fail
  refine C3.mono ?_
  rintro e w4 ⟨v4, rfl, r4, m4⟩
  have hS := (HB.out.below B3).store r4 HN.out.2.1 (fun k hk => Nat.lt_of_lt_of_le (HN.out.2.2 k hk) (Nat.le_trans (by simp) (Nat.le_trans B3.size m4.size))) m4
  have H4 := (m4.block b (blk_lt (blk_below H1.out B3)) HN.out.2.1).trans (blk_below H1.out B3)
  have z3 := blk_frozen H4 3
  have y3 : w4.cell? ⟨b, 3, none⟩ = some (.slice A0 xs.length c0) := blk_cell H4 3
  have H5 := blk_put H4 3 v4 rfl
  have y5 : (w4.setCell ⟨b, 3, none⟩ v4).cell? ⟨b, 5, none⟩ = some (.int .u64 ev) := blk_cell H5 5
  have z5 := blk_frozen H5 5
  have hS5 := hS.1.ev_ (ev + 1)
  have HX := Lib.hid (And.intro hS5.1 (M1.out.trans ((Mod.of (F := HM F b) B3).trans (hS.2.trans hS5.2 (fun _ h => .inl h)) (fun _ h => .inl h)) (fun _ h => .inl h)))
  obtain ⟨A4, c4, rfl, _, _⟩ := r4.slice
  clear C3 r4 m4 hS H4 H5 hS5 f3
  go_wp2
  go_end0
  exact ⟨rfl, HX.out.1, HX.out.2⟩
end Go.Proofs.Ytimalojaiaofkaa.Rng
namespace Go.Proofs.Ytimalojaiaofkaa.Rng
open Go.RowKit Base Sp Flat Go.Proofs.YtimalojaiaofkaaW.PrintWords Go.Shelf Smp His
theorem evict {w : World} {F : Nat → Prop} {b : Nat} {n : Qn} {lost ev : Int} {xs : List Smp} (h : QS w F b n lost ev xs) (x : Smp) (hl : xs.length * 80 ≤ 140737488355328) (he : 0 ≤ ev ∧ ev < 1000000000) :
    Calls Try.prog 78 #[.pointer (some ⟨b, 0, none⟩), .agg (cells x).toArray] w fun e w' => e = .returned (.tuple #[]) ∧ QS w' F b n lost (evm n.depth xs ev x).2 (evm n.depth xs ev x).1 ∧ Mod (HM F b) w w' := by
  have d0 := h.d0
  unfold evm
  by_cases ho : x.op = 1
  · by_cases hd : 0 < n.depth
    · by_cases hc : n.depth ≤ (cntr x xs : Int)
      · rw [if_pos ⟨ho, hd, hc⟩]; exact evict_d h x ho hd hl hc he
      · rw [if_neg (fun hh => hc hh.2.2)]; exact evict_c h x ho hd hl hc
    · rw [if_neg (fun hh => hd hh.2.1)]; exact evict_b h x ho (Int.le_antisymm (Int.not_lt.1 hd) d0)
  · rw [if_neg (fun hh => ho hh.1)]; exact evict_a h x ho
/-- Push: what waits, was lost, and evicted then. -/
def pushm (n : Qn) (xs : List Smp) (lost ev : Int) (x : Smp) : List Smp × Int × Int :=
  if n.room ≤ ((evm n.depth xs ev x).1.length : Int) then
    (if n.newest = true ∨ n.room = 0 then ((evm n.depth xs ev x).1, lost + 1, (evm n.depth xs ev x).2) else ((evm n.depth xs ev x).1.drop 1 ++ [x], lost + 1, (evm n.depth xs ev x).2))
  else ((evm n.depth xs ev x).1 ++ [x], lost, (evm n.depth xs ev x).2)
set_option maxRecDepth 20000 in
theorem push_nil (x : Smp) (w : World) : Calls Try.prog 45 #[.pointer none, .agg (cells x).toArray] w fun e w' => e = .returned (.tuple #[]) ∧ Below w.heap.size w w' := by
  have b1 : Below w.heap.size w (w.alloc (.cells (cells x).toArray 60)) := (Below.refl _ _).alloc (Nat.le_refl _) _
  go_enter Try.func45, Try.ntmps45
  go_wp2
  refine bodyPost_ret (results_none rfl _ _ _) rfl ?_
  exact ⟨rfl, b1⟩
set_option maxHeartbeats 2000000 in
set_option maxRecDepth 20000 in
theorem push_d {w : World} {F : Nat → Prop} {b : Nat} {n : Qn} {lost ev ev1 : Int} {xs ys : List Smp} (h : QS w F b n lost ev xs) (x : Smp) (hl : xs.length * 80 ≤ 140737488355328) (he : 0 ≤ ev ∧ ev < 1000000000) (hlo : 0 ≤ lost ∧ lost < 1000000000) (hy : (ys.length + 1) * 80 ≤ 140737488355328)
    (hev : evm n.depth xs ev x = (ys, ev1)) (hr : ¬ n.room ≤ (ys.length : Int)) :
    Calls Try.prog 45 #[.pointer (some ⟨b, 0, none⟩), .agg (cells x).toArray] w fun e w' => e = .returned (.tuple #[]) ∧ ∃ F', QS w' F' b n lost ev1 (ys ++ [x]) ∧ Grow F F' w ∧ Mod (HM F b) w w' := by
  have b1 : Below w.heap.size w (w.alloc (.cells (cells x).toArray 60)) := (Below.refl _ _).alloc (Nat.le_refl _) _
  have n1 := heap_alloc_new w (.cells (cells x).toArray 60)
  have C := evict (h.below b1) x hl he
  rw [hev] at C
  dsimp only at C
  have hgs : Hid (¬ F w.heap.size) := Lib.hid (fun hf => Nat.lt_irrefl _ (h.old _ hf))
  have hbn : Hid (w.heap.size ≠ b) := Lib.hid (Nat.ne_of_gt h.lt)
  have M1 := Lib.hid (Mod.of (F := HM F b) b1)
  have r1 := box_range n1
  have HN1 := Lib.hid n1
  have HLEN := Lib.hid hy
  have hwl : IntKind.u64.wrap (lost + 1) = lost + 1 := wrapu64 (Int.add_nonneg hlo.1 (by decide)) (Int.lt_trans (Int.add_lt_add_right hlo.2 1) (by decide))
  clear h hl he hlo hy hev n1 b1
  go_enter Try.func45, Try.ntmps45
  go_wp2_with (first | ((with_reducible refine gate_dst (N := 7) rfl ?_); refine wpList_load_mid rfl 60 (.tmp 3) rfl w.heap.size 0 rfl (cells x) _ r1 Try.underlying60 rfl (size23 x) ?_) | fail)
  refine C.mono ?_
  rintro e w3 ⟨rfl, H3, m3⟩
  have M3 := Lib.hid (M1.out.trans m3 (fun _ h => .inl h))
  have n3 : w3.heap[w.heap.size]? = some (.cells (cells x).toArray 60 (0, 0)) := (m3.block w.heap.size (blk_lt HN1.out) (fun hh => hh.elim hbn.out hgs.out)).trans HN1.out
  obtain ⟨v3, k3, q3⟩ := H3.at_
  have y0 : w3.cell? ⟨b, 0, none⟩ = some (.int .i64 n.room) := blk_cell k3 0
  have y2 : w3.cell? ⟨b, 2, none⟩ = some (.bool n.newest) := blk_cell k3 2
  have y3 : w3.cell? ⟨b, 3, none⟩ = some v3 := blk_cell k3 3
  have y4 : w3.cell? ⟨b, 4, none⟩ = some (.int .u64 lost) := blk_cell k3 4
  have z4 := blk_frozen k3 4
  obtain ⟨A3, c3, rfl, _, _⟩ := q3.slice
  have Q3 := Lib.hid q3
  have K3 := Lib.hid k3
  clear C r1 m3 q3 k3 M1
  have H5 : QS w3.drew F b n lost ev1 ys := H3.below (below_drew (Below.refl _ _))
  have M5 : Hid (Mod (HM F b) w w3.drew) := Lib.hid M3.out.drew
  have n5 : w3.drew.heap[w.heap.size]? = some (.cells (cells x).toArray 60 (0, 0)) := n3
  clear H3 M3 n3 K3 Q3 y2 y4 z4
  go_wp2_with fail
  refine Reg.wp_plan (S := fun w' => w'.cell? ⟨b, 0, none⟩ = some (.int .i64 n.room) ∧ w'.cell? ⟨b, 3, none⟩ = some (.slice A3 ys.length c3)) 10 (.fl 0 (.fl 1 (.fl 2 (.fl 3 (.fl 4 (.fl 5 (.fl 6 (.fl 7 (.fl 8 (.fl 9 .done)))))))))) (by kernel_rfl) (by kernel_rfl) (by kernel_rfl) (by kernel_rfl) (fun _ _ _ d _ h => by cases d <;> exact h) ?_ (fun hHeld => ?_)
  · exact ⟨y0, y3⟩
  refine Reg.G_on (o := { dst := some 9, op := Op.move (Operand.tmp 0), type := 81, pos := "ring.go:57", after := #[], guard := Option.none }) (v := ?_) (by rfl) ?_ (fun wS hSw => ?_) ?_
  rotate_left
  · kernel_rfl
  · (try dsimp only at hSw); go_simp; (try with_reducible rfl)
  try simp only [Act.put, List.setIfInBounds_toArray, List.set_cons_zero, List.set_cons_succ]
  refine Reg.G_on (o := { dst := some 10, op := Op.nilCheck (Operand.tmp 9), type := 0, pos := "ring.go:57", after := #[{ on := 0, ground := Ground.data }], guard := Option.none }) (v := ?_) (by rfl) ?_ (fun wS hSw => ?_) ?_
  rotate_left
  · kernel_rfl
  · (try dsimp only at hSw); go_simp; (try with_reducible rfl)
  try simp only [Act.put, List.setIfInBounds_toArray, List.set_cons_zero, List.set_cons_succ]
  refine Reg.G_on (o := { dst := some 11, op := Op.fieldAddr 97 (Operand.tmp 10) 3, type := 0, pos := "ring.go:57", after := #[{ on := 1, ground := Ground.data }], guard := Option.none }) (v := ?_) (by rfl) ?_ (fun wS hSw => ?_) ?_
  rotate_left
  · kernel_rfl
  · (try dsimp only at hSw); go_simp; (try with_reducible rfl)
  try simp only [Act.put, List.setIfInBounds_toArray, List.set_cons_zero, List.set_cons_succ]
  refine Reg.G_on (o := { dst := some 12, op := Op.load 56 (Operand.tmp 11), type := 56, pos := "ring.go:57", after := #[{ on := 2, ground := Ground.data }], guard := Option.none }) (v := ?_) (by rfl) ?_ (fun wS hSw => ?_) ?_
  rotate_left
  · kernel_rfl
  · (try dsimp only at hSw); go_simp; (try with_reducible rfl)
  try simp only [Act.put, List.setIfInBounds_toArray, List.set_cons_zero, List.set_cons_succ]
  refine Reg.G_on (o := { dst := some 13, op := Op.call { callee := Callee.builtin Builtin.len, args := #[Operand.tmp 12], argTypes := #[56] }, type := 3, pos := "ring.go:57", after := #[{ on := 3, ground := Ground.data }], guard := Option.none }) (v := ?_) (by rfl) ?_ (fun wS hSw => ?_) ?_
  rotate_left
  · kernel_rfl
  · (try dsimp only at hSw); go_simp; (try with_reducible rfl)
  try simp only [Act.put, List.setIfInBounds_toArray, List.set_cons_zero, List.set_cons_succ]
  refine Reg.G_on (o := { dst := some 14, op := Op.move (Operand.tmp 0), type := 81, pos := "ring.go:57", after := #[], guard := Option.none }) (v := ?_) (by rfl) ?_ (fun wS hSw => ?_) ?_
  rotate_left
  · kernel_rfl
  · (try dsimp only at hSw); go_simp; (try with_reducible rfl)
  try simp only [Act.put, List.setIfInBounds_toArray, List.set_cons_zero, List.set_cons_succ]
  refine Reg.G_on (o := { dst := some 15, op := Op.nilCheck (Operand.tmp 14), type := 0, pos := "ring.go:57", after := #[{ on := 5, ground := Ground.data }], guard := Option.none }) (v := ?_) (by rfl) ?_ (fun wS hSw => ?_) ?_
  rotate_left
  · kernel_rfl
  · (try dsimp only at hSw); go_simp; (try with_reducible rfl)
  try simp only [Act.put, List.setIfInBounds_toArray, List.set_cons_zero, List.set_cons_succ]
  refine Reg.G_on (o := { dst := some 16, op := Op.fieldAddr 97 (Operand.tmp 15) 0, type := 0, pos := "ring.go:57", after := #[{ on := 6, ground := Ground.data }], guard := Option.none }) (v := ?_) (by rfl) ?_ (fun wS hSw => ?_) ?_
  rotate_left
  · kernel_rfl
  · (try dsimp only at hSw); go_simp; (try with_reducible rfl)
  try simp only [Act.put, List.setIfInBounds_toArray, List.set_cons_zero, List.set_cons_succ]
  refine Reg.G_on (o := { dst := some 17, op := Op.load 3 (Operand.tmp 16), type := 3, pos := "ring.go:57", after := #[{ on := 7, ground := Ground.data }], guard := Option.none }) (v := ?_) (by rfl) ?_ (fun wS hSw => ?_) ?_
  rotate_left
  · kernel_rfl
  · (try dsimp only at hSw); go_simp; (try with_reducible rfl)
  try simp only [Act.put, List.setIfInBounds_toArray, List.set_cons_zero, List.set_cons_succ]
  refine Reg.G_on (o := { dst := some 18, op := Op.binOp BinOp.geq 3 (Operand.tmp 13) (Operand.tmp 17) 3, type := 4, pos := "ring.go:57", after := #[{ on := 4, ground := Ground.data }, { on := 8, ground := Ground.data }], guard := Option.none }) (v := ?_) (by rfl) ?_ (fun wS hSw => ?_) ?_
  rotate_left
  · kernel_rfl
  · (try dsimp only at hSw); go_simp; (try with_reducible rfl)
  try simp only [Act.put, List.setIfInBounds_toArray, List.set_cons_zero, List.set_cons_succ]
  refine Reg.G_done ?_
  clear hHeld
  go_wp2
  obtain ⟨v5, h5, r5⟩ := H5.at_
  have y5 : w3.drew.cell? ⟨b, 3, none⟩ = some v5 := blk_cell h5 3
  obtain ⟨v7, w7, hrun, r7, g7, s7⟩ := (show Row w3.drew.drew F v5 ys from r5).append H5.old x HLEN.out 56
  have hown := r5.own
  obtain ⟨A5, c5, rfl, _, _⟩ := r5.slice
  have n7 := blk_grown (w := w3.drew.drew) n5 g7 (fun e => by have h9 := (hown _ e.symm).1; exact hgs.out h9)
  have k7 := blk_grown (w := w3.drew.drew) h5 g7 (fun e => by have h9 := (hown _ e.symm).1; exact H5.off h9)
  have y7 : w7.cell? ⟨b, 3, none⟩ = some (.slice A5 ys.length c5) := blk_cell k7 3
  have z7 := blk_frozen k7 3
  have HX : Hid (QS (w7.setCell ⟨b, 3, none⟩ v7) (fun k => F k ∨ (w.heap.size ≤ k ∧ k < w7.heap.size ∧ k ≠ b)) b n lost ev1 (ys ++ [x]) ∧ Mod (HM F b) w (w7.setCell ⟨b, 3, none⟩ v7)) := Lib.hid (by
    have hbl := blk_lt h5
    have hds : w3.drew.drew.heap.size = w3.drew.heap.size := rfl
    have hFm : ∀ k, (F k ∨ (w3.drew.drew.heap.size ≤ k ∧ k < w7.heap.size)) → (F k ∨ (w.heap.size ≤ k ∧ k < w7.heap.size ∧ k ≠ b)) := fun k hk => hk.imp id (fun hh => ⟨Nat.le_trans M5.out.size (hds ▸ hh.1), hh.2, fun e => by subst e; exact Nat.lt_irrefl _ (Nat.lt_of_lt_of_le hbl (hds ▸ hh.1))⟩)
    have hoff : ¬ (F b ∨ (w.heap.size ≤ b ∧ b < w7.heap.size ∧ b ≠ b)) := fun hh => hh.elim H5.off (fun hh => hh.2.2 rfl)
    refine ⟨⟨⟨v7, blk_put k7 3 v7 rfl, (r7.mono hFm).set (a := ⟨b, 3, none⟩) hoff v7⟩, hoff, fun k hk => ?_, H5.r0, H5.d0, H5.rm, H5.dm⟩, ?_⟩
    · have : (w7.setCell ⟨b, 3, none⟩ v7).heap.size = w7.heap.size := by simp [World.setCell]
      rw [this]
      rcases hk with hk | hk
      · exact Nat.lt_of_lt_of_le (H5.old k hk) (Nat.le_trans (Nat.le_of_eq hds.symm) (Nat.le_of_lt s7))
      · exact hk.2.1
    · exact ((M5.out.drew).grown g7 (fun k hk => .inl (.inr (hown k hk).1))).set (p := ⟨b, 3, none⟩) (.inl (.inl rfl)) v7)
  obtain ⟨A7, c7, rfl, _, _⟩ := r7.slice
  rw [List.length_append, List.length_singleton] at HX hrun
  clear h5 r5 r7 g7 s7 hown k7 H5
  refine Reg.wp_plan (S := fun w' => w'.heap[w.heap.size]? = some (.cells (cells x).toArray 60 (0, 0)) ∧ w'.cell? ⟨b, 3, none⟩ = some (.slice A5 ys.length c5)) 10 (.fl 0 (.fl 1 (.fl 2 (.fl 3 (.fl 4 (.fl 5 (.one 6 (.one 7 (.fl 8 (.fl 9 (.one 10 .done))))))))))) (by kernel_rfl) (by kernel_rfl) (by kernel_rfl) (by kernel_rfl) (fun _ _ _ d _ h => by cases d <;> exact h) ?_ (fun hHeld => ?_)
  · exact ⟨n5, y5⟩
  refine Reg.G_on (o := { dst := some 45, op := Op.move (Operand.tmp 0), type := 81, pos := "ring.go:64", after := #[], guard := Option.none }) (v := ?_) (by rfl) ?_ (fun wS hSw => ?_) ?_
  rotate_left
  · kernel_rfl
  · (try dsimp only at hSw); go_simp; (try with_reducible rfl)
  try simp only [Act.put, List.setIfInBounds_toArray, List.set_cons_zero, List.set_cons_succ]
  refine Reg.G_on (o := { dst := some 46, op := Op.move (Operand.tmp 0), type := 81, pos := "ring.go:64", after := #[], guard := Option.none }) (v := ?_) (by rfl) ?_ (fun wS hSw => ?_) ?_
  rotate_left
  · kernel_rfl
  · (try dsimp only at hSw); go_simp; (try with_reducible rfl)
  try simp only [Act.put, List.setIfInBounds_toArray, List.set_cons_zero, List.set_cons_succ]
  refine Reg.G_on (o := { dst := some 47, op := Op.nilCheck (Operand.tmp 46), type := 0, pos := "ring.go:64", after := #[{ on := 1, ground := Ground.data }], guard := Option.none }) (v := ?_) (by rfl) ?_ (fun wS hSw => ?_) ?_
  rotate_left
  · kernel_rfl
  · (try dsimp only at hSw); go_simp; (try with_reducible rfl)
  try simp only [Act.put, List.setIfInBounds_toArray, List.set_cons_zero, List.set_cons_succ]
  refine Reg.G_on (o := { dst := some 48, op := Op.fieldAddr 97 (Operand.tmp 47) 3, type := 0, pos := "ring.go:64", after := #[{ on := 2, ground := Ground.data }], guard := Option.none }) (v := ?_) (by rfl) ?_ (fun wS hSw => ?_) ?_
  rotate_left
  · kernel_rfl
  · (try dsimp only at hSw); go_simp; (try with_reducible rfl)
  try simp only [Act.put, List.setIfInBounds_toArray, List.set_cons_zero, List.set_cons_succ]
  refine Reg.G_on (o := { dst := some 49, op := Op.load 56 (Operand.tmp 48), type := 56, pos := "ring.go:64", after := #[{ on := 3, ground := Ground.data }], guard := Option.none }) (v := ?_) (by rfl) ?_ (fun wS hSw => ?_) ?_
  rotate_left
  · kernel_rfl
  · (try dsimp only at hSw); go_simp; (try with_reducible rfl)
  try simp only [Act.put, List.setIfInBounds_toArray, List.set_cons_zero, List.set_cons_succ]
  refine Reg.G_on (o := { dst := some 50, op := Op.load 60 (Operand.tmp 3), type := 60, pos := "ring.go:64", after := #[], guard := Option.none }) (v := .agg (cells x).toArray) (by rfl) ?_ (fun wS hSw => ?_) ?_
  · kernel_rfl
  · exact load_yields rfl rfl (box_range hSw.1) Try.underlying60 rfl (size23 x)
  try simp only [Act.put, List.setIfInBounds_toArray, List.set_cons_zero, List.set_cons_succ]
  refine Reg.G_step (o := { dst := some 51, op := Op.buildSlice 56 1 #[(0, Operand.tmp 50)], type := 56, pos := "ring.go:64", after := #[{ on := 5, ground := Ground.data }], guard := Option.none }) (by rfl) ?_ (fun K hK => ?_)
  · kernel_rfl
  refine build1 (x := x) rfl rfl ?_
  refine hK.out _ _ ?_ (fun hHeld => ?_)
  · exact ⟨blk_alloc n5 _, cnew y5⟩
  clear hK K
  try simp only [Act.put, List.setIfInBounds_toArray, List.set_cons_zero, List.set_cons_succ]
  refine Reg.G_step (o := { dst := some 52, op := Op.call { callee := Callee.builtin Builtin.append, args := #[Operand.tmp 49, Operand.tmp 51], argTypes := #[56, 56] }, type := 56, pos := "ring.go:64", after := #[{ on := 4, ground := Ground.data }, { on := 6, ground := Ground.data }], guard := Option.none }) (by rfl) ?_ (fun K hK => ?_)
  · kernel_rfl
  refine op_append (.tmp 49) (.tmp 51) 56 rfl rfl rfl hrun ?_
  refine hK.out _ _ ?_ (fun hHeld => ?_)
  · exact ⟨n7, y7⟩
  clear hK K
  try simp only [Act.put, List.setIfInBounds_toArray, List.set_cons_zero, List.set_cons_succ]
  refine Reg.G_on (o := { dst := some 53, op := Op.nilCheck (Operand.tmp 45), type := 0, pos := "ring.go:64", after := #[{ on := 0, ground := Ground.data }, { on := 0, ground := Ground.phase }, { on := 1, ground := Ground.phase }, { on := 2, ground := Ground.phase }, { on := 3, ground := Ground.phase }, { on := 4, ground := Ground.phase }, { on := 5, ground := Ground.phase }, { on := 6, ground := Ground.phase }, { on := 7, ground := Ground.phase }], guard := Option.none }) (v := ?_) (by rfl) ?_ (fun wS hSw => ?_) ?_
  rotate_left
  · kernel_rfl
  · (try dsimp only at hSw); go_simp; (try with_reducible rfl)
  try simp only [Act.put, List.setIfInBounds_toArray, List.set_cons_zero, List.set_cons_succ]
  refine Reg.G_on (o := { dst := some 54, op := Op.fieldAddr 97 (Operand.tmp 53) 3, type := 0, pos := "ring.go:64", after := #[{ on := 8, ground := Ground.data }, { on := 0, ground := Ground.phase }, { on := 1, ground := Ground.phase }, { on := 2, ground := Ground.phase }, { on := 3, ground := Ground.phase }, { on := 4, ground := Ground.phase }, { on := 5, ground := Ground.phase }, { on := 6, ground := Ground.phase }, { on := 7, ground := Ground.phase }], guard := Option.none }) (v := ?_) (by rfl) ?_ (fun wS hSw => ?_) ?_
  rotate_left
  · kernel_rfl
  · (try dsimp only at hSw); go_simp; (try with_reducible rfl)
  try simp only [Act.put, List.setIfInBounds_toArray, List.set_cons_zero, List.set_cons_succ]
  clear hHeld
  refine Reg.G_last (o := { dst := Option.none, op := Op.store 56 (Operand.tmp 54) (Operand.tmp 52), type := 0, pos := "ring.go:64", after := #[{ on := 9, ground := Ground.data }, { on := 7, ground := Ground.data }, { on := 7, ground := Ground.chain }, { on := 0, ground := Ground.phase }, { on := 1, ground := Ground.phase }, { on := 2, ground := Ground.phase }, { on := 3, ground := Ground.phase }, { on := 4, ground := Ground.phase }, { on := 5, ground := Ground.phase }, { on := 6, ground := Ground.phase }, { on := 7, ground := Ground.phase }], guard := Option.none }) (by rfl) (by rfl) ?_ (fun K hK => ?_)
  · kernel_rfl
  go_simp
  refine hK.out _ _ ?_
  clear hK K
  try simp only [Act.put, List.setIfInBounds_toArray, List.set_cons_zero, List.set_cons_succ]
  go_wp2
  go_end0
  exact ⟨rfl, _, HX.out.1, fun k hk => Or.imp id (fun hh => hh.1) hk, HX.out.2⟩
set_option maxHeartbeats 2000000 in
set_option maxRecDepth 20000 in
theorem push_a {w : World} {F : Nat → Prop} {b : Nat} {n : Qn} {lost ev ev1 : Int} {xs ys : List Smp} (h : QS w F b n lost ev xs) (x : Smp) (hl : xs.length * 80 ≤ 140737488355328) (he : 0 ≤ ev ∧ ev < 1000000000) (hlo : 0 ≤ lost ∧ lost < 1000000000) (hy : (ys.length + 1) * 80 ≤ 140737488355328)
    (hev : evm n.depth xs ev x = (ys, ev1)) (hr : n.room ≤ (ys.length : Int)) (hn : n.newest = true) :
    Calls Try.prog 45 #[.pointer (some ⟨b, 0, none⟩), .agg (cells x).toArray] w fun e w' => e = .returned (.tuple #[]) ∧ ∃ F', QS w' F' b n (lost + 1) ev1 ys ∧ Grow F F' w ∧ Mod (HM F b) w w' := by
  have b1 : Below w.heap.size w (w.alloc (.cells (cells x).toArray 60)) := (Below.refl _ _).alloc (Nat.le_refl _) _
  have n1 := heap_alloc_new w (.cells (cells x).toArray 60)
  have C := evict (h.below b1) x hl he
  rw [hev] at C
  dsimp only at C
  have hgs : Hid (¬ F w.heap.size) := Lib.hid (fun hf => Nat.lt_irrefl _ (h.old _ hf))
  have hbn : Hid (w.heap.size ≠ b) := Lib.hid (Nat.ne_of_gt h.lt)
  have M1 := Lib.hid (Mod.of (F := HM F b) b1)
  have r1 := box_range n1
  have HN1 := Lib.hid n1
  have HLEN := Lib.hid hy
  have hwl : IntKind.u64.wrap (lost + 1) = lost + 1 := wrapu64 (Int.add_nonneg hlo.1 (by decide)) (Int.lt_trans (Int.add_lt_add_right hlo.2 1) (by decide))
  clear h hl he hlo hy hev n1 b1
  go_enter Try.func45, Try.ntmps45
  go_wp2_with (first | ((with_reducible refine gate_dst (N := 7) rfl ?_); refine wpList_load_mid rfl 60 (.tmp 3) rfl w.heap.size 0 rfl (cells x) _ r1 Try.underlying60 rfl (size23 x) ?_) | fail)
  refine C.mono ?_
  rintro e w3 ⟨rfl, H3, m3⟩
  have M3 := Lib.hid (M1.out.trans m3 (fun _ h => .inl h))
  have n3 : w3.heap[w.heap.size]? = some (.cells (cells x).toArray 60 (0, 0)) := (m3.block w.heap.size (blk_lt HN1.out) (fun hh => hh.elim hbn.out hgs.out)).trans HN1.out
  obtain ⟨v3, k3, q3⟩ := H3.at_
  have y0 : w3.cell? ⟨b, 0, none⟩ = some (.int .i64 n.room) := blk_cell k3 0
  have y2 : w3.cell? ⟨b, 2, none⟩ = some (.bool n.newest) := blk_cell k3 2
  have y3 : w3.cell? ⟨b, 3, none⟩ = some v3 := blk_cell k3 3
  have y4 : w3.cell? ⟨b, 4, none⟩ = some (.int .u64 lost) := blk_cell k3 4
  have z4 := blk_frozen k3 4
  obtain ⟨A3, c3, rfl, _, _⟩ := q3.slice
  have Q3 := Lib.hid q3
  have K3 := Lib.hid k3
  clear C r1 m3 q3 k3 M1
  have HS := Lib.hid ((H3.below (below_drew (Below.refl _ _))).lost_ (lost + 1))
  have M5 := Lib.hid (M3.out.drew.trans HS.out.2 (fun _ h => .inl h))
  rw [hn] at y2
  generalize n.room = rm at y0 hr
  clear H3 M3 n3 K3 Q3
  go_wp2_with fail
  refine Reg.wp_plan (S := fun w' => w'.cell? ⟨b, 0, none⟩ = some (.int .i64 rm) ∧ w'.cell? ⟨b, 3, none⟩ = some (.slice A3 ys.length c3)) 10 (.fl 0 (.fl 1 (.fl 2 (.fl 3 (.fl 4 (.fl 5 (.fl 6 (.fl 7 (.fl 8 (.fl 9 .done)))))))))) (by kernel_rfl) (by kernel_rfl) (by kernel_rfl) (by kernel_rfl) (fun _ _ _ d _ h => by cases d <;> exact h) ?_ (fun hHeld => ?_)
  · exact ⟨y0, y3⟩
  refine Reg.G_on (o := { dst := some 9, op := Op.move (Operand.tmp 0), type := 81, pos := "ring.go:57", after := #[], guard := Option.none }) (v := ?_) (by rfl) ?_ (fun wS hSw => ?_) ?_
  rotate_left
  · kernel_rfl
  · (try dsimp only at hSw); go_simp; (try with_reducible rfl)
  try simp only [Act.put, List.setIfInBounds_toArray, List.set_cons_zero, List.set_cons_succ]
  refine Reg.G_on (o := { dst := some 10, op := Op.nilCheck (Operand.tmp 9), type := 0, pos := "ring.go:57", after := #[{ on := 0, ground := Ground.data }], guard := Option.none }) (v := ?_) (by rfl) ?_ (fun wS hSw => ?_) ?_
  rotate_left
  · kernel_rfl
  · (try dsimp only at hSw); go_simp; (try with_reducible rfl)
  try simp only [Act.put, List.setIfInBounds_toArray, List.set_cons_zero, List.set_cons_succ]
  refine Reg.G_on (o := { dst := some 11, op := Op.fieldAddr 97 (Operand.tmp 10) 3, type := 0, pos := "ring.go:57", after := #[{ on := 1, ground := Ground.data }], guard := Option.none }) (v := ?_) (by rfl) ?_ (fun wS hSw => ?_) ?_
  rotate_left
  · kernel_rfl
  · (try dsimp only at hSw); go_simp; (try with_reducible rfl)
  try simp only [Act.put, List.setIfInBounds_toArray, List.set_cons_zero, List.set_cons_succ]
  refine Reg.G_on (o := { dst := some 12, op := Op.load 56 (Operand.tmp 11), type := 56, pos := "ring.go:57", after := #[{ on := 2, ground := Ground.data }], guard := Option.none }) (v := ?_) (by rfl) ?_ (fun wS hSw => ?_) ?_
  rotate_left
  · kernel_rfl
  · (try dsimp only at hSw); go_simp; (try with_reducible rfl)
  try simp only [Act.put, List.setIfInBounds_toArray, List.set_cons_zero, List.set_cons_succ]
  refine Reg.G_on (o := { dst := some 13, op := Op.call { callee := Callee.builtin Builtin.len, args := #[Operand.tmp 12], argTypes := #[56] }, type := 3, pos := "ring.go:57", after := #[{ on := 3, ground := Ground.data }], guard := Option.none }) (v := ?_) (by rfl) ?_ (fun wS hSw => ?_) ?_
  rotate_left
  · kernel_rfl
  · (try dsimp only at hSw); go_simp; (try with_reducible rfl)
  try simp only [Act.put, List.setIfInBounds_toArray, List.set_cons_zero, List.set_cons_succ]
  refine Reg.G_on (o := { dst := some 14, op := Op.move (Operand.tmp 0), type := 81, pos := "ring.go:57", after := #[], guard := Option.none }) (v := ?_) (by rfl) ?_ (fun wS hSw => ?_) ?_
  rotate_left
  · kernel_rfl
  · (try dsimp only at hSw); go_simp; (try with_reducible rfl)
  try simp only [Act.put, List.setIfInBounds_toArray, List.set_cons_zero, List.set_cons_succ]
  refine Reg.G_on (o := { dst := some 15, op := Op.nilCheck (Operand.tmp 14), type := 0, pos := "ring.go:57", after := #[{ on := 5, ground := Ground.data }], guard := Option.none }) (v := ?_) (by rfl) ?_ (fun wS hSw => ?_) ?_
  rotate_left
  · kernel_rfl
  · (try dsimp only at hSw); go_simp; (try with_reducible rfl)
  try simp only [Act.put, List.setIfInBounds_toArray, List.set_cons_zero, List.set_cons_succ]
  refine Reg.G_on (o := { dst := some 16, op := Op.fieldAddr 97 (Operand.tmp 15) 0, type := 0, pos := "ring.go:57", after := #[{ on := 6, ground := Ground.data }], guard := Option.none }) (v := ?_) (by rfl) ?_ (fun wS hSw => ?_) ?_
  rotate_left
  · kernel_rfl
  · (try dsimp only at hSw); go_simp; (try with_reducible rfl)
  try simp only [Act.put, List.setIfInBounds_toArray, List.set_cons_zero, List.set_cons_succ]
  refine Reg.G_on (o := { dst := some 17, op := Op.load 3 (Operand.tmp 16), type := 3, pos := "ring.go:57", after := #[{ on := 7, ground := Ground.data }], guard := Option.none }) (v := ?_) (by rfl) ?_ (fun wS hSw => ?_) ?_
  rotate_left
  · kernel_rfl
  · (try dsimp only at hSw); go_simp; (try with_reducible rfl)
  try simp only [Act.put, List.setIfInBounds_toArray, List.set_cons_zero, List.set_cons_succ]
  refine Reg.G_on (o := { dst := some 18, op := Op.binOp BinOp.geq 3 (Operand.tmp 13) (Operand.tmp 17) 3, type := 4, pos := "ring.go:57", after := #[{ on := 4, ground := Ground.data }, { on := 8, ground := Ground.data }], guard := Option.none }) (v := ?_) (by rfl) ?_ (fun wS hSw => ?_) ?_
  rotate_left
  · kernel_rfl
  · (try dsimp only at hSw); go_simp; (try with_reducible rfl)
  try simp only [Act.put, List.setIfInBounds_toArray, List.set_cons_zero, List.set_cons_succ]
  refine Reg.G_done ?_
  clear hHeld
  go_wp2
  refine bodyPost_ret (results_none rfl _ _ _) rfl ?_
  exact ⟨rfl, _, HS.out.1, fun k hk => .inl hk, M5.out⟩
set_option maxHeartbeats 2000000 in
set_option maxRecDepth 20000 in
theorem push_b {w : World} {F : Nat → Prop} {b : Nat} {n : Qn} {lost ev ev1 : Int} {xs ys : List Smp} (h : QS w F b n lost ev xs) (x : Smp) (hl : xs.length * 80 ≤ 140737488355328) (he : 0 ≤ ev ∧ ev < 1000000000) (hlo : 0 ≤ lost ∧ lost < 1000000000) (hy : (ys.length + 1) * 80 ≤ 140737488355328)
    (hev : evm n.depth xs ev x = (ys, ev1)) (hr : n.room ≤ (ys.length : Int)) (hn : n.newest = false) (h0 : n.room = 0) :
    Calls Try.prog 45 #[.pointer (some ⟨b, 0, none⟩), .agg (cells x).toArray] w fun e w' => e = .returned (.tuple #[]) ∧ ∃ F', QS w' F' b n (lost + 1) ev1 ys ∧ Grow F F' w ∧ Mod (HM F b) w w' := by
  have b1 : Below w.heap.size w (w.alloc (.cells (cells x).toArray 60)) := (Below.refl _ _).alloc (Nat.le_refl _) _
  have n1 := heap_alloc_new w (.cells (cells x).toArray 60)
  have C := evict (h.below b1) x hl he
  rw [hev] at C
  dsimp only at C
  have hgs : Hid (¬ F w.heap.size) := Lib.hid (fun hf => Nat.lt_irrefl _ (h.old _ hf))
  have hbn : Hid (w.heap.size ≠ b) := Lib.hid (Nat.ne_of_gt h.lt)
  have M1 := Lib.hid (Mod.of (F := HM F b) b1)
  have r1 := box_range n1
  have HN1 := Lib.hid n1
  have HLEN := Lib.hid hy
  have hwl : IntKind.u64.wrap (lost + 1) = lost + 1 := wrapu64 (Int.add_nonneg hlo.1 (by decide)) (Int.lt_trans (Int.add_lt_add_right hlo.2 1) (by decide))
  clear h hl he hlo hy hev n1 b1
  go_enter Try.func45, Try.ntmps45
  go_wp2_with (first | ((with_reducible refine gate_dst (N := 7) rfl ?_); refine wpList_load_mid rfl 60 (.tmp 3) rfl w.heap.size 0 rfl (cells x) _ r1 Try.underlying60 rfl (size23 x) ?_) | fail)
  refine C.mono ?_
  rintro e w3 ⟨rfl, H3, m3⟩
  have M3 := Lib.hid (M1.out.trans m3 (fun _ h => .inl h))
  have n3 : w3.heap[w.heap.size]? = some (.cells (cells x).toArray 60 (0, 0)) := (m3.block w.heap.size (blk_lt HN1.out) (fun hh => hh.elim hbn.out hgs.out)).trans HN1.out
  obtain ⟨v3, k3, q3⟩ := H3.at_
  have y0 : w3.cell? ⟨b, 0, none⟩ = some (.int .i64 n.room) := blk_cell k3 0
  have y2 : w3.cell? ⟨b, 2, none⟩ = some (.bool n.newest) := blk_cell k3 2
  have y3 : w3.cell? ⟨b, 3, none⟩ = some v3 := blk_cell k3 3
  have y4 : w3.cell? ⟨b, 4, none⟩ = some (.int .u64 lost) := blk_cell k3 4
  have z4 := blk_frozen k3 4
  obtain ⟨A3, c3, rfl, _, _⟩ := q3.slice
  have Q3 := Lib.hid q3
  have K3 := Lib.hid k3
  clear C r1 m3 q3 k3 M1
  have HS := Lib.hid ((H3.below (below_drew (Below.refl _ _))).lost_ (lost + 1))
  have M5 := Lib.hid (M3.out.drew.trans HS.out.2 (fun _ h => .inl h))
  rw [hn] at y2
  rw [h0] at y0 hr
  clear H3 M3 n3 K3 Q3 hn h0
  go_wp2_with fail
  refine Reg.wp_plan (S := fun w' => w'.cell? ⟨b, 0, none⟩ = some (.int .i64 0) ∧ w'.cell? ⟨b, 3, none⟩ = some (.slice A3 ys.length c3)) 10 (.fl 0 (.fl 1 (.fl 2 (.fl 3 (.fl 4 (.fl 5 (.fl 6 (.fl 7 (.fl 8 (.fl 9 .done)))))))))) (by kernel_rfl) (by kernel_rfl) (by kernel_rfl) (by kernel_rfl) (fun _ _ _ d _ h => by cases d <;> exact h) ?_ (fun hHeld => ?_)
  · exact ⟨y0, y3⟩
  refine Reg.G_on (o := { dst := some 9, op := Op.move (Operand.tmp 0), type := 81, pos := "ring.go:57", after := #[], guard := Option.none }) (v := ?_) (by rfl) ?_ (fun wS hSw => ?_) ?_
  rotate_left
  · kernel_rfl
  · (try dsimp only at hSw); go_simp; (try with_reducible rfl)
  try simp only [Act.put, List.setIfInBounds_toArray, List.set_cons_zero, List.set_cons_succ]
  refine Reg.G_on (o := { dst := some 10, op := Op.nilCheck (Operand.tmp 9), type := 0, pos := "ring.go:57", after := #[{ on := 0, ground := Ground.data }], guard := Option.none }) (v := ?_) (by rfl) ?_ (fun wS hSw => ?_) ?_
  rotate_left
  · kernel_rfl
  · (try dsimp only at hSw); go_simp; (try with_reducible rfl)
  try simp only [Act.put, List.setIfInBounds_toArray, List.set_cons_zero, List.set_cons_succ]
  refine Reg.G_on (o := { dst := some 11, op := Op.fieldAddr 97 (Operand.tmp 10) 3, type := 0, pos := "ring.go:57", after := #[{ on := 1, ground := Ground.data }], guard := Option.none }) (v := ?_) (by rfl) ?_ (fun wS hSw => ?_) ?_
  rotate_left
  · kernel_rfl
  · (try dsimp only at hSw); go_simp; (try with_reducible rfl)
  try simp only [Act.put, List.setIfInBounds_toArray, List.set_cons_zero, List.set_cons_succ]
  refine Reg.G_on (o := { dst := some 12, op := Op.load 56 (Operand.tmp 11), type := 56, pos := "ring.go:57", after := #[{ on := 2, ground := Ground.data }], guard := Option.none }) (v := ?_) (by rfl) ?_ (fun wS hSw => ?_) ?_
  rotate_left
  · kernel_rfl
  · (try dsimp only at hSw); go_simp; (try with_reducible rfl)
  try simp only [Act.put, List.setIfInBounds_toArray, List.set_cons_zero, List.set_cons_succ]
  refine Reg.G_on (o := { dst := some 13, op := Op.call { callee := Callee.builtin Builtin.len, args := #[Operand.tmp 12], argTypes := #[56] }, type := 3, pos := "ring.go:57", after := #[{ on := 3, ground := Ground.data }], guard := Option.none }) (v := ?_) (by rfl) ?_ (fun wS hSw => ?_) ?_
  rotate_left
  · kernel_rfl
  · (try dsimp only at hSw); go_simp; (try with_reducible rfl)
  try simp only [Act.put, List.setIfInBounds_toArray, List.set_cons_zero, List.set_cons_succ]
  refine Reg.G_on (o := { dst := some 14, op := Op.move (Operand.tmp 0), type := 81, pos := "ring.go:57", after := #[], guard := Option.none }) (v := ?_) (by rfl) ?_ (fun wS hSw => ?_) ?_
  rotate_left
  · kernel_rfl
  · (try dsimp only at hSw); go_simp; (try with_reducible rfl)
  try simp only [Act.put, List.setIfInBounds_toArray, List.set_cons_zero, List.set_cons_succ]
  refine Reg.G_on (o := { dst := some 15, op := Op.nilCheck (Operand.tmp 14), type := 0, pos := "ring.go:57", after := #[{ on := 5, ground := Ground.data }], guard := Option.none }) (v := ?_) (by rfl) ?_ (fun wS hSw => ?_) ?_
  rotate_left
  · kernel_rfl
  · (try dsimp only at hSw); go_simp; (try with_reducible rfl)
  try simp only [Act.put, List.setIfInBounds_toArray, List.set_cons_zero, List.set_cons_succ]
  refine Reg.G_on (o := { dst := some 16, op := Op.fieldAddr 97 (Operand.tmp 15) 0, type := 0, pos := "ring.go:57", after := #[{ on := 6, ground := Ground.data }], guard := Option.none }) (v := ?_) (by rfl) ?_ (fun wS hSw => ?_) ?_
  rotate_left
  · kernel_rfl
  · (try dsimp only at hSw); go_simp; (try with_reducible rfl)
  try simp only [Act.put, List.setIfInBounds_toArray, List.set_cons_zero, List.set_cons_succ]
  refine Reg.G_on (o := { dst := some 17, op := Op.load 3 (Operand.tmp 16), type := 3, pos := "ring.go:57", after := #[{ on := 7, ground := Ground.data }], guard := Option.none }) (v := ?_) (by rfl) ?_ (fun wS hSw => ?_) ?_
  rotate_left
  · kernel_rfl
  · (try dsimp only at hSw); go_simp; (try with_reducible rfl)
  try simp only [Act.put, List.setIfInBounds_toArray, List.set_cons_zero, List.set_cons_succ]
  refine Reg.G_on (o := { dst := some 18, op := Op.binOp BinOp.geq 3 (Operand.tmp 13) (Operand.tmp 17) 3, type := 4, pos := "ring.go:57", after := #[{ on := 4, ground := Ground.data }, { on := 8, ground := Ground.data }], guard := Option.none }) (v := ?_) (by rfl) ?_ (fun wS hSw => ?_) ?_
  rotate_left
  · kernel_rfl
  · (try dsimp only at hSw); go_simp; (try with_reducible rfl)
  try simp only [Act.put, List.setIfInBounds_toArray, List.set_cons_zero, List.set_cons_succ]
  refine Reg.G_done ?_
  clear hHeld
  go_wp2
  refine bodyPost_ret (results_none rfl _ _ _) rfl ?_
  exact ⟨rfl, _, HS.out.1, fun k hk => .inl hk, M5.out⟩
set_option maxHeartbeats 2000000 in
set_option maxRecDepth 20000 in
theorem push_c {w : World} {F : Nat → Prop} {b : Nat} {n : Qn} {lost ev ev1 : Int} {xs ys : List Smp} (h : QS w F b n lost ev xs) (x : Smp) (hl : xs.length * 80 ≤ 140737488355328) (he : 0 ≤ ev ∧ ev < 1000000000) (hlo : 0 ≤ lost ∧ lost < 1000000000) (hy : (ys.length + 1) * 80 ≤ 140737488355328)
    (hev : evm n.depth xs ev x = (ys, ev1)) (hr : n.room ≤ (ys.length : Int)) (hn : n.newest = false) (h0 : 0 < n.room) {zs : List Smp} (hzs : ys.drop 1 = zs) :
    Calls Try.prog 45 #[.pointer (some ⟨b, 0, none⟩), .agg (cells x).toArray] w fun e w' => e = .returned (.tuple #[]) ∧ ∃ F', QS w' F' b n (lost + 1) ev1 (zs ++ [x]) ∧ Grow F F' w ∧ Mod (HM F b) w w' := by
  have b1 : Below w.heap.size w (w.alloc (.cells (cells x).toArray 60)) := (Below.refl _ _).alloc (Nat.le_refl _) _
  have n1 := heap_alloc_new w (.cells (cells x).toArray 60)
  have C := evict (h.below b1) x hl he
  rw [hev] at C
  dsimp only at C
  have hgs : Hid (¬ F w.heap.size) := Lib.hid (fun hf => Nat.lt_irrefl _ (h.old _ hf))
  have hbn : Hid (w.heap.size ≠ b) := Lib.hid (Nat.ne_of_gt h.lt)
  have M1 := Lib.hid (Mod.of (F := HM F b) b1)
  have r1 := box_range n1
  have HN1 := Lib.hid n1
  have HLEN := Lib.hid hy
  have hwl : IntKind.u64.wrap (lost + 1) = lost + 1 := wrapu64 (Int.add_nonneg hlo.1 (by decide)) (Int.lt_trans (Int.add_lt_add_right hlo.2 1) (by decide))
  clear h hl he hlo hy hev n1 b1
  go_enter Try.func45, Try.ntmps45
  go_wp2_with (first | ((with_reducible refine gate_dst (N := 7) rfl ?_); refine wpList_load_mid rfl 60 (.tmp 3) rfl w.heap.size 0 rfl (cells x) _ r1 Try.underlying60 rfl (size23 x) ?_) | fail)
  refine C.mono ?_
  rintro e w3 ⟨rfl, H3, m3⟩
  have M3 := Lib.hid (M1.out.trans m3 (fun _ h => .inl h))
  have n3 : w3.heap[w.heap.size]? = some (.cells (cells x).toArray 60 (0, 0)) := (m3.block w.heap.size (blk_lt HN1.out) (fun hh => hh.elim hbn.out hgs.out)).trans HN1.out
  obtain ⟨v3, k3, q3⟩ := H3.at_
  have y0 : w3.cell? ⟨b, 0, none⟩ = some (.int .i64 n.room) := blk_cell k3 0
  have y2 : w3.cell? ⟨b, 2, none⟩ = some (.bool n.newest) := blk_cell k3 2
  have y3 : w3.cell? ⟨b, 3, none⟩ = some v3 := blk_cell k3 3
  have y4 : w3.cell? ⟨b, 4, none⟩ = some (.int .u64 lost) := blk_cell k3 4
  have z4 := blk_frozen k3 4
  obtain ⟨A3, c3, rfl, _, _⟩ := q3.slice
  have Q3 := Lib.hid q3
  have K3 := Lib.hid k3
  clear C r1 m3 q3 k3 M1
  have HS := Lib.hid ((H3.below (below_drew (Below.refl _ _))).lost_ (lost + 1))
  have M5 := Lib.hid (M3.out.drew.trans HS.out.2 (fun _ h => .inl h))
  have hne : (n.room == 0) = false := beq_eq_false_iff_ne.2 (by omega)
  have hy1 : 1 ≤ ys.length := by omega
  rw [hn] at y2
  have q4 : Row (w3.setCell ⟨b, 4, none⟩ (.int .u64 (lost + 1))).drew F (.slice A3 ys.length c3) ys := (Q3.out.set (a := ⟨b, 4, none⟩) H3.off _).drew
  have K4 : (w3.setCell ⟨b, 4, none⟩ (.int .u64 (lost + 1))).drew.heap[b]? = _ := blk_put K3.out 4 (.int .u64 (lost + 1)) rfl
  have HK := Lib.hid K4
  have HO := Lib.hid (And.intro H3.off (And.intro (H3.lt) H3.old))
  have HN3 := Lib.hid n3
  have C3 : Calls Try.prog 79 #[.slice A3 ys.length c3, .int .i64 0, .int .i64 1] (w3.setCell ⟨b, 4, none⟩ (.int .u64 (lost + 1))).drew _ := delete_ q4 (i := 0) (j := 1) (by omega) hy1
  rw [List.take_zero, List.nil_append] at C3
  rw [hzs] at C3
  have HZ : Hid ((zs.length + 1) * 80 ≤ 140737488355328) := Lib.hid (by have := HLEN.out; rw [← hzs, List.length_drop]; omega)
  generalize n.room = rm at y0 hr hne
  clear H3 M3 n3 K3 Q3 hn h0 K4 q4 hy1 HLEN hzs
  go_wp2_with fail
  refine Reg.wp_plan (S := fun w' => w'.cell? ⟨b, 0, none⟩ = some (.int .i64 rm) ∧ w'.cell? ⟨b, 3, none⟩ = some (.slice A3 ys.length c3)) 10 (.fl 0 (.fl 1 (.fl 2 (.fl 3 (.fl 4 (.fl 5 (.fl 6 (.fl 7 (.fl 8 (.fl 9 .done)))))))))) (by kernel_rfl) (by kernel_rfl) (by kernel_rfl) (by kernel_rfl) (fun _ _ _ d _ h => by cases d <;> exact h) ?_ (fun hHeld => ?_)
  · exact ⟨y0, y3⟩
  refine Reg.G_on (o := { dst := some 9, op := Op.move (Operand.tmp 0), type := 81, pos := "ring.go:57", after := #[], guard := Option.none }) (v := ?_) (by rfl) ?_ (fun wS hSw => ?_) ?_
  rotate_left
  · kernel_rfl
  · (try dsimp only at hSw); go_simp; (try with_reducible rfl)
  try simp only [Act.put, List.setIfInBounds_toArray, List.set_cons_zero, List.set_cons_succ]
  refine Reg.G_on (o := { dst := some 10, op := Op.nilCheck (Operand.tmp 9), type := 0, pos := "ring.go:57", after := #[{ on := 0, ground := Ground.data }], guard := Option.none }) (v := ?_) (by rfl) ?_ (fun wS hSw => ?_) ?_
  rotate_left
  · kernel_rfl
  · (try dsimp only at hSw); go_simp; (try with_reducible rfl)
  try simp only [Act.put, List.setIfInBounds_toArray, List.set_cons_zero, List.set_cons_succ]
  refine Reg.G_on (o := { dst := some 11, op := Op.fieldAddr 97 (Operand.tmp 10) 3, type := 0, pos := "ring.go:57", after := #[{ on := 1, ground := Ground.data }], guard := Option.none }) (v := ?_) (by rfl) ?_ (fun wS hSw => ?_) ?_
  rotate_left
  · kernel_rfl
  · (try dsimp only at hSw); go_simp; (try with_reducible rfl)
  try simp only [Act.put, List.setIfInBounds_toArray, List.set_cons_zero, List.set_cons_succ]
  refine Reg.G_on (o := { dst := some 12, op := Op.load 56 (Operand.tmp 11), type := 56, pos := "ring.go:57", after := #[{ on := 2, ground := Ground.data }], guard := Option.none }) (v := ?_) (by rfl) ?_ (fun wS hSw => ?_) ?_
  rotate_left
  · kernel_rfl
  · (try dsimp only at hSw); go_simp; (try with_reducible rfl)
  try simp only [Act.put, List.setIfInBounds_toArray, List.set_cons_zero, List.set_cons_succ]
  refine Reg.G_on (o := { dst := some 13, op := Op.call { callee := Callee.builtin Builtin.len, args := #[Operand.tmp 12], argTypes := #[56] }, type := 3, pos := "ring.go:57", after := #[{ on := 3, ground := Ground.data }], guard := Option.none }) (v := ?_) (by rfl) ?_ (fun wS hSw => ?_) ?_
  rotate_left
  · kernel_rfl
  · (try dsimp only at hSw); go_simp; (try with_reducible rfl)
  try simp only [Act.put, List.setIfInBounds_toArray, List.set_cons_zero, List.set_cons_succ]
  refine Reg.G_on (o := { dst := some 14, op := Op.move (Operand.tmp 0), type := 81, pos := "ring.go:57", after := #[], guard := Option.none }) (v := ?_) (by rfl) ?_ (fun wS hSw => ?_) ?_
  rotate_left
  · kernel_rfl
  · (try dsimp only at hSw); go_simp; (try with_reducible rfl)
  try simp only [Act.put, List.setIfInBounds_toArray, List.set_cons_zero, List.set_cons_succ]
  refine Reg.G_on (o := { dst := some 15, op := Op.nilCheck (Operand.tmp 14), type := 0, pos := "ring.go:57", after := #[{ on := 5, ground := Ground.data }], guard := Option.none }) (v := ?_) (by rfl) ?_ (fun wS hSw => ?_) ?_
  rotate_left
  · kernel_rfl
  · (try dsimp only at hSw); go_simp; (try with_reducible rfl)
  try simp only [Act.put, List.setIfInBounds_toArray, List.set_cons_zero, List.set_cons_succ]
  refine Reg.G_on (o := { dst := some 16, op := Op.fieldAddr 97 (Operand.tmp 15) 0, type := 0, pos := "ring.go:57", after := #[{ on := 6, ground := Ground.data }], guard := Option.none }) (v := ?_) (by rfl) ?_ (fun wS hSw => ?_) ?_
  rotate_left
  · kernel_rfl
  · (try dsimp only at hSw); go_simp; (try with_reducible rfl)
  try simp only [Act.put, List.setIfInBounds_toArray, List.set_cons_zero, List.set_cons_succ]
  refine Reg.G_on (o := { dst := some 17, op := Op.load 3 (Operand.tmp 16), type := 3, pos := "ring.go:57", after := #[{ on := 7, ground := Ground.data }], guard := Option.none }) (v := ?_) (by rfl) ?_ (fun wS hSw => ?_) ?_
  rotate_left
  · kernel_rfl
  · (try dsimp only at hSw); go_simp; (try with_reducible rfl)
  try simp only [Act.put, List.setIfInBounds_toArray, List.set_cons_zero, List.set_cons_succ]
  refine Reg.G_on (o := { dst := some 18, op := Op.binOp BinOp.geq 3 (Operand.tmp 13) (Operand.tmp 17) 3, type := 4, pos := "ring.go:57", after := #[{ on := 4, ground := Ground.data }, { on := 8, ground := Ground.data }], guard := Option.none }) (v := ?_) (by rfl) ?_ (fun wS hSw => ?_) ?_
  rotate_left
  · kernel_rfl
  · (try dsimp only at hSw); go_simp; (try with_reducible rfl)
  try simp only [Act.put, List.setIfInBounds_toArray, List.set_cons_zero, List.set_cons_succ]
  refine Reg.G_done ?_
  clear hHeld
  go_wp2_with fail
  refine C3.mono ?_
  rintro e w4 ⟨v4, rfl, r4, m4⟩
  have H4 := (m4.block b (blk_lt HK.out) HO.out.1).trans HK.out
  have z3 := blk_frozen H4 3
  have y4b : w4.cell? ⟨b, 3, none⟩ = some (.slice A3 ys.length c3) := blk_cell H4 3
  have hS : QS (w4.setCell ⟨b, 3, none⟩ v4) F b n (lost + 1) ev1 zs ∧ Mod (HM F b) _ _ := QS.store (w := (w3.setCell ⟨b, 4, none⟩ (.int .u64 (lost + 1))).drew) HS.out.1 r4 HO.out.1 (fun k hk => Nat.lt_of_lt_of_le (HO.out.2.2 k hk) (Nat.le_trans (by simp) m4.size)) m4
  have M6 := M5.out.trans hS.2 (fun _ h => .inl h)
  have n6 := (hS.2.block w.heap.size (by have := blk_lt HN3.out; simpa using this) (fun hh => hh.elim hbn.out hgs.out)).trans (show (w3.setCell ⟨b, 4, none⟩ (.int .u64 (lost + 1))).drew.heap[w.heap.size]? = some (.cells (cells x).toArray 60 (0, 0)) from (Below.heap_setCell w3 ⟨b, 4, none⟩ _ _ hbn.out).trans HN3.out)
  have H6 := hS.1
  obtain ⟨A4, c4, rfl, _, _⟩ := r4.slice
  have HH := Lib.hid (And.intro H6 (And.intro M6 n6))
  clear C3 r4 m4 H4 hS M6 n6 H6 M5 HS HK HN3 HO y0 y2 y3 y4 z4
  go_wp2
  generalize w4.setCell ⟨b, 3, none⟩ (.slice A4 zs.length c4) = w6 at *
  have H5 := HH.out.1
  have M5 := Lib.hid HH.out.2.1
  have n5 := HH.out.2.2
  have HLEN := HZ
  clear HH HZ
  obtain ⟨v5, h5, r5⟩ := H5.at_
  have y5 : w6.cell? ⟨b, 3, none⟩ = some v5 := blk_cell h5 3
  obtain ⟨v7, w7, hrun, r7, g7, s7⟩ := (show Row w6.drew F v5 zs from r5).append H5.old x HLEN.out 56
  have hown := r5.own
  obtain ⟨A5, c5, rfl, _, _⟩ := r5.slice
  have n7 := blk_grown (w := w6.drew) n5 g7 (fun e => by have h9 := (hown _ e.symm).1; exact hgs.out h9)
  have k7 := blk_grown (w := w6.drew) h5 g7 (fun e => by have h9 := (hown _ e.symm).1; exact H5.off h9)
  have y7 : w7.cell? ⟨b, 3, none⟩ = some (.slice A5 zs.length c5) := blk_cell k7 3
  have z7 := blk_frozen k7 3
  have HX : Hid (QS (w7.setCell ⟨b, 3, none⟩ v7) (fun k => F k ∨ (w.heap.size ≤ k ∧ k < w7.heap.size ∧ k ≠ b)) b n (lost + 1) ev1 (zs ++ [x]) ∧ Mod (HM F b) w (w7.setCell ⟨b, 3, none⟩ v7)) := Lib.hid (by
    have hbl := blk_lt h5
    have hds : w6.drew.heap.size = w6.heap.size := rfl
    have hFm : ∀ k, (F k ∨ (w6.drew.heap.size ≤ k ∧ k < w7.heap.size)) → (F k ∨ (w.heap.size ≤ k ∧ k < w7.heap.size ∧ k ≠ b)) := fun k hk => hk.imp id (fun hh => ⟨Nat.le_trans M5.out.size (hds ▸ hh.1), hh.2, fun e => by subst e; exact Nat.lt_irrefl _ (Nat.lt_of_lt_of_le hbl (hds ▸ hh.1))⟩)
    have hoff : ¬ (F b ∨ (w.heap.size ≤ b ∧ b < w7.heap.size ∧ b ≠ b)) := fun hh => hh.elim H5.off (fun hh => hh.2.2 rfl)
    refine ⟨⟨⟨v7, blk_put k7 3 v7 rfl, (r7.mono hFm).set (a := ⟨b, 3, none⟩) hoff v7⟩, hoff, fun k hk => ?_, H5.r0, H5.d0, H5.rm, H5.dm⟩, ?_⟩
    · have : (w7.setCell ⟨b, 3, none⟩ v7).heap.size = w7.heap.size := by simp [World.setCell]
      rw [this]
      rcases hk with hk | hk
      · exact Nat.lt_of_lt_of_le (H5.old k hk) (Nat.le_trans (Nat.le_of_eq hds.symm) (Nat.le_of_lt s7))
      · exact hk.2.1
    · exact ((M5.out.drew).grown g7 (fun k hk => .inl (.inr (hown k hk).1))).set (p := ⟨b, 3, none⟩) (.inl (.inl rfl)) v7)
  obtain ⟨A7, c7, rfl, _, _⟩ := r7.slice
  rw [List.length_append, List.length_singleton] at HX hrun
  clear h5 r5 r7 g7 s7 hown k7 H5
  refine Reg.wp_plan (S := fun w' => w'.heap[w.heap.size]? = some (.cells (cells x).toArray 60 (0, 0)) ∧ w'.cell? ⟨b, 3, none⟩ = some (.slice A5 zs.length c5)) 10 (.fl 0 (.fl 1 (.fl 2 (.fl 3 (.fl 4 (.fl 5 (.one 6 (.one 7 (.fl 8 (.fl 9 (.one 10 .done))))))))))) (by kernel_rfl) (by kernel_rfl) (by kernel_rfl) (by kernel_rfl) (fun _ _ _ d _ h => by cases d <;> exact h) ?_ (fun hHeld => ?_)
  · exact ⟨n5, y5⟩
  refine Reg.G_on (o := { dst := some 45, op := Op.move (Operand.tmp 0), type := 81, pos := "ring.go:64", after := #[], guard := Option.none }) (v := ?_) (by rfl) ?_ (fun wS hSw => ?_) ?_
  rotate_left
  · kernel_rfl
  · (try dsimp only at hSw); go_simp; (try with_reducible rfl)
  try simp only [Act.put, List.setIfInBounds_toArray, List.set_cons_zero, List.set_cons_succ]
  refine Reg.G_on (o := { dst := some 46, op := Op.move (Operand.tmp 0), type := 81, pos := "ring.go:64", after := #[], guard := Option.none }) (v := ?_) (by rfl) ?_ (fun wS hSw => ?_) ?_
  rotate_left
  · kernel_rfl
  · (try dsimp only at hSw); go_simp; (try with_reducible rfl)
  try simp only [Act.put, List.setIfInBounds_toArray, List.set_cons_zero, List.set_cons_succ]
  refine Reg.G_on (o := { dst := some 47, op := Op.nilCheck (Operand.tmp 46), type := 0, pos := "ring.go:64", after := #[{ on := 1, ground := Ground.data }], guard := Option.none }) (v := ?_) (by rfl) ?_ (fun wS hSw => ?_) ?_
  rotate_left
  · kernel_rfl
  · (try dsimp only at hSw); go_simp; (try with_reducible rfl)
  try simp only [Act.put, List.setIfInBounds_toArray, List.set_cons_zero, List.set_cons_succ]
  refine Reg.G_on (o := { dst := some 48, op := Op.fieldAddr 97 (Operand.tmp 47) 3, type := 0, pos := "ring.go:64", after := #[{ on := 2, ground := Ground.data }], guard := Option.none }) (v := ?_) (by rfl) ?_ (fun wS hSw => ?_) ?_
  rotate_left
  · kernel_rfl
  · (try dsimp only at hSw); go_simp; (try with_reducible rfl)
  try simp only [Act.put, List.setIfInBounds_toArray, List.set_cons_zero, List.set_cons_succ]
  refine Reg.G_on (o := { dst := some 49, op := Op.load 56 (Operand.tmp 48), type := 56, pos := "ring.go:64", after := #[{ on := 3, ground := Ground.data }], guard := Option.none }) (v := ?_) (by rfl) ?_ (fun wS hSw => ?_) ?_
  rotate_left
  · kernel_rfl
  · (try dsimp only at hSw); go_simp; (try with_reducible rfl)
  try simp only [Act.put, List.setIfInBounds_toArray, List.set_cons_zero, List.set_cons_succ]
  refine Reg.G_on (o := { dst := some 50, op := Op.load 60 (Operand.tmp 3), type := 60, pos := "ring.go:64", after := #[], guard := Option.none }) (v := .agg (cells x).toArray) (by rfl) ?_ (fun wS hSw => ?_) ?_
  · kernel_rfl
  · exact load_yields rfl rfl (box_range hSw.1) Try.underlying60 rfl (size23 x)
  try simp only [Act.put, List.setIfInBounds_toArray, List.set_cons_zero, List.set_cons_succ]
  refine Reg.G_step (o := { dst := some 51, op := Op.buildSlice 56 1 #[(0, Operand.tmp 50)], type := 56, pos := "ring.go:64", after := #[{ on := 5, ground := Ground.data }], guard := Option.none }) (by rfl) ?_ (fun K hK => ?_)
  · kernel_rfl
  refine build1 (x := x) rfl rfl ?_
  refine hK.out _ _ ?_ (fun hHeld => ?_)
  · exact ⟨blk_alloc n5 _, cnew y5⟩
  clear hK K
  try simp only [Act.put, List.setIfInBounds_toArray, List.set_cons_zero, List.set_cons_succ]
  refine Reg.G_step (o := { dst := some 52, op := Op.call { callee := Callee.builtin Builtin.append, args := #[Operand.tmp 49, Operand.tmp 51], argTypes := #[56, 56] }, type := 56, pos := "ring.go:64", after := #[{ on := 4, ground := Ground.data }, { on := 6, ground := Ground.data }], guard := Option.none }) (by rfl) ?_ (fun K hK => ?_)
  · kernel_rfl
  refine op_append (.tmp 49) (.tmp 51) 56 rfl rfl rfl hrun ?_
  refine hK.out _ _ ?_ (fun hHeld => ?_)
  · exact ⟨n7, y7⟩
  clear hK K
  try simp only [Act.put, List.setIfInBounds_toArray, List.set_cons_zero, List.set_cons_succ]
  refine Reg.G_on (o := { dst := some 53, op := Op.nilCheck (Operand.tmp 45), type := 0, pos := "ring.go:64", after := #[{ on := 0, ground := Ground.data }, { on := 0, ground := Ground.phase }, { on := 1, ground := Ground.phase }, { on := 2, ground := Ground.phase }, { on := 3, ground := Ground.phase }, { on := 4, ground := Ground.phase }, { on := 5, ground := Ground.phase }, { on := 6, ground := Ground.phase }, { on := 7, ground := Ground.phase }], guard := Option.none }) (v := ?_) (by rfl) ?_ (fun wS hSw => ?_) ?_
  rotate_left
  · kernel_rfl
  · (try dsimp only at hSw); go_simp; (try with_reducible rfl)
  try simp only [Act.put, List.setIfInBounds_toArray, List.set_cons_zero, List.set_cons_succ]
  refine Reg.G_on (o := { dst := some 54, op := Op.fieldAddr 97 (Operand.tmp 53) 3, type := 0, pos := "ring.go:64", after := #[{ on := 8, ground := Ground.data }, { on := 0, ground := Ground.phase }, { on := 1, ground := Ground.phase }, { on := 2, ground := Ground.phase }, { on := 3, ground := Ground.phase }, { on := 4, ground := Ground.phase }, { on := 5, ground := Ground.phase }, { on := 6, ground := Ground.phase }, { on := 7, ground := Ground.phase }], guard := Option.none }) (v := ?_) (by rfl) ?_ (fun wS hSw => ?_) ?_
  rotate_left
  · kernel_rfl
  · (try dsimp only at hSw); go_simp; (try with_reducible rfl)
  try simp only [Act.put, List.setIfInBounds_toArray, List.set_cons_zero, List.set_cons_succ]
  clear hHeld
  refine Reg.G_last (o := { dst := Option.none, op := Op.store 56 (Operand.tmp 54) (Operand.tmp 52), type := 0, pos := "ring.go:64", after := #[{ on := 9, ground := Ground.data }, { on := 7, ground := Ground.data }, { on := 7, ground := Ground.chain }, { on := 0, ground := Ground.phase }, { on := 1, ground := Ground.phase }, { on := 2, ground := Ground.phase }, { on := 3, ground := Ground.phase }, { on := 4, ground := Ground.phase }, { on := 5, ground := Ground.phase }, { on := 6, ground := Ground.phase }, { on := 7, ground := Ground.phase }], guard := Option.none }) (by rfl) (by rfl) ?_ (fun K hK => ?_)
  · kernel_rfl
  go_simp
  refine hK.out _ _ ?_
  clear hK K
  try simp only [Act.put, List.setIfInBounds_toArray, List.set_cons_zero, List.set_cons_succ]
  go_wp2
  go_end0
  exact ⟨rfl, _, HX.out.1, fun k hk => Or.imp id (fun hh => hh.1) hk, HX.out.2⟩
theorem push {w : World} {F : Nat → Prop} {b : Nat} {n : Qn} {lost ev : Int} {xs : List Smp} (h : QS w F b n lost ev xs) (x : Smp) (hl : (xs.length + 1) * 80 ≤ 140737488355328) (he : 0 ≤ ev ∧ ev < 1000000000) (hlo : 0 ≤ lost ∧ lost < 1000000000) :
    Calls Try.prog 45 #[.pointer (some ⟨b, 0, none⟩), .agg (cells x).toArray] w fun e w' => e = .returned (.tuple #[]) ∧ ∃ F', QS w' F' b n (pushm n xs lost ev x).2.1 (pushm n xs lost ev x).2.2 (pushm n xs lost ev x).1 ∧ Grow F F' w ∧ Mod (HM F b) w w' := by
  have h0 := h.r0
  have hle := evm_le n.depth xs ev x
  have hl' : xs.length * 80 ≤ 140737488355328 := Nat.le_trans (Nat.mul_le_mul_right _ (Nat.le_succ _)) hl
  obtain ⟨ys, ev1, hev⟩ : ∃ ys ev1, evm n.depth xs ev x = (ys, ev1) := ⟨_, _, rfl⟩
  unfold pushm
  rw [hev] at hle ⊢
  dsimp only at hle ⊢
  have hy : (ys.length + 1) * 80 ≤ 140737488355328 := Nat.le_trans (Nat.mul_le_mul_right _ (Nat.succ_le_succ hle)) hl
  by_cases hr : n.room ≤ (ys.length : Int)
  · rw [if_pos hr]
    cases hn : n.newest
    · by_cases hz : n.room = 0
      · rw [if_pos (.inr hz)]; exact push_b h x hl' he hlo hy hev hr hn hz
      · rw [if_neg (fun hh => hh.elim (fun hq => by cases hq) hz)]; exact push_c h x hl' he hlo hy hev hr hn (by omega) rfl
    · rw [if_pos (.inl rfl)]; exact push_a h x hl' he hlo hy hev hr hn
  · rw [if_neg hr]; exact push_d h x hl' he hlo hy hev hr
end Go.Proofs.Ytimalojaiaofkaa.Rng
