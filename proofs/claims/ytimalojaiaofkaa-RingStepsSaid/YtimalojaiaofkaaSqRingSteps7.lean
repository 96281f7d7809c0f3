import Derived.Test.YtimalojaiaofkaaSqRingSteps6
set_option linter.unusedVariables false
set_option linter.unusedSimpArgs false
namespace Go.Proofs.Ytimalojaiaofkaa.His
open Go.RowKit Base Sp Flat Go.Proofs.YtimalojaiaofkaaW.PrintWords Go.Shelf Smp
set_option maxRecDepth 20000 in
theorem put_0 {w : World} {F : Nat → Prop} {v : Value} {xs : List Smp} (h : Row w F v xs) (d s : Int) (x : Smp) (hd : d ≤ 0) (hs : s ≤ 0) (ho : x.op = 1) :
    Calls Try.prog 33 #[v, .int .i64 d, .int .i64 s, .agg (cells x).toArray] w fun e w' => ∃ v', e = .returned v' ∧ Row w' (fun k => F k ∨ New w.heap.size w' k) v' xs ∧ Below w.heap.size w w' := by
  have bb0 : Below w.heap.size w (w.alloc (.cells (cells x).toArray 60)) := (Below.refl _ _).alloc (Nat.le_refl _) _
  have o0 : (w.alloc (.cells (cells x).toArray 60)).cell? ⟨w.heap.size, 0, none⟩ = some (.int .i64 x.op) := blk_cell (heap_alloc_new _ _) 0
  rw [ho] at o0
  have hd1 : ¬ 0 < d := by omega
  have HX := Lib.hid (And.intro (h.below bb0) bb0)
  obtain ⟨A, c, rfl, _, hA⟩ := h.slice
  clear h ho hA bb0
  go_enter Try.func33, Try.ntmps33
  go_wp2
  go_ret
  exact ⟨_, rfl, HX.out.1.mono (fun k hk => .inl hk), HX.out.2⟩
theorem rput {w : World} {F : Nat → Prop} {v : Value} {xs : List Smp} (h : Row w F v xs) (d s : Int) (x : Smp) (hlen : (xs.length + 1) * 80 ≤ 140737488355328) :
    Calls Try.prog 33 #[v, .int .i64 d, .int .i64 s, .agg (cells x).toArray] w fun e w' => ∃ v', e = .returned v' ∧ Row w' (fun k => F k ∨ New w.heap.size w' k) v' (hput (mx0 d) (mx0 s) xs x) ∧ Below w.heap.size w w' := by
  by_cases hne : d ≤ 0 ∧ s ≤ 0 ∧ x.op = 1
  · have e : hput (mx0 d) (mx0 s) xs x = xs := by
      have e1 : mx0 d = 0 := by have := hne.1; unfold mx0; split <;> omega
      have e2 : mx0 s = 0 := by have := hne.2.1; unfold mx0; split <;> omega
      unfold hput
      rw [if_neg (fun hh => hh hne.2.2), e1, e2, if_neg (fun hh => absurd hh.1 (by decide)), if_pos ⟨rfl, rfl⟩]
    rw [e]
    exact put_0 h d s x hne.1 hne.2.1 hne.2.2
  · by_cases ho : x.op = 1
    · by_cases hd : d ≤ 0
      · by_cases hl : s ≤ (xs.length : Int)
        · exact put_w h d s x hlen hne hd ho hl
        · exact put_x h d s x hlen hne hd ho hl
      · by_cases hc : d ≤ (cnt x.key xs : Int)
        · exact put_z1 h d s x hlen hne (by omega) ho hc
        · exact put_z2 h d s x hlen hne (by omega) ho hc
    · by_cases hd : d ≤ 0
      · by_cases hs : s ≤ 0
        · exact put_y1 h d s x hlen hne hd ho hs
        · by_cases hl : s ≤ (xs.length : Int)
          · exact put_y2 h d s x hlen hne hd ho hs hl
          · exact put_y3 h d s x hlen hne hd ho hs hl
      · by_cases hc : d ≤ (cnt x.key xs : Int)
        · exact put_z3 h d s x hlen hne (by omega) ho hc
        · exact put_z4 h d s x hlen hne (by omega) ho hc
end Go.Proofs.Ytimalojaiaofkaa.His
namespace Go.Proofs.Ytimalojaiaofkaa.His
open Go.RowKit Base Sp Flat Go.Proofs.YtimalojaiaofkaaW.PrintWords Go.Shelf Smp
set_option maxRecDepth 20000 in
theorem exp_nil (now f : Int) (w : World) : Calls Try.prog 42 #[.pointer none, .int .u64 now, .int .i64 f] w fun e w' => e = .returned (.tuple #[]) ∧ Below w.heap.size w w' := by
  have bb : Below w.heap.size w ((w.alloc (.cells #[.int .u64 now] 58)).alloc (.cells #[.int .i64 f] 3)) := ((Below.refl _ _).alloc (Nat.le_refl _) _).alloc (by simp) _
  go_enter Try.func42, Try.ntmps42
  go_wp2
  go_end0
  exact ⟨rfl, bb⟩
set_option maxHeartbeats 1000000 in
set_option maxRecDepth 20000 in
theorem exp {w : World} {F : Nat → Prop} {b : Nat} {d s : Int} {xs : List Smp} (h : HS w F b d s xs) (now f : Int) (hn : now < 18446744073709551616) (f0 : -9223372036854775808 ≤ f) (f1 : f < 9223372036854775808) :
    Calls Try.prog 42 #[.pointer (some ⟨b, 0, none⟩), .int .u64 now, .int .i64 f] w fun e w' => e = .returned (.tuple #[]) ∧ HS w' F b d s (hexp now f xs) ∧ Mod (HM F b) w w' := by
  have hmf : ∀ (fn : Fn) (first cap : Array Value) (w : World), (Instr.makeFunc fn first cap).run Try.prog w = .ok (.func fn first cap) w := fun _ _ _ _ => rfl
  have bb : Below w.heap.size w ((w.alloc (.cells #[.int .u64 now] 58)).alloc (.cells #[.int .i64 f] 3)) := ((Below.refl _ _).alloc (Nat.le_refl _) _).alloc (by simp) _
  have n1 : ((w.alloc (.cells #[.int .u64 now] 58)).alloc (.cells #[.int .i64 f] 3)).heap[w.heap.size]? = some (.cells #[.int .u64 now] 58 (0, 0)) := blk_alloc (heap_alloc_new _ _) _
  have n2 : ((w.alloc (.cells #[.int .u64 now] 58)).alloc (.cells #[.int .i64 f] 3)).heap[w.heap.size + 1]? = some (.cells #[.int .i64 f] 3 (0, 0)) := by
    have := heap_alloc_new (w.alloc (.cells #[.int .u64 now] 58)) (.cells #[.int .i64 f] 3)
    simpa using this
  have c2 : ((w.alloc (.cells #[.int .u64 now] 58)).alloc (.cells #[.int .i64 f] 3)).cell? ⟨w.heap.size + 1, 0, none⟩ = some (.int .i64 f) := blk_cell n2 0
  have M := Lib.hid (Mod.of (F := HM F b) bb)
  unfold hexp
  by_cases hf : 0 < f
  · rw [if_pos hf]
    have C := drop_ (h.below bb) (old_pr w.heap.size (w.heap.size + 1) now f _ n1 n2 hn f0 f1) (fun k hk hF => by have := h.old k hF; rcases hk with rfl | rfl <;> omega)
    clear h n1 n2 bb hn f0 f1
    go_enter Try.func42, Try.ntmps42
    go_wp2_with fail
    refine C.mono ?_
    rintro e w2 ⟨rfl, h2, m2⟩
    go_wp2
    go_end0
    exact ⟨rfl, h2, M.out.trans m2 (fun _ h => .inl h)⟩
  · rw [if_neg hf]
    have H2 := Lib.hid (h.below bb)
    clear h n1 n2 bb hn f0 f1
    go_enter Try.func42, Try.ntmps42
    go_wp2
    go_end0
    exact ⟨rfl, H2.out, M.out⟩
/-- A step. -/
structure Stp where
  ages : Bool
  s : Smp
  now : Int
  life : Int
  good : (Lit.int .u64 now).wf = true ∧ (Lit.int .i64 life).wf = true
def stc (x : Stp) : List Value := [.bool x.ages] ++ (cells x.s ++ [.int .u64 x.now, .int .i64 x.life])
theorem stc_len (x : Stp) : (stc x).length = 26 := by
  unfold stc
  rw [List.length_append, List.length_append, cells_len]
  rfl
theorem stc_one (x : Stp) : ∀ u ∈ stc x, u.oneCell' = true := by
  intro u hu
  unfold stc at hu
  rcases List.mem_append.1 hu with hu | hu
  · rw [List.mem_singleton.1 hu]; rfl
  · rcases List.mem_append.1 hu with hu | hu
    · exact cells_one _ u hu
    · simp at hu
      rcases hu with rfl | rfl <;> rfl
def kst : Kd Stp where
  sz := 26
  E := []
  K := fun _ x cs => cs = stc x
  M := fun _ _ _ x cs => cs = stc x
  K_len := fun h => by rw [h]; exact stc_len _
  K_one := fun h u hu => by rw [h] at hu; exact stc_one _ u hu
  K_below := fun _ h => h
  K_of_M := fun h => h
  M_mono := fun _ h => h
  M_bound := fun h => h
  M_move := fun _ h => h
  M_lower := fun _ h => h
theorem stp_opens : Open.Opens Try.prog 62 kst (fun x => GSmp x.s) := by
  intro H enc w cs h
  have hp : Open.Opens Try.prog 62 (Kd.pair Kd.bool (Kd.pair ks (Kd.pair (Kd.int .u64) (Kd.int .i64)))) (Open.GPair (fun _ => True) (Open.GPair GSmp (Open.GPair (fun n => (Lit.int .u64 n).wf = true) (fun n => (Lit.int .i64 n).wf = true)))) := by
    refine Open.opens_struct Try.underlying62 (by kernel_rfl) ?_
    refine Open.fields_cons (Open.opens_bool Try.underlying4) (by kernel_rfl) ?_
    refine Open.fields_cons opens (by kernel_rfl) ?_
    refine Open.fields_cons (Open.opens_int Try.underlying58) (by kernel_rfl) ?_
    exact Open.fields_last (Open.opens_int Try.underlying3) (by kernel_rfl)
  obtain ⟨⟨a, s, n, f⟩, hK, _, g2, g3, g4⟩ := hp H enc w cs h
  obtain ⟨_, _, rfl, rfl, _, _, rfl, rfl, _, _, rfl, rfl, rfl⟩ := hK
  exact ⟨⟨a, s, n, f, g3, g4⟩, rfl, g2⟩
/-- What a step leaves. -/
def hstep (d s : Int) (xs : List Smp) (x : Stp) : List Smp := if x.ages = true then hexp x.now x.life xs else hput d s xs x.s
theorem hstep_le (d s : Int) (xs : List Smp) (x : Stp) : (hstep d s xs x).length ≤ xs.length + 1 := by
  unfold hstep
  split
  · have := hexp_le x.now x.life xs; omega
  · exact hput_le _ _ _ _
/-- A step's cells in a new block. -/
theorem stp_smp {w : World} {g : Nat} {t : TypeId} {x : Stp} (h : w.heap[g]? = some (.cells (stc x).toArray t (0, 0))) : w.rangeAt g 1 (cells x.s) := fun j u hj => by
  have hj' : j < 23 := by rw [← cells_len x.s]; exact (List.getElem?_eq_some_iff.1 hj).1
  rw [blk_cell h, List.getElem?_toArray]
  unfold stc
  rw [List.getElem?_append_right (by simp), List.getElem?_append_left (by rw [cells_len]; simp; omega)]
  simpa using hj
theorem stp_now {w : World} {g : Nat} {t : TypeId} {x : Stp} (h : w.heap[g]? = some (.cells (stc x).toArray t (0, 0))) : w.cell? ⟨g, 0, none⟩ = some (.bool x.ages) ∧ w.cell? ⟨g, 24, none⟩ = some (.int .u64 x.now) ∧ w.cell? ⟨g, 25, none⟩ = some (.int .i64 x.life) := by
  refine ⟨blk_cell h 0, ?_, ?_⟩
  all_goals
    rw [blk_cell h, List.getElem?_toArray]
    unfold stc
    rw [List.getElem?_append_right (by simp), List.getElem?_append_right (by rw [cells_len]; simp), cells_len]
    rfl
set_option maxHeartbeats 1000000 in
set_option maxRecDepth 20000 in
theorem do_ {w : World} {F : Nat → Prop} {b : Nat} {d s : Int} {xs : List Smp} (h : HS w F b d s xs) (x : Stp) (hlen : (xs.length + 1) * 80 ≤ 140737488355328) :
    Calls Try.prog 31 #[.pointer (some ⟨b, 0, none⟩), .agg (stc x).toArray] w fun e w' => e = .returned (.tuple #[]) ∧ ∃ F', HS w' F' b d s (hstep d s xs x) ∧ Grow F F' w ∧ Mod (HM F b) w w' := by
  have b1 : Below w.heap.size w (w.alloc (.cells (stc x).toArray 62)) := (Below.refl _ _).alloc (Nat.le_refl _) _
  have n1 := heap_alloc_new w (.cells (stc x).toArray 62)
  obtain ⟨c0, c24, c25⟩ := stp_now n1
  have r1 := stp_smp n1
  have M := Lib.hid (Mod.of (F := HM F b) b1)
  have hsz : w.heap.size ≤ (w.alloc (.cells (stc x).toArray 62)).heap.size := by simp
  have HSZ := Lib.hid hsz
  unfold hstep
  generalize stc x = L at c0 c24 c25 r1 b1 n1 M hsz HSZ ⊢
  obtain ⟨ages, sm, now, life, hg1, hg2⟩ := x
  dsimp only at c0 c24 c25 r1 ⊢
  cases ages with
  | true =>
    have C := exp (h.below b1) now life (wf_u64 hg1).2 (wf_i64 hg2).1 (wf_i64 hg2).2
    rw [if_pos rfl]
    clear h b1 n1 r1 hsz hg1 hg2
    go_enter Try.func31, Try.ntmps31
    go_wp2_with fail
    refine C.mono ?_
    rintro e w2 ⟨rfl, h2, m2⟩
    go_wp2
    go_end0
    exact ⟨rfl, F, h2, Grow.refl _ _, M.out.trans m2 (fun _ h => .inl h)⟩
  | false =>
    have C := put (h.below b1) sm hlen
    rw [if_neg (by decide)]
    clear h b1 n1 hsz hg1 hg2
    go_enter Try.func31, Try.ntmps31
    go_wp2_with (first | ((with_reducible refine gate_dst (N := 14) rfl ?_); refine wpList_load_mid rfl 60 (.tmp 13) rfl w.heap.size 1 rfl (cells sm) _ r1 Try.underlying60 rfl (size23 sm) ?_) | fail)
    refine C.mono ?_
    rintro e w2 ⟨rfl, F', h2, g2, m2⟩
    go_wp2
    go_end0
    exact ⟨rfl, F', h2, fun k hk => (g2 k hk).imp id (fun hh => Nat.le_trans HSZ.out hh), M.out.trans m2 (fun _ h => .inl h)⟩
def sq (n : Int) (h : (Lit.int .u64 n).wf = true) : Smp := ⟨1, 0, 0, 0, n, List.replicate 17 0, ⟨#[]⟩, by refine ⟨by decide, by decide, by decide, by decide, h, ⟨rfl, fun k hk => ?_⟩, by decide⟩; rw [List.eq_of_mem_replicate hk]; decide⟩
set_option maxRecDepth 20000 in
set_option maxHeartbeats 1000000 in
theorem awake (w : World) : Calls Try.prog 29 #[] w fun e w' => e = .returned (.bool true) ∧ Below w.heap.size w w' := by
  have C0 := new 1 0 w (by decide) (by decide)
  have e1 := Lib.hid (show hput (mx0 1) (mx0 0) [] (sq 1 (by decide)) = [sq 1 (by decide)] by kernel_rfl)
  have e2 := Lib.hid (show hput (mx0 1) (mx0 0) [sq 1 (by decide)] (sq 2 (by decide)) = [sq 2 (by decide)] by kernel_rfl)
  go_enter Try.func29, Try.ntmps29
  go_wp2_with fail
  refine C0.mono ?_
  rintro e w1 ⟨rfl, h1, b1⟩
  have C1 := put h1 (sq 1 (by decide)) (by decide)
  rw [e1.out] at C1
  go_wp2_with fail
  refine C1.mono ?_
  rintro e w2 ⟨rfl, F2, h2, g2, m2⟩
  have C2 := put h2 (sq 2 (by decide)) (by decide)
  rw [e2.out] at C2
  go_wp2_with fail
  refine C2.mono ?_
  rintro e w3 ⟨rfl, F3, h3, g3, m3⟩
  have C3 := len h3
  have C4 := all h3 (by decide)
  have bb : Hid (Below w.heap.size w w3) := Lib.hid (m3.below (m2.below b1 b1.size (fun k hk => by rcases hk with rfl | hk; exact Nat.le_refl _; exact hk.elim)) (Nat.le_trans b1.size m2.size) (fun k hk => by
    rcases hk with rfl | hk
    · exact Nat.le_refl _
    · rcases g2 k hk with hk | hk
      · exact hk.elim
      · exact Nat.le_trans b1.size hk))
  clear C0 C1 C2 h1 h2 h3 m2 m3 g2 g3 b1
  go_wp2_with fail
  refine C3.mono ?_
  rintro e w4 ⟨rfl, rfl⟩
  go_wp2_with fail
  refine C4.mono ?_
  rintro e w5 ⟨v, rfl, hR, b5⟩
  obtain ⟨A, c, rfl, hle, hA⟩ := hR.slice
  clear hle hA
  obtain ⟨g, rfl⟩ := Row.addr hR (i := 0) (by decide)
  have c4 : w5.cell? ⟨g, 4, none⟩ = some (.int .u64 2) := hR.range (i := 0) (by decide) 4 _ rfl
  rw [show ([sq 2 (by decide)] : List Smp).length = 1 from rfl]
  clear hR C3 C4 e1 e2
  go_wp2
  go_ret
  exact ⟨rfl, bstep bb.out b5⟩
end Go.Proofs.Ytimalojaiaofkaa.His
namespace Go.Proofs.Ytimalojaiaofkaa.His
open Go.RowKit Base Sp Flat Go.Proofs.YtimalojaiaofkaaW.PrintWords Go.Shelf Smp
/-- Cells at an address, whatever it is. -/
def CellsAt (w : World) (a : Addr) (cs : List Value) : Prop := ∀ j v, cs[j]? = some v → w.cell? (a.add j) = some v
section
variable {P : Program} {ops : Array Oper} {rest : List Oper} {op : Oper} {a : Act} {w : World} {Q : Exit → Act → World → Prop}
theorem loadVar_any (p : Addr) (ty : TypeId) (cs : List Value) (d : TypeDesc) (hc : CellsAt w p cs) (hu : P.underlying ty = some d) (hd : d.isRow = true) (hi : (P.info? ty).map (·.size) = some cs.length) :
    (loadVar ty p).run P w = .ok (.agg cs.toArray) w := by
  have hl : (loadCells p cs.length).run P w = .ok cs.toArray w := run_loadCells_list (P := P) w p cs hc
  cases hq : P.info? ty with
  | none => simp [hq] at hi
  | some i =>
    have hs : i.size = cs.length := by simpa [hq] using hi
    have hagg : (isAgg ty).run P w = .ok true w := by
      unfold isAgg
      rw [Sem.run_bind, run_underlying hu w]
      cases d <;> simp_all
    simp [loadVar, Sem.run_bind, hagg, sizeOf, typeInfo, hq, hs, hl]
theorem load_any (hw : Region.wanted op (yielded ops a.tmps) = true) (ty : TypeId) (x : Operand) (ho : op.op = .load ty x) (p : Addr) (hx : a.eval x = .pointer (some p)) (cs : List Value) (d : TypeDesc) (hc : CellsAt w p cs)
    (hu : P.underlying ty = some d) (hd : d.isRow = true) (hi : (P.info? ty).map (·.size) = some cs.length) (h : wpList P ops Q rest (a.put op.dst (.agg cs.toArray)) w) : wpList P ops Q (op :: rest) a w := by
  refine wpList_step fun K hK => ?_
  rw [if_pos hw]
  unfold Oper.wp execOp
  simp only [ho, hx, Instr.loadAt, Instr.sureAddr, Sem.run_bind, Sem.run_pure, Result.andThen_ok, loadVar_any p ty cs d hc hu hd hi]
  exact hK _ _ h
end
theorem range_below {w w' : World} {g o : Nat} {cs : List Value} (h : w.rangeAt g o cs) (hb : Below w.heap.size w w') (hg : g < w.heap.size) : w'.rangeAt g o cs := fun j v hj => cbel hb (h j v hj) hg
theorem add_block (a : Addr) (j : Nat) : (a.add j).block = a.block := by unfold Addr.add; split <;> rfl
theorem add_pos (a : Addr) {j : Nat} (h : 0 < j) : a.add j = ⟨a.block, a.off + j, none⟩ := by unfold Addr.add; rw [if_neg (by omega)]
theorem add_add (a : Addr) (i j : Nat) : (a.add i).add j = a.add (i + j) := by
  unfold Addr.add
  by_cases h1 : i = 0 <;> by_cases h2 : j = 0 <;> simp [h1, h2, Nat.add_assoc]
/-- A step of the argument's list, cell by cell. -/
structure StpAt (w : World) (a : Addr) (x : Stp) : Prop where
  all : CellsAt w a (stc x)
  ages : w.cell? a = some (.bool x.ages)
  smp : w.rangeAt a.block (a.off + 1) (cells x.s)
  now : w.cell? ⟨a.block, a.off + 24, none⟩ = some (.int .u64 x.now)
  life : w.cell? ⟨a.block, a.off + 25, none⟩ = some (.int .i64 x.life)
theorem StpAt.of {w : World} {a : Addr} {x : Stp} (h : CellsAt w a (stc x)) : StpAt w a x := by
  refine ⟨h, ?_, fun j v hj => ?_, ?_, ?_⟩
  · have := h 0 _ (show (stc x)[0]? = some (.bool x.ages) from rfl)
    unfold Addr.add at this
    simpa using this
  · have hj' : j < 23 := by rw [← cells_len x.s]; exact (List.getElem?_eq_some_iff.1 hj).1
    have := h (1 + j) v (by
      unfold stc
      rw [List.getElem?_append_right (by simp), List.getElem?_append_left (by rw [cells_len]; simp; omega)]
      simpa using hj)
    rw [add_pos a (by omega)] at this
    rw [Nat.add_assoc]
    exact this
  · have := h 24 (.int .u64 x.now) (by
      unfold stc
      rw [List.getElem?_append_right (by simp), List.getElem?_append_right (by rw [cells_len]; simp), cells_len]
      rfl)
    rwa [add_pos a (by omega)] at this
  · have := h 25 (.int .i64 x.life) (by
      unfold stc
      rw [List.getElem?_append_right (by simp), List.getElem?_append_right (by rw [cells_len]; simp), cells_len]
      rfl)
    rwa [add_pos a (by omega)] at this
theorem StpAt.lt {w : World} {a : Addr} {x : Stp} (h : StpAt w a x) : a.block < w.heap.size := World.block_lt_of_cell? w a h.ages
theorem StpAt.below {w w' : World} {a : Addr} {x : Stp} {B : Nat} (h : StpAt w a x) (hb : Below B w w') (hl : a.block < B) : StpAt w' a x :=
  ⟨fun j v hj => cbel hb (h.all j v hj) (by rw [add_block]; exact hl), cbel hb h.ages hl, fun j v hj => cbel hb (h.smp j v hj) hl, cbel hb h.now hl, cbel hb h.life hl⟩
theorem step_at {w : World} {A : Option Addr} {l : List Stp} (h : Kd.C kst w A l.length l) {i : Nat} (hi : i < l.length) : ∃ ad, A = some ad ∧ StpAt w (ad.add (i * 26)) l[i] := by
  obtain ⟨ad, e, hc⟩ := h.2.2 (by omega)
  refine ⟨ad, e, StpAt.of fun j v hj => ?_⟩
  obtain ⟨c, _, hK, hcell⟩ := hc i _ (List.getElem?_eq_getElem hi)
  have hK' : c = stc l[i] := hK
  rw [add_add]
  exact hcell j v (by rw [hK']; exact hj)
theorem stp26 (x : Stp) : (Try.prog.info? 62).map (·.size) = some (stc x).length := by rw [stc_len]; kernel_rfl
/-- What steps leave. -/
def hruns (d s : Int) (l : List Stp) : List Smp := l.foldl (fun xs x => hstep d s xs x) []
theorem hruns_step (d s : Int) (l : List Stp) (i : Nat) (hi : i < l.length) : hruns d s (l.take (i + 1)) = hstep d s (hruns d s (l.take i)) l[i] := by
  unfold hruns
  rw [List.take_succ_eq_append_getElem hi, List.foldl_append]
  rfl
theorem hruns_le (d s : Int) (l : List Stp) (i : Nat) (hi : i ≤ l.length) : (hruns d s (l.take i)).length ≤ i := by
  induction i with
  | zero => rw [List.take_zero]; exact Nat.le_refl _
  | succ i ih =>
    rw [hruns_step d s l i (by omega)]
    have := ih (by omega)
    have := hstep_le d s (hruns d s (l.take i)) l[i]
    omega
/-- A row that is none of the history's. -/
abbrev Oth (B : Nat) (F : Nat → Prop) (w : World) : Nat → Prop := fun k => B < k ∧ ¬ F k ∧ k < w.heap.size
theorem oth_do {B : Nat} {F F' : Nat → Prop} {w w' : World} {v : Value} {xs : List Smp} (h : Row w (Oth B F w) v xs) (hg : Grow F F' w) (hm : Mod (HM F B) w w') : Row w' (Oth B F' w') v xs :=
  (h.same (w' := w') (fun k hk => hm.block k hk.2.2 (fun hh => hh.elim (fun e => by have := hk.1; omega) hk.2.1))).mono (fun k hk => ⟨hk.1, fun hf => (hg k hf).elim hk.2.1 (fun hh => by have := hk.2.2; omega), Nat.lt_of_lt_of_le hk.2.2 hm.size⟩)
theorem oth_new {B : Nat} {F : Nat → Prop} {w w' : World} {v : Value} {xs : List Smp} (hF : ∀ k, F k → k < w.heap.size) (hB : B < w.heap.size) (hb : Below w.heap.size w w') (h : Row w' (fun k => Oth B F w k ∨ New w.heap.size w' k) v xs) : Row w' (Oth B F w') v xs :=
  h.mono (fun k hk => hk.elim (fun hh => ⟨hh.1, hh.2.1, Nat.lt_of_lt_of_le hh.2.2 hb.size⟩) (fun hh => ⟨by have := hh.1; omega, fun hf => by have := hF k hf; have := hh.1; omega, hh.2⟩))
end Go.Proofs.Ytimalojaiaofkaa.His
namespace Go.Proofs.Ytimalojaiaofkaa.His
open Go.RowKit Base Sp Flat Go.Proofs.YtimalojaiaofkaaW.PrintWords Go.Shelf Smp
set_option maxHeartbeats 4000000 in
set_option maxRecDepth 20000 in
theorem steps (ka kb : Int) (A : Option Addr) (cap : Nat) (l : List Stp) (key : List Int) (w : World) (hC : Kd.C kst w A l.length l) (hk : GKey key) (ha : ka < 9223372036854775808) (hb : kb < 9223372036854775808) :
    Calls Try.prog 8 #[.agg #[.int .i64 ka, .int .i64 kb], .slice A l.length cap, .agg (nums .u8 key).toArray] w fun e w' => e = .returned (.bool true) ∧ Below w.heap.size w w' := by
  have bb1 : Below w.heap.size w ((w.alloc (.cells #[.int .i64 ka, .int .i64 kb] 50)).alloc (.cells (nums .u8 key).toArray 53)) := ((Below.refl _ _).alloc (Nat.le_refl _) _).alloc (by simp) _
  by_cases hl : (l.length : Int) > 150
  · have hl1 : (150 : Int) < (l.length : Int) := by omega
    clear hl ha hb
    go_enter Try.func8, Try.ntmps8
    go_wp2_with fail
    refine (awake _).mono ?_
    rintro e w1 ⟨rfl, b1⟩
    go_wp2
    go_ret
    exact ⟨rfl, bstep bb1 b1⟩
  · have hl1 : ¬ (150 : Int) < (l.length : Int) := by omega
    have n0 : ((w.alloc (.cells #[.int .i64 ka, .int .i64 kb] 50)).alloc (.cells (nums .u8 key).toArray 53)).heap[w.heap.size]? = some (.cells #[.int .i64 ka, .int .i64 kb] 50 (0, 0)) := blk_alloc (heap_alloc_new _ _) _
    have n1 : ((w.alloc (.cells #[.int .i64 ka, .int .i64 kb] 50)).alloc (.cells (nums .u8 key).toArray 53)).heap[w.heap.size + 1]? = some (.cells (nums .u8 key).toArray 53 (0, 0)) := by
      have := heap_alloc_new (w.alloc (.cells #[.int .i64 ka, .int .i64 kb] 50)) (.cells (nums .u8 key).toArray 53)
      simpa using this
    have C0 := new ka kb ((w.alloc (.cells #[.int .i64 ka, .int .i64 kb] 50)).alloc (.cells (nums .u8 key).toArray 53)) ha hb
    have hC1 := Kd.C_below hC bb1
    have hbW := Lib.hid (show w.heap.size + 1 < ((w.alloc (.cells #[.int .i64 ka, .int .i64 kb] 50)).alloc (.cells (nums .u8 key).toArray 53)).heap.size from by simp)
    have HB1 := Lib.hid bb1
    have HK := Lib.hid hk
    have HC := Lib.hid hC
    have HL : Hid (l.length ≤ 150) := Lib.hid (by omega)
    have k0 : ((w.alloc (.cells #[.int .i64 ka, .int .i64 kb] 50)).alloc (.cells (nums .u8 key).toArray 53)).cell? ⟨w.heap.size, 0, none⟩ = some (.int .i64 ka) := blk_cell n0 0
    have k1 : ((w.alloc (.cells #[.int .i64 ka, .int .i64 kb] 50)).alloc (.cells (nums .u8 key).toArray 53)).cell? ⟨w.heap.size, 1, none⟩ = some (.int .i64 kb) := blk_cell n0 1
    obtain ⟨b, hbd⟩ : ∃ b, b = ((w.alloc (.cells #[.int .i64 ka, .int .i64 kb] 50)).alloc (.cells (nums .u8 key).toArray 53)).heap.size := ⟨_, rfl⟩
    have hb1 : ∀ w2, Below b ((w.alloc (.cells #[.int .i64 ka, .int .i64 kb] 50)).alloc (.cells (nums .u8 key).toArray 53)) w2 → Below ((w.alloc (.cells #[.int .i64 ka, .int .i64 kb] 50)).alloc (.cells (nums .u8 key).toArray 53)).heap.size ((w.alloc (.cells #[.int .i64 ka, .int .i64 kb] 50)).alloc (.cells (nums .u8 key).toArray 53)) w2 := fun w2 h => hbd ▸ h
    rw [← hbd] at C0 hbW
    have hb0 : Hid (b = ((w.alloc (.cells #[.int .i64 ka, .int .i64 kb] 50)).alloc (.cells (nums .u8 key).toArray 53)).heap.size) := Lib.hid hbd
    clear hl hC hk bb1 n0 hbd
    go_enter Try.func8, Try.ntmps8
    go_wp2_with fail
    refine C0.mono ?_
    rintro e w2 ⟨rfl, h2, b2⟩
    have c0 := cbel b2 k0 (by have := hbW.out; show w.heap.size < b; omega)
    have c1 := cbel b2 k1 (by have := hbW.out; show w.heap.size < b; omega)
    have ky : w2.rangeAt (w.heap.size + 1) 0 (nums .u8 key) := fun j u hj => by
      refine cbel b2 ?_ hbW.out
      rw [blk_cell n1, Nat.zero_add, List.getElem?_toArray]
      exact hj
    have hC2 := Kd.C_below hC1 (hb1 w2 b2)
    have HB2 : Hid (Below w.heap.size w w2) := Lib.hid (bstep HB1.out (hb1 w2 b2))
    have hblt := Lib.hid h2.lt
    clear C0 hC1 k0 k1 n1 hb1 hb0 b2 HB1
    go_wp2
    go_loopw [8, 9] (fun v8 v9 wr => ∃ (i : Nat) (F : Nat → Prop), v9 = .int .i64 (i : Int) ∧ i ≤ l.length ∧ Row wr (Oth b F wr) v8 (hruns (mx0 ka) (mx0 kb) (l.take i)) ∧ HS wr F b (mx0 ka) (mx0 kb) (hruns (mx0 ka) (mx0 kb) (l.take i)) ∧ (∀ k, F k → b < k) ∧ Below b w2 wr) (fun _ v9 _ => l.length - (intOf v9).toNat)
    case atStart => exact ⟨0, fun _ => False, rfl, Nat.zero_le _, Row.nil _ _, h2, fun k h => h.elim, Below.refl _ _⟩
    case round =>
      clear h2
      obtain ⟨i, F, rfl, hi, r8, h8, hF, bb⟩ := hrel
      by_cases hlt : i < l.length
      · have q0 : (0 : Int) ≤ (i : Int) := by omega
        have q1 : (i : Int) < (l.length : Int) := by omega
        obtain ⟨ad, rfl, st⟩ := step_at hC2 hlt
        have hlen : ((hruns (mx0 ka) (mx0 kb) (l.take i)).length + 1) * 80 ≤ 140737488355328 := by have := hruns_le (mx0 ka) (mx0 kb) l i hi; have := HL.out; omega
        have hlen6 : Hid ((hstep (mx0 ka) (mx0 kb) (hruns (mx0 ka) (mx0 kb) (l.take i)) l[i]).length * 80 ≤ 140737488355328) := Lib.hid (by have := hruns_le (mx0 ka) (mx0 kb) l i hi; have := HL.out; have := hstep_le (mx0 ka) (mx0 kb) (hruns (mx0 ka) (mx0 kb) (l.take i)) l[i]; omega)
        have hst2 := Lib.hid (hruns_step (mx0 ka) (mx0 kb) l i hlt)
        have hlt2 := Lib.hid hlt
        have hwi : wrap64 ((i : Int) + 1) = ((i + 1 : Nat) : Int) := by have := HL.out; unfold wrap64; omega
        have hsl : (ad.add (i * 26)).block < b := by
          obtain ⟨ad', e, st'⟩ := step_at HC.out hlt
          obtain rfl := Option.some.inj e
          have := st'.lt
          have := hbW.out
          omega
        generalize l[i] = x at st hlen6 hst2
        have st8 := st.below bb hsl
        have C1 := do_ h8 x hlen
        generalize hruns (mx0 ka) (mx0 kb) (l.take i) = xs at *
        have hbr := Lib.hid h8.lt
        have HF := Lib.hid hF
        have BB := Lib.hid bb
        have HR8 := Lib.hid r8
        have HSL := Lib.hid hsl
        have ST := Lib.hid st
        obtain ⟨A1, c1', rfl, hle1, hA1⟩ := r8.slice
        clear hle1 hA1
        have hxl := Lib.hid hlen
        clear h8 hlt hi hlen st r8 bb hF hsl
        go_wp2_with (first | ((with_reducible refine gate_dst (N := 29) rfl ?_); refine load_any (by kernel_rfl) 62 (.tmp 28) rfl _ rfl (stc x) _ st8.all Try.underlying62 rfl (stp26 x) ?_) | fail)
        refine C1.mono ?_
        rintro e w5 ⟨rfl, F5, h5, g5, m5⟩
        have bb5 : Below b w2 w5 := m5.below BB.out (Nat.le_of_lt hbr.out) (fun k hk => hk.elim (fun e => by omega) (fun hh => Nat.le_of_lt (HF.out k hh)))
        have r5 := oth_do HR8.out g5 m5
        have hF5 := Lib.hid (fun k (hk : F5 k) => (g5 k hk).elim (HF.out k) (fun hh => Nat.lt_of_lt_of_le hbr.out hh))
        have st5 := ST.out.below bb5 HSL.out
        have h50 := st5.ages
        have h51 := st5.now
        have h52 := st5.life
        have h53 := st5.smp
        have hsl5 : (ad.add (i * 26)).block < w5.heap.size := Nat.lt_of_lt_of_le HSL.out (Nat.le_of_lt (Nat.lt_of_lt_of_le hbr.out m5.size))
        have hwb5 : w.heap.size < w5.heap.size := by have := hbW.out; have := hbr.out; have := m5.size; omega
        have hbw5 : b < w5.heap.size := Nat.lt_of_lt_of_le hbr.out m5.size
        have c50 := cbel bb5 c0 (by have := hbW.out; show w.heap.size < b; omega)
        have c51 := cbel bb5 c1 (by have := hbW.out; show w.heap.size < b; omega)
        have hn := x.good
        have hylt := hbW
        have hy5 : w2.heap.size ≤ w2.heap.size := Nat.le_refl _
        unfold hstep at h5 hst2 hlen6
        clear C1 st5 st8 m5 g5 ST HR8 BB HF
        cases hag : x.ages with
        | true =>
          rw [hag] at h50
          rw [hag, if_pos rfl] at h5 hst2 hlen6
          have C2 := rexp (r5.drew) x.now x.life (by have := hxl.out; omega) (wf_u64 hn.1).2 (wf_i64 hn.2).1 (wf_i64 hn.2).2
          generalize hexp x.now x.life xs = ys at *
          generalize x.now = now at *
          generalize x.life = life at *
          clear h53 c50 c51 hn hag
          go_wp2_with fail
          refine Reg.wp_plan (S := fun w' => w'.cell? ⟨(ad.add (i * 26)).block, (ad.add (i * 26)).off + 24, none⟩ = some (.int .u64 now) ∧ w'.cell? ⟨(ad.add (i * 26)).block, (ad.add (i * 26)).off + 25, none⟩ = some (.int .i64 life)) 13 (.fl 0 (.fl 1 (.fl 2 (.fl 3 (.fl 4 (.fl 5 (.fl 6 (.fl 7 (.fl 8 (.fl 9 (.fl 10 (.one 11 (.fl 12 .done))))))))))))) (by kernel_rfl) (by kernel_rfl) (by kernel_rfl) (by kernel_rfl) (fun _ _ _ d _ h => by cases d <;> exact h) ?_ (fun hHeld => ?_)
          · exact ⟨by simpa using h51, by simpa using h52⟩
          refine Reg.G_on (o := { dst := some 36, op := Op.move (Operand.tmp 8), type := 56, pos := "law.go:46", after := #[], guard := Option.none }) (v := ?_) (by rfl) ?_ (fun wS hSw => ?_) ?_
          rotate_left
          · kernel_rfl
          · (try dsimp only at hSw); go_simp; (try with_reducible rfl)
          try simp only [Act.put, List.setIfInBounds_toArray, List.set_cons_zero, List.set_cons_succ]
          refine Reg.G_on (o := { dst := some 37, op := Op.move (Operand.tmp 1), type := 51, pos := "law.go:46", after := #[], guard := Option.none }) (v := ?_) (by rfl) ?_ (fun wS hSw => ?_) ?_
          rotate_left
          · kernel_rfl
          · (try dsimp only at hSw); go_simp; (try with_reducible rfl)
          try simp only [Act.put, List.setIfInBounds_toArray, List.set_cons_zero, List.set_cons_succ]
          refine Reg.G_on (o := { dst := some 38, op := Op.move (Operand.tmp 9), type := 3, pos := "law.go:46", after := #[], guard := Option.none }) (v := ?_) (by rfl) ?_ (fun wS hSw => ?_) ?_
          rotate_left
          · kernel_rfl
          · (try dsimp only at hSw); go_simp; (try with_reducible rfl)
          try simp only [Act.put, List.setIfInBounds_toArray, List.set_cons_zero, List.set_cons_succ]
          refine Reg.G_on (o := { dst := some 39, op := Op.indexAddr 51 (Operand.tmp 37) (Operand.tmp 38), type := 0, pos := "law.go:46", after := #[{ on := 1, ground := Ground.data }, { on := 2, ground := Ground.data }], guard := Option.none }) (v := ?_) (by rfl) ?_ (fun wS hSw => ?_) ?_
          rotate_left
          · kernel_rfl
          · (try dsimp only at hSw); go_simp; (try with_reducible rfl)
          try simp only [Act.put, List.setIfInBounds_toArray, List.set_cons_zero, List.set_cons_succ]
          refine Reg.G_on (o := { dst := some 40, op := Op.fieldAddr 62 (Operand.tmp 39) 2, type := 0, pos := "law.go:46", after := #[{ on := 3, ground := Ground.data }], guard := Option.none }) (v := ?_) (by rfl) ?_ (fun wS hSw => ?_) ?_
          rotate_left
          · kernel_rfl
          · (try dsimp only at hSw); go_simp; (try with_reducible rfl)
          try simp only [Act.put, List.setIfInBounds_toArray, List.set_cons_zero, List.set_cons_succ]
          refine Reg.G_on (o := { dst := some 41, op := Op.load 58 (Operand.tmp 40), type := 58, pos := "law.go:46", after := #[{ on := 4, ground := Ground.data }], guard := Option.none }) (v := ?_) (by rfl) ?_ (fun wS hSw => ?_) ?_
          rotate_left
          · kernel_rfl
          · (try dsimp only at hSw); go_simp; (try with_reducible rfl)
          try simp only [Act.put, List.setIfInBounds_toArray, List.set_cons_zero, List.set_cons_succ]
          refine Reg.G_on (o := { dst := some 42, op := Op.move (Operand.tmp 1), type := 51, pos := "law.go:46", after := #[], guard := Option.none }) (v := ?_) (by rfl) ?_ (fun wS hSw => ?_) ?_
          rotate_left
          · kernel_rfl
          · (try dsimp only at hSw); go_simp; (try with_reducible rfl)
          try simp only [Act.put, List.setIfInBounds_toArray, List.set_cons_zero, List.set_cons_succ]
          refine Reg.G_on (o := { dst := some 43, op := Op.move (Operand.tmp 9), type := 3, pos := "law.go:46", after := #[], guard := Option.none }) (v := ?_) (by rfl) ?_ (fun wS hSw => ?_) ?_
          rotate_left
          · kernel_rfl
          · (try dsimp only at hSw); go_simp; (try with_reducible rfl)
          try simp only [Act.put, List.setIfInBounds_toArray, List.set_cons_zero, List.set_cons_succ]
          refine Reg.G_on (o := { dst := some 44, op := Op.indexAddr 51 (Operand.tmp 42) (Operand.tmp 43), type := 0, pos := "law.go:46", after := #[{ on := 6, ground := Ground.data }, { on := 7, ground := Ground.data }], guard := Option.none }) (v := ?_) (by rfl) ?_ (fun wS hSw => ?_) ?_
          rotate_left
          · kernel_rfl
          · (try dsimp only at hSw); go_simp; (try with_reducible rfl)
          try simp only [Act.put, List.setIfInBounds_toArray, List.set_cons_zero, List.set_cons_succ]
          refine Reg.G_on (o := { dst := some 45, op := Op.fieldAddr 62 (Operand.tmp 44) 3, type := 0, pos := "law.go:46", after := #[{ on := 8, ground := Ground.data }], guard := Option.none }) (v := ?_) (by rfl) ?_ (fun wS hSw => ?_) ?_
          rotate_left
          · kernel_rfl
          · (try dsimp only at hSw); go_simp; (try with_reducible rfl)
          try simp only [Act.put, List.setIfInBounds_toArray, List.set_cons_zero, List.set_cons_succ]
          refine Reg.G_on (o := { dst := some 46, op := Op.load 3 (Operand.tmp 45), type := 3, pos := "law.go:46", after := #[{ on := 9, ground := Ground.data }], guard := Option.none }) (v := ?_) (by rfl) ?_ (fun wS hSw => ?_) ?_
          rotate_left
          · kernel_rfl
          · (try dsimp only at hSw); go_simp; (try with_reducible rfl)
          try simp only [Act.put, List.setIfInBounds_toArray, List.set_cons_zero, List.set_cons_succ]
          refine Reg.G_step (o := { dst := some 47, op := Op.call { callee := Callee.value (Operand.func 32), args := #[Operand.tmp 36, Operand.tmp 41, Operand.tmp 46], argTypes := #[56, 58, 3] }, type := 56, pos := "law.go:46", after := #[{ on := 0, ground := Ground.data }, { on := 5, ground := Ground.data }, { on := 10, ground := Ground.data }], guard := Option.none }) (by rfl) ?_ (fun K hK => ?_)
          · kernel_rfl
          go_simp
          refine (C2).mono ?_
          rintro e w' ⟨v6, rfl, r6, b6⟩
          refine hK.out _ _ ?_ (fun hHeld => ?_)
          · exact ⟨cbel b6 (by simpa using h51) hsl5, cbel b6 (by simpa using h52) hsl5⟩
          clear hK K
          try simp only [Act.put, List.setIfInBounds_toArray, List.set_cons_zero, List.set_cons_succ]
          rename World => w6
          have r6 := oth_new (F := F5) (w := w5.drew) h5.old hbw5 b6 (r6.mono (fun k hk => .inr hk))
          have h6 := h5.below (w' := w6) (bstep (below_drew (Below.refl _ _)) b6)
          have bb6 : Below b w2 w6 := bb5.trans ((bstep (below_drew (Below.refl w5.heap.size w5)) b6).mono (Nat.le_of_lt hbw5))
          clear C2 r5 h5 bb5 b6 h50 h51 h52
          refine Reg.G_on (o := { dst := some 8, op := Op.assign (Operand.tmp 47), type := 56, pos := "law.go:46", after := #[{ on := 11, ground := Ground.data }, { on := 11, ground := Ground.chain }, { on := 0, ground := Ground.phase }, { on := 1, ground := Ground.phase }, { on := 2, ground := Ground.phase }, { on := 3, ground := Ground.phase }, { on := 4, ground := Ground.phase }, { on := 5, ground := Ground.phase }, { on := 6, ground := Ground.phase }, { on := 7, ground := Ground.phase }, { on := 8, ground := Ground.phase }, { on := 9, ground := Ground.phase }, { on := 10, ground := Ground.phase }, { on := 11, ground := Ground.phase }], guard := Option.none }) (v := ?_) (by rfl) ?_ (fun wS hSw => ?_) ?_
          rotate_left
          · kernel_rfl
          · (try dsimp only at hSw); go_simp; (try with_reducible rfl)
          try simp only [Act.put, List.setIfInBounds_toArray, List.set_cons_zero, List.set_cons_succ]
          refine Reg.G_done ?_
          clear hHeld
          go_wp2_with fail
          obtain ⟨A8, c8, rfl, hle8, hA8⟩ := r6.slice
          clear hle8 hA8
          have HS6 := Lib.hid (h6.below (w' := w6.drew) (below_drew (Below.refl _ _)))
          have HR6 := Lib.hid r6.drew
          have HB6 : Hid (Below b w2 w6.drew) := Lib.hid (bb6.trans ((below_drew (Below.refl w6.heap.size w6)).mono (Nat.le_of_lt h6.lt)))
          have ky6 : w6.drew.rangeAt (w.heap.size + 1) 0 (nums .u8 key) := fun j v hj => cbel HB6.out (ky j v hj) hbW.out
          have hbw6 : b < w6.drew.heap.size := h6.lt
          have hy6 : w.heap.size + 1 < w6.drew.heap.size := by have := hbW.out; omega
          have C1 := all HS6.out hlen6.out
          clear h6 r6 bb6
          refine Reg.wp_plan (S := fun w' => w'.rangeAt (w.heap.size + 1) 0 (nums .u8 key)) 21 (.fl 0 (.fl 2 (.one 1 (.one 3 (.fl 4 (.fl 5 (.fl 6 (.fl 8 (.fl 9 (.one 7 (.fl 10 (.fl 11 (.fl 12 (.fl 13 (.fl 14 (.fl 16 (.fl 17 (.one 15 (.one 18 (.fl 19 (.fl 20 .done))))))))))))))))))))) (by kernel_rfl) (by kernel_rfl) (by kernel_rfl) (by kernel_rfl) (fun _ _ _ d _ h => by cases d <;> exact h) ?_ (fun hHeld => ?_)
          · exact ky6
          refine Reg.G_on (o := { dst := some 59, op := Op.move (Operand.tmp 7), type := 54, pos := "law.go:50", after := #[], guard := Option.none }) (v := ?_) (by rfl) ?_ (fun wS hSw => ?_) ?_
          rotate_left
          · kernel_rfl
          · (try dsimp only at hSw); go_simp; (try with_reducible rfl)
          try simp only [Act.put, List.setIfInBounds_toArray, List.set_cons_zero, List.set_cons_succ]
          refine Reg.G_on (o := { dst := some 61, op := Op.move (Operand.tmp 8), type := 56, pos := "law.go:50", after := #[], guard := Option.none }) (v := ?_) (by rfl) ?_ (fun wS hSw => ?_) ?_
          rotate_left
          · kernel_rfl
          · (try dsimp only at hSw); go_simp; (try with_reducible rfl)
          try simp only [Act.put, List.setIfInBounds_toArray, List.set_cons_zero, List.set_cons_succ]
          refine Reg.G_step (o := { dst := some 60, op := Op.call { callee := Callee.value (Operand.func 35), args := #[Operand.tmp 59], argTypes := #[54] }, type := 56, pos := "law.go:50", after := #[{ on := 0, ground := Ground.data }], guard := Option.none }) (by rfl) ?_ (fun K hK => ?_)
          · kernel_rfl
          go_simp
          refine (C1).mono ?_
          rintro e w' ⟨v7, rfl, r7, b7⟩
          refine hK.out _ _ ?_ (fun hHeld => ?_)
          · exact range_below ky6 b7 hy6
          clear hK K
          try simp only [Act.put, List.setIfInBounds_toArray, List.set_cons_zero, List.set_cons_succ]
          rename World => w7
          have C2 := rsame r7 (HR6.out.below (w' := w7) b7)
          rw [decide_eq_true rfl] at C2
          obtain ⟨A7, c7, rfl, hle7, hA7⟩ := r7.slice
          clear hle7 hA7
          skip
          refine Reg.G_step (o := { dst := some 62, op := Op.call { callee := Callee.value (Operand.func 34), args := #[Operand.tmp 60, Operand.tmp 61], argTypes := #[56, 56] }, type := 4, pos := "law.go:50", after := #[{ on := 1, ground := Ground.data }, { on := 2, ground := Ground.data }, { on := 1, ground := Ground.chain }], guard := Option.none }) (by rfl) ?_ (fun K hK => ?_)
          · kernel_rfl
          go_simp
          refine (C2).mono ?_
          rintro e w' ⟨rfl, b8⟩
          refine hK.out _ _ ?_ (fun hHeld => ?_)
          · exact range_below ky6 (bstep (a := w6.drew) b7 b8) hy6
          clear hK K
          try simp only [Act.put, List.setIfInBounds_toArray, List.set_cons_zero, List.set_cons_succ]
          rename World => w8
          have B8 := bstep (a := w6.drew) b7 b8
          clear C1 C2 b7 b8 r7
          have C3 := len (HS6.out.below (w' := w8) B8)
          refine Reg.G_on (o := { dst := some 63, op := Op.unOp UnOp.not 4 (Operand.tmp 62), type := 4, pos := "law.go:50", after := #[{ on := 3, ground := Ground.data }], guard := Option.none }) (v := ?_) (by rfl) ?_ (fun wS hSw => ?_) ?_
          rotate_left
          · kernel_rfl
          · (try dsimp only at hSw); go_simp; (try with_reducible rfl)
          try simp only [Act.put, List.setIfInBounds_toArray, List.set_cons_zero, List.set_cons_succ]
          refine Reg.G_on (o := { dst := some 64, op := Op.move (Operand.tmp 63), type := 4, pos := "law.go:50", after := #[{ on := 4, ground := Ground.data }, { on := 3, ground := Ground.chain }], guard := Option.none }) (v := ?_) (by rfl) ?_ (fun wS hSw => ?_) ?_
          rotate_left
          · kernel_rfl
          · (try dsimp only at hSw); go_simp; (try with_reducible rfl)
          try simp only [Act.put, List.setIfInBounds_toArray, List.set_cons_zero, List.set_cons_succ]
          refine Reg.G_on (o := { dst := some 65, op := Op.move (Operand.tmp 7), type := 54, pos := "law.go:50", after := #[{ on := 5, ground := Ground.guard }], guard := some (5, false) }) (v := ?_) (by rfl) ?_ (fun wS hSw => ?_) ?_
          rotate_left
          · kernel_rfl
          · (try dsimp only at hSw); go_simp; (try with_reducible rfl)
          try simp only [Act.put, List.setIfInBounds_toArray, List.set_cons_zero, List.set_cons_succ]
          refine Reg.G_on (o := { dst := some 67, op := Op.move (Operand.tmp 8), type := 56, pos := "law.go:50", after := #[{ on := 5, ground := Ground.guard }], guard := some (5, false) }) (v := ?_) (by rfl) ?_ (fun wS hSw => ?_) ?_
          rotate_left
          · kernel_rfl
          · (try dsimp only at hSw); go_simp; (try with_reducible rfl)
          try simp only [Act.put, List.setIfInBounds_toArray, List.set_cons_zero, List.set_cons_succ]
          refine Reg.G_on (o := { dst := some 68, op := Op.call { callee := Callee.builtin Builtin.len, args := #[Operand.tmp 67], argTypes := #[56] }, type := 3, pos := "law.go:50", after := #[{ on := 8, ground := Ground.data }, { on := 5, ground := Ground.guard }], guard := some (5, false) }) (v := ?_) (by rfl) ?_ (fun wS hSw => ?_) ?_
          rotate_left
          · kernel_rfl
          · (try dsimp only at hSw); go_simp; (try with_reducible rfl)
          try simp only [Act.put, List.setIfInBounds_toArray, List.set_cons_zero, List.set_cons_succ]
          refine Reg.G_step (o := { dst := some 66, op := Op.call { callee := Callee.value (Operand.func 36), args := #[Operand.tmp 65], argTypes := #[54] }, type := 3, pos := "law.go:50", after := #[{ on := 6, ground := Ground.data }, { on := 5, ground := Ground.chain }, { on := 5, ground := Ground.guard }], guard := some (5, false) }) (by rfl) ?_ (fun K hK => ?_)
          · kernel_rfl
          go_simp
          refine (C3).mono ?_
          rintro e w' ⟨rfl, rfl⟩
          refine hK.out _ _ ?_ (fun hHeld => ?_)
          · exact range_below ky6 B8 hy6
          clear hK K
          try simp only [Act.put, List.setIfInBounds_toArray, List.set_cons_zero, List.set_cons_succ]
          have C4 := of (HS6.out.below (w' := w8) B8) hlen6.out key HK.out
          refine Reg.G_on (o := { dst := some 69, op := Op.binOp BinOp.neq 3 (Operand.tmp 66) (Operand.tmp 68) 3, type := 4, pos := "law.go:50", after := #[{ on := 7, ground := Ground.data }, { on := 9, ground := Ground.data }, { on := 5, ground := Ground.guard }], guard := some (5, false) }) (v := ?_) (by rfl) ?_ (fun wS hSw => ?_) ?_
          rotate_left
          · kernel_rfl
          · (try dsimp only at hSw); go_simp; (try with_reducible rfl)
          try simp only [Act.put, List.setIfInBounds_toArray, List.set_cons_zero, List.set_cons_succ]
          refine Reg.G_on (o := { dst := some 70, op := Op.pick (Operand.tmp 64) (Operand.const (Value.bool true)) (Operand.tmp 69), type := 4, pos := "law.go:50", after := #[{ on := 5, ground := Ground.data }, { on := 10, ground := Ground.data }], guard := Option.none }) (v := ?_) (by rfl) ?_ (fun wS hSw => ?_) ?_
          rotate_left
          · kernel_rfl
          · (try dsimp only at hSw); go_simp; (try with_reducible rfl)
          try simp only [Act.put, List.setIfInBounds_toArray, List.set_cons_zero, List.set_cons_succ]
          refine Reg.G_on (o := { dst := some 71, op := Op.move (Operand.tmp 70), type := 4, pos := "law.go:50", after := #[{ on := 11, ground := Ground.data }, { on := 7, ground := Ground.chain }], guard := Option.none }) (v := ?_) (by rfl) ?_ (fun wS hSw => ?_) ?_
          rotate_left
          · kernel_rfl
          · (try dsimp only at hSw); go_simp; (try with_reducible rfl)
          try simp only [Act.put, List.setIfInBounds_toArray, List.set_cons_zero, List.set_cons_succ]
          refine Reg.G_on (o := { dst := some 72, op := Op.move (Operand.tmp 7), type := 54, pos := "law.go:50", after := #[{ on := 12, ground := Ground.guard }], guard := some (12, false) }) (v := ?_) (by rfl) ?_ (fun wS hSw => ?_) ?_
          rotate_left
          · kernel_rfl
          · (try dsimp only at hSw); go_simp; (try with_reducible rfl)
          try simp only [Act.put, List.setIfInBounds_toArray, List.set_cons_zero, List.set_cons_succ]
          refine Reg.G_on (o := { dst := some 73, op := Op.load 53 (Operand.tmp 5), type := 53, pos := "law.go:50", after := #[{ on := 12, ground := Ground.guard }], guard := some (12, false) }) (v := .agg (nums .u8 key).toArray) (by rfl) ?_ (fun wS hSw => ?_) ?_
          · kernel_rfl
          · exact load_yields rfl rfl hSw Try.underlying53 rfl (key17 _ HK.out.1)
          try simp only [Act.put, List.setIfInBounds_toArray, List.set_cons_zero, List.set_cons_succ]
          refine Reg.G_on (o := { dst := some 75, op := Op.move (Operand.tmp 8), type := 56, pos := "law.go:50", after := #[{ on := 12, ground := Ground.guard }], guard := some (12, false) }) (v := ?_) (by rfl) ?_ (fun wS hSw => ?_) ?_
          rotate_left
          · kernel_rfl
          · (try dsimp only at hSw); go_simp; (try with_reducible rfl)
          try simp only [Act.put, List.setIfInBounds_toArray, List.set_cons_zero, List.set_cons_succ]
          refine Reg.G_on (o := { dst := some 76, op := Op.load 53 (Operand.tmp 5), type := 53, pos := "law.go:50", after := #[{ on := 12, ground := Ground.guard }], guard := some (12, false) }) (v := .agg (nums .u8 key).toArray) (by rfl) ?_ (fun wS hSw => ?_) ?_
          · kernel_rfl
          · exact load_yields rfl rfl hSw Try.underlying53 rfl (key17 _ HK.out.1)
          try simp only [Act.put, List.setIfInBounds_toArray, List.set_cons_zero, List.set_cons_succ]
          refine Reg.G_step (o := { dst := some 74, op := Op.call { callee := Callee.value (Operand.func 37), args := #[Operand.tmp 72, Operand.tmp 73], argTypes := #[54, 53] }, type := 3, pos := "law.go:50", after := #[{ on := 13, ground := Ground.data }, { on := 14, ground := Ground.data }, { on := 12, ground := Ground.chain }, { on := 12, ground := Ground.guard }], guard := some (12, false) }) (by rfl) ?_ (fun K hK => ?_)
          · kernel_rfl
          go_simp
          refine (C4).mono ?_
          rintro e w' ⟨rfl, b9⟩
          refine hK.out _ _ ?_ (fun hHeld => ?_)
          · exact range_below ky6 (bstep (a := w6.drew) B8 b9) hy6
          clear hK K
          try simp only [Act.put, List.setIfInBounds_toArray, List.set_cons_zero, List.set_cons_succ]
          rename World => w9
          have B9 := bstep (a := w6.drew) B8 b9
          have C5 := rof (HR6.out.below (w' := w9) B9) key HK.out
          skip
          refine Reg.G_step (o := { dst := some 77, op := Op.call { callee := Callee.value (Operand.func 38), args := #[Operand.tmp 75, Operand.tmp 76], argTypes := #[56, 53] }, type := 3, pos := "law.go:50", after := #[{ on := 16, ground := Ground.data }, { on := 17, ground := Ground.data }, { on := 15, ground := Ground.chain }, { on := 12, ground := Ground.guard }], guard := some (12, false) }) (by rfl) ?_ (fun K hK => ?_)
          · kernel_rfl
          go_simp
          refine (C5).mono ?_
          rintro e w' ⟨rfl, b10⟩
          refine hK.out _ _ ?_ (fun hHeld => ?_)
          · exact range_below ky6 (bstep (a := w6.drew) B9 b10) hy6
          clear hK K
          try simp only [Act.put, List.setIfInBounds_toArray, List.set_cons_zero, List.set_cons_succ]
          rename World => w10
          have B10 := bstep (a := w6.drew) B9 b10
          clear B8 B9 b9 b10 C3 C4 C5
          refine Reg.G_on (o := { dst := some 78, op := Op.binOp BinOp.neq 3 (Operand.tmp 74) (Operand.tmp 77) 3, type := 4, pos := "law.go:50", after := #[{ on := 15, ground := Ground.data }, { on := 18, ground := Ground.data }, { on := 12, ground := Ground.guard }], guard := some (12, false) }) (v := ?_) (by rfl) ?_ (fun wS hSw => ?_) ?_
          rotate_left
          · kernel_rfl
          · (try dsimp only at hSw); go_simp; (try with_reducible rfl)
          try simp only [Act.put, List.setIfInBounds_toArray, List.set_cons_zero, List.set_cons_succ]
          refine Reg.G_on (o := { dst := some 79, op := Op.pick (Operand.tmp 71) (Operand.const (Value.bool true)) (Operand.tmp 78), type := 4, pos := "law.go:50", after := #[{ on := 12, ground := Ground.data }, { on := 19, ground := Ground.data }], guard := Option.none }) (v := ?_) (by rfl) ?_ (fun wS hSw => ?_) ?_
          rotate_left
          · kernel_rfl
          · (try dsimp only at hSw); go_simp; (try with_reducible rfl)
          try simp only [Act.put, List.setIfInBounds_toArray, List.set_cons_zero, List.set_cons_succ]
          refine Reg.G_done ?_
          clear hHeld
          go_wp2
          rw [show (i : Int) + 1 = ((i + 1 : Nat) : Int) from rfl]
          refine ⟨⟨i + 1, F5, rfl, hlt2.out, by rw [hst2.out]; exact (HR6.out.below (w' := w10) B10).mono (fun k hk => ⟨hk.1, hk.2.1, Nat.lt_of_lt_of_le hk.2.2 B10.size⟩), by rw [hst2.out]; exact HS6.out.below (w' := w10) B10, hF5.out, HB6.out.trans (B10.mono (Nat.le_of_lt hbw6))⟩, meas _ _ hlt2.out⟩
        | false =>
          rw [hag] at h50
          rw [hag, if_neg (by decide)] at h5 hst2 hlen6
          have C2 := rput (r5.drew) ka kb x.s hxl.out
          generalize hput (mx0 ka) (mx0 kb) xs x.s = ys at *
          generalize x.s = sm at *
          clear h51 h52 hn hag
          go_wp2_with fail
          refine Reg.wp_plan (S := fun w' => w'.cell? ⟨w.heap.size, 0, none⟩ = some (.int .i64 ka) ∧ w'.cell? ⟨w.heap.size, 1, none⟩ = some (.int .i64 kb) ∧ w'.rangeAt (ad.add (i * 26)).block ((ad.add (i * 26)).off + 1) (cells sm)) 12 (.fl 0 (.fl 1 (.fl 2 (.fl 3 (.fl 4 (.fl 5 (.fl 6 (.fl 7 (.fl 8 (.fl 9 (.one 10 (.fl 11 .done)))))))))))) (by kernel_rfl) (by kernel_rfl) (by kernel_rfl) (by kernel_rfl) (fun _ _ _ d _ h => by cases d <;> exact h) ?_ (fun hHeld => ?_)
          · exact ⟨by simpa using c50, by simpa using c51, h53⟩
          refine Reg.G_on (o := { dst := some 48, op := Op.move (Operand.tmp 8), type := 56, pos := "law.go:48", after := #[], guard := Option.none }) (v := ?_) (by rfl) ?_ (fun wS hSw => ?_) ?_
          rotate_left
          · kernel_rfl
          · (try dsimp only at hSw); go_simp; (try with_reducible rfl)
          try simp only [Act.put, List.setIfInBounds_toArray, List.set_cons_zero, List.set_cons_succ]
          refine Reg.G_on (o := { dst := some 49, op := Op.indexAddr 50 (Operand.tmp 3) (Operand.const (Value.int IntKind.i64 0)), type := 0, pos := "law.go:48", after := #[], guard := Option.none }) (v := ?_) (by rfl) ?_ (fun wS hSw => ?_) ?_
          rotate_left
          · kernel_rfl
          · (try dsimp only at hSw); go_simp; (try with_reducible rfl)
          try simp only [Act.put, List.setIfInBounds_toArray, List.set_cons_zero, List.set_cons_succ]
          refine Reg.G_on (o := { dst := some 50, op := Op.load 3 (Operand.tmp 49), type := 3, pos := "law.go:48", after := #[{ on := 1, ground := Ground.data }], guard := Option.none }) (v := ?_) (by rfl) ?_ (fun wS hSw => ?_) ?_
          rotate_left
          · kernel_rfl
          · (try dsimp only at hSw); go_simp; (try with_reducible rfl)
          try simp only [Act.put, List.setIfInBounds_toArray, List.set_cons_zero, List.set_cons_succ]
          refine Reg.G_on (o := { dst := some 51, op := Op.indexAddr 50 (Operand.tmp 3) (Operand.const (Value.int IntKind.i64 1)), type := 0, pos := "law.go:48", after := #[], guard := Option.none }) (v := ?_) (by rfl) ?_ (fun wS hSw => ?_) ?_
          rotate_left
          · kernel_rfl
          · (try dsimp only at hSw); go_simp; (try with_reducible rfl)
          try simp only [Act.put, List.setIfInBounds_toArray, List.set_cons_zero, List.set_cons_succ]
          refine Reg.G_on (o := { dst := some 52, op := Op.load 3 (Operand.tmp 51), type := 3, pos := "law.go:48", after := #[{ on := 3, ground := Ground.data }], guard := Option.none }) (v := ?_) (by rfl) ?_ (fun wS hSw => ?_) ?_
          rotate_left
          · kernel_rfl
          · (try dsimp only at hSw); go_simp; (try with_reducible rfl)
          try simp only [Act.put, List.setIfInBounds_toArray, List.set_cons_zero, List.set_cons_succ]
          refine Reg.G_on (o := { dst := some 53, op := Op.move (Operand.tmp 1), type := 51, pos := "law.go:48", after := #[], guard := Option.none }) (v := ?_) (by rfl) ?_ (fun wS hSw => ?_) ?_
          rotate_left
          · kernel_rfl
          · (try dsimp only at hSw); go_simp; (try with_reducible rfl)
          try simp only [Act.put, List.setIfInBounds_toArray, List.set_cons_zero, List.set_cons_succ]
          refine Reg.G_on (o := { dst := some 54, op := Op.move (Operand.tmp 9), type := 3, pos := "law.go:48", after := #[], guard := Option.none }) (v := ?_) (by rfl) ?_ (fun wS hSw => ?_) ?_
          rotate_left
          · kernel_rfl
          · (try dsimp only at hSw); go_simp; (try with_reducible rfl)
          try simp only [Act.put, List.setIfInBounds_toArray, List.set_cons_zero, List.set_cons_succ]
          refine Reg.G_on (o := { dst := some 55, op := Op.indexAddr 51 (Operand.tmp 53) (Operand.tmp 54), type := 0, pos := "law.go:48", after := #[{ on := 5, ground := Ground.data }, { on := 6, ground := Ground.data }], guard := Option.none }) (v := ?_) (by rfl) ?_ (fun wS hSw => ?_) ?_
          rotate_left
          · kernel_rfl
          · (try dsimp only at hSw); go_simp; (try with_reducible rfl)
          try simp only [Act.put, List.setIfInBounds_toArray, List.set_cons_zero, List.set_cons_succ]
          refine Reg.G_on (o := { dst := some 56, op := Op.fieldAddr 62 (Operand.tmp 55) 1, type := 0, pos := "law.go:48", after := #[{ on := 7, ground := Ground.data }], guard := Option.none }) (v := ?_) (by rfl) ?_ (fun wS hSw => ?_) ?_
          rotate_left
          · kernel_rfl
          · (try dsimp only at hSw); go_simp; (try with_reducible rfl)
          try simp only [Act.put, List.setIfInBounds_toArray, List.set_cons_zero, List.set_cons_succ]
          refine Reg.G_on (o := { dst := some 57, op := Op.load 60 (Operand.tmp 56), type := 60, pos := "law.go:48", after := #[{ on := 8, ground := Ground.data }], guard := Option.none }) (v := .agg (cells sm).toArray) (by rfl) ?_ (fun wS hSw => ?_) ?_
          · kernel_rfl
          · exact load_yields rfl rfl hSw.2.2 Try.underlying60 rfl (size23 sm)
          try simp only [Act.put, List.setIfInBounds_toArray, List.set_cons_zero, List.set_cons_succ]
          refine Reg.G_step (o := { dst := some 58, op := Op.call { callee := Callee.value (Operand.func 33), args := #[Operand.tmp 48, Operand.tmp 50, Operand.tmp 52, Operand.tmp 57], argTypes := #[56, 3, 3, 60] }, type := 56, pos := "law.go:48", after := #[{ on := 0, ground := Ground.data }, { on := 2, ground := Ground.data }, { on := 4, ground := Ground.data }, { on := 9, ground := Ground.data }], guard := Option.none }) (by rfl) ?_ (fun K hK => ?_)
          · kernel_rfl
          go_simp
          refine (C2).mono ?_
          rintro e w' ⟨v6, rfl, r6, b6⟩
          refine hK.out _ _ ?_ (fun hHeld => ?_)
          · exact ⟨cbel b6 (by simpa using c50) hwb5, cbel b6 (by simpa using c51) hwb5, range_below (w := w5.drew) h53 b6 hsl5⟩
          clear hK K
          try simp only [Act.put, List.setIfInBounds_toArray, List.set_cons_zero, List.set_cons_succ]
          rename World => w6
          have r6 := oth_new (F := F5) (w := w5.drew) h5.old hbw5 b6 r6
          have h6 := h5.below (w' := w6) (bstep (below_drew (Below.refl _ _)) b6)
          have bb6 : Below b w2 w6 := bb5.trans ((bstep (below_drew (Below.refl w5.heap.size w5)) b6).mono (Nat.le_of_lt hbw5))
          clear C2 r5 h5 bb5 b6 h50 h53 c50 c51
          refine Reg.G_on (o := { dst := some 8, op := Op.assign (Operand.tmp 58), type := 56, pos := "law.go:48", after := #[{ on := 10, ground := Ground.data }, { on := 10, ground := Ground.chain }, { on := 0, ground := Ground.phase }, { on := 1, ground := Ground.phase }, { on := 2, ground := Ground.phase }, { on := 3, ground := Ground.phase }, { on := 4, ground := Ground.phase }, { on := 5, ground := Ground.phase }, { on := 6, ground := Ground.phase }, { on := 7, ground := Ground.phase }, { on := 8, ground := Ground.phase }, { on := 9, ground := Ground.phase }, { on := 10, ground := Ground.phase }], guard := Option.none }) (v := ?_) (by rfl) ?_ (fun wS hSw => ?_) ?_
          rotate_left
          · kernel_rfl
          · (try dsimp only at hSw); go_simp; (try with_reducible rfl)
          try simp only [Act.put, List.setIfInBounds_toArray, List.set_cons_zero, List.set_cons_succ]
          refine Reg.G_done ?_
          clear hHeld
          go_wp2_with fail
          obtain ⟨A8, c8, rfl, hle8, hA8⟩ := r6.slice
          clear hle8 hA8
          have HS6 := Lib.hid (h6.below (w' := w6.drew) (below_drew (Below.refl _ _)))
          have HR6 := Lib.hid r6.drew
          have HB6 : Hid (Below b w2 w6.drew) := Lib.hid (bb6.trans ((below_drew (Below.refl w6.heap.size w6)).mono (Nat.le_of_lt h6.lt)))
          have ky6 : w6.drew.rangeAt (w.heap.size + 1) 0 (nums .u8 key) := fun j v hj => cbel HB6.out (ky j v hj) hbW.out
          have hbw6 : b < w6.drew.heap.size := h6.lt
          have hy6 : w.heap.size + 1 < w6.drew.heap.size := by have := hbW.out; omega
          have C1 := all HS6.out hlen6.out
          clear h6 r6 bb6
          refine Reg.wp_plan (S := fun w' => w'.rangeAt (w.heap.size + 1) 0 (nums .u8 key)) 21 (.fl 0 (.fl 2 (.one 1 (.one 3 (.fl 4 (.fl 5 (.fl 6 (.fl 8 (.fl 9 (.one 7 (.fl 10 (.fl 11 (.fl 12 (.fl 13 (.fl 14 (.fl 16 (.fl 17 (.one 15 (.one 18 (.fl 19 (.fl 20 .done))))))))))))))))))))) (by kernel_rfl) (by kernel_rfl) (by kernel_rfl) (by kernel_rfl) (fun _ _ _ d _ h => by cases d <;> exact h) ?_ (fun hHeld => ?_)
          · exact ky6
          refine Reg.G_on (o := { dst := some 59, op := Op.move (Operand.tmp 7), type := 54, pos := "law.go:50", after := #[], guard := Option.none }) (v := ?_) (by rfl) ?_ (fun wS hSw => ?_) ?_
          rotate_left
          · kernel_rfl
          · (try dsimp only at hSw); go_simp; (try with_reducible rfl)
          try simp only [Act.put, List.setIfInBounds_toArray, List.set_cons_zero, List.set_cons_succ]
          refine Reg.G_on (o := { dst := some 61, op := Op.move (Operand.tmp 8), type := 56, pos := "law.go:50", after := #[], guard := Option.none }) (v := ?_) (by rfl) ?_ (fun wS hSw => ?_) ?_
          rotate_left
          · kernel_rfl
          · (try dsimp only at hSw); go_simp; (try with_reducible rfl)
          try simp only [Act.put, List.setIfInBounds_toArray, List.set_cons_zero, List.set_cons_succ]
          refine Reg.G_step (o := { dst := some 60, op := Op.call { callee := Callee.value (Operand.func 35), args := #[Operand.tmp 59], argTypes := #[54] }, type := 56, pos := "law.go:50", after := #[{ on := 0, ground := Ground.data }], guard := Option.none }) (by rfl) ?_ (fun K hK => ?_)
          · kernel_rfl
          go_simp
          refine (C1).mono ?_
          rintro e w' ⟨v7, rfl, r7, b7⟩
          refine hK.out _ _ ?_ (fun hHeld => ?_)
          · exact range_below ky6 b7 hy6
          clear hK K
          try simp only [Act.put, List.setIfInBounds_toArray, List.set_cons_zero, List.set_cons_succ]
          rename World => w7
          have C2 := rsame r7 (HR6.out.below (w' := w7) b7)
          rw [decide_eq_true rfl] at C2
          obtain ⟨A7, c7, rfl, hle7, hA7⟩ := r7.slice
          clear hle7 hA7
          skip
          refine Reg.G_step (o := { dst := some 62, op := Op.call { callee := Callee.value (Operand.func 34), args := #[Operand.tmp 60, Operand.tmp 61], argTypes := #[56, 56] }, type := 4, pos := "law.go:50", after := #[{ on := 1, ground := Ground.data }, { on := 2, ground := Ground.data }, { on := 1, ground := Ground.chain }], guard := Option.none }) (by rfl) ?_ (fun K hK => ?_)
          · kernel_rfl
          go_simp
          refine (C2).mono ?_
          rintro e w' ⟨rfl, b8⟩
          refine hK.out _ _ ?_ (fun hHeld => ?_)
          · exact range_below ky6 (bstep (a := w6.drew) b7 b8) hy6
          clear hK K
          try simp only [Act.put, List.setIfInBounds_toArray, List.set_cons_zero, List.set_cons_succ]
          rename World => w8
          have B8 := bstep (a := w6.drew) b7 b8
          clear C1 C2 b7 b8 r7
          have C3 := len (HS6.out.below (w' := w8) B8)
          refine Reg.G_on (o := { dst := some 63, op := Op.unOp UnOp.not 4 (Operand.tmp 62), type := 4, pos := "law.go:50", after := #[{ on := 3, ground := Ground.data }], guard := Option.none }) (v := ?_) (by rfl) ?_ (fun wS hSw => ?_) ?_
          rotate_left
          · kernel_rfl
          · (try dsimp only at hSw); go_simp; (try with_reducible rfl)
          try simp only [Act.put, List.setIfInBounds_toArray, List.set_cons_zero, List.set_cons_succ]
          refine Reg.G_on (o := { dst := some 64, op := Op.move (Operand.tmp 63), type := 4, pos := "law.go:50", after := #[{ on := 4, ground := Ground.data }, { on := 3, ground := Ground.chain }], guard := Option.none }) (v := ?_) (by rfl) ?_ (fun wS hSw => ?_) ?_
          rotate_left
          · kernel_rfl
          · (try dsimp only at hSw); go_simp; (try with_reducible rfl)
          try simp only [Act.put, List.setIfInBounds_toArray, List.set_cons_zero, List.set_cons_succ]
          refine Reg.G_on (o := { dst := some 65, op := Op.move (Operand.tmp 7), type := 54, pos := "law.go:50", after := #[{ on := 5, ground := Ground.guard }], guard := some (5, false) }) (v := ?_) (by rfl) ?_ (fun wS hSw => ?_) ?_
          rotate_left
          · kernel_rfl
          · (try dsimp only at hSw); go_simp; (try with_reducible rfl)
          try simp only [Act.put, List.setIfInBounds_toArray, List.set_cons_zero, List.set_cons_succ]
          refine Reg.G_on (o := { dst := some 67, op := Op.move (Operand.tmp 8), type := 56, pos := "law.go:50", after := #[{ on := 5, ground := Ground.guard }], guard := some (5, false) }) (v := ?_) (by rfl) ?_ (fun wS hSw => ?_) ?_
          rotate_left
          · kernel_rfl
          · (try dsimp only at hSw); go_simp; (try with_reducible rfl)
          try simp only [Act.put, List.setIfInBounds_toArray, List.set_cons_zero, List.set_cons_succ]
          refine Reg.G_on (o := { dst := some 68, op := Op.call { callee := Callee.builtin Builtin.len, args := #[Operand.tmp 67], argTypes := #[56] }, type := 3, pos := "law.go:50", after := #[{ on := 8, ground := Ground.data }, { on := 5, ground := Ground.guard }], guard := some (5, false) }) (v := ?_) (by rfl) ?_ (fun wS hSw => ?_) ?_
          rotate_left
          · kernel_rfl
          · (try dsimp only at hSw); go_simp; (try with_reducible rfl)
          try simp only [Act.put, List.setIfInBounds_toArray, List.set_cons_zero, List.set_cons_succ]
          refine Reg.G_step (o := { dst := some 66, op := Op.call { callee := Callee.value (Operand.func 36), args := #[Operand.tmp 65], argTypes := #[54] }, type := 3, pos := "law.go:50", after := #[{ on := 6, ground := Ground.data }, { on := 5, ground := Ground.chain }, { on := 5, ground := Ground.guard }], guard := some (5, false) }) (by rfl) ?_ (fun K hK => ?_)
          · kernel_rfl
          go_simp
          refine (C3).mono ?_
          rintro e w' ⟨rfl, rfl⟩
          refine hK.out _ _ ?_ (fun hHeld => ?_)
          · exact range_below ky6 B8 hy6
          clear hK K
          try simp only [Act.put, List.setIfInBounds_toArray, List.set_cons_zero, List.set_cons_succ]
          have C4 := of (HS6.out.below (w' := w8) B8) hlen6.out key HK.out
          refine Reg.G_on (o := { dst := some 69, op := Op.binOp BinOp.neq 3 (Operand.tmp 66) (Operand.tmp 68) 3, type := 4, pos := "law.go:50", after := #[{ on := 7, ground := Ground.data }, { on := 9, ground := Ground.data }, { on := 5, ground := Ground.guard }], guard := some (5, false) }) (v := ?_) (by rfl) ?_ (fun wS hSw => ?_) ?_
          rotate_left
          · kernel_rfl
          · (try dsimp only at hSw); go_simp; (try with_reducible rfl)
          try simp only [Act.put, List.setIfInBounds_toArray, List.set_cons_zero, List.set_cons_succ]
          refine Reg.G_on (o := { dst := some 70, op := Op.pick (Operand.tmp 64) (Operand.const (Value.bool true)) (Operand.tmp 69), type := 4, pos := "law.go:50", after := #[{ on := 5, ground := Ground.data }, { on := 10, ground := Ground.data }], guard := Option.none }) (v := ?_) (by rfl) ?_ (fun wS hSw => ?_) ?_
          rotate_left
          · kernel_rfl
          · (try dsimp only at hSw); go_simp; (try with_reducible rfl)
          try simp only [Act.put, List.setIfInBounds_toArray, List.set_cons_zero, List.set_cons_succ]
          refine Reg.G_on (o := { dst := some 71, op := Op.move (Operand.tmp 70), type := 4, pos := "law.go:50", after := #[{ on := 11, ground := Ground.data }, { on := 7, ground := Ground.chain }], guard := Option.none }) (v := ?_) (by rfl) ?_ (fun wS hSw => ?_) ?_
          rotate_left
          · kernel_rfl
          · (try dsimp only at hSw); go_simp; (try with_reducible rfl)
          try simp only [Act.put, List.setIfInBounds_toArray, List.set_cons_zero, List.set_cons_succ]
          refine Reg.G_on (o := { dst := some 72, op := Op.move (Operand.tmp 7), type := 54, pos := "law.go:50", after := #[{ on := 12, ground := Ground.guard }], guard := some (12, false) }) (v := ?_) (by rfl) ?_ (fun wS hSw => ?_) ?_
          rotate_left
          · kernel_rfl
          · (try dsimp only at hSw); go_simp; (try with_reducible rfl)
          try simp only [Act.put, List.setIfInBounds_toArray, List.set_cons_zero, List.set_cons_succ]
          refine Reg.G_on (o := { dst := some 73, op := Op.load 53 (Operand.tmp 5), type := 53, pos := "law.go:50", after := #[{ on := 12, ground := Ground.guard }], guard := some (12, false) }) (v := .agg (nums .u8 key).toArray) (by rfl) ?_ (fun wS hSw => ?_) ?_
          · kernel_rfl
          · exact load_yields rfl rfl hSw Try.underlying53 rfl (key17 _ HK.out.1)
          try simp only [Act.put, List.setIfInBounds_toArray, List.set_cons_zero, List.set_cons_succ]
          refine Reg.G_on (o := { dst := some 75, op := Op.move (Operand.tmp 8), type := 56, pos := "law.go:50", after := #[{ on := 12, ground := Ground.guard }], guard := some (12, false) }) (v := ?_) (by rfl) ?_ (fun wS hSw => ?_) ?_
          rotate_left
          · kernel_rfl
          · (try dsimp only at hSw); go_simp; (try with_reducible rfl)
          try simp only [Act.put, List.setIfInBounds_toArray, List.set_cons_zero, List.set_cons_succ]
          refine Reg.G_on (o := { dst := some 76, op := Op.load 53 (Operand.tmp 5), type := 53, pos := "law.go:50", after := #[{ on := 12, ground := Ground.guard }], guard := some (12, false) }) (v := .agg (nums .u8 key).toArray) (by rfl) ?_ (fun wS hSw => ?_) ?_
          · kernel_rfl
          · exact load_yields rfl rfl hSw Try.underlying53 rfl (key17 _ HK.out.1)
          try simp only [Act.put, List.setIfInBounds_toArray, List.set_cons_zero, List.set_cons_succ]
          refine Reg.G_step (o := { dst := some 74, op := Op.call { callee := Callee.value (Operand.func 37), args := #[Operand.tmp 72, Operand.tmp 73], argTypes := #[54, 53] }, type := 3, pos := "law.go:50", after := #[{ on := 13, ground := Ground.data }, { on := 14, ground := Ground.data }, { on := 12, ground := Ground.chain }, { on := 12, ground := Ground.guard }], guard := some (12, false) }) (by rfl) ?_ (fun K hK => ?_)
          · kernel_rfl
          go_simp
          refine (C4).mono ?_
          rintro e w' ⟨rfl, b9⟩
          refine hK.out _ _ ?_ (fun hHeld => ?_)
          · exact range_below ky6 (bstep (a := w6.drew) B8 b9) hy6
          clear hK K
          try simp only [Act.put, List.setIfInBounds_toArray, List.set_cons_zero, List.set_cons_succ]
          rename World => w9
          have B9 := bstep (a := w6.drew) B8 b9
          have C5 := rof (HR6.out.below (w' := w9) B9) key HK.out
          skip
          refine Reg.G_step (o := { dst := some 77, op := Op.call { callee := Callee.value (Operand.func 38), args := #[Operand.tmp 75, Operand.tmp 76], argTypes := #[56, 53] }, type := 3, pos := "law.go:50", after := #[{ on := 16, ground := Ground.data }, { on := 17, ground := Ground.data }, { on := 15, ground := Ground.chain }, { on := 12, ground := Ground.guard }], guard := some (12, false) }) (by rfl) ?_ (fun K hK => ?_)
          · kernel_rfl
          go_simp
          refine (C5).mono ?_
          rintro e w' ⟨rfl, b10⟩
          refine hK.out _ _ ?_ (fun hHeld => ?_)
          · exact range_below ky6 (bstep (a := w6.drew) B9 b10) hy6
          clear hK K
          try simp only [Act.put, List.setIfInBounds_toArray, List.set_cons_zero, List.set_cons_succ]
          rename World => w10
          have B10 := bstep (a := w6.drew) B9 b10
          clear B8 B9 b9 b10 C3 C4 C5
          refine Reg.G_on (o := { dst := some 78, op := Op.binOp BinOp.neq 3 (Operand.tmp 74) (Operand.tmp 77) 3, type := 4, pos := "law.go:50", after := #[{ on := 15, ground := Ground.data }, { on := 18, ground := Ground.data }, { on := 12, ground := Ground.guard }], guard := some (12, false) }) (v := ?_) (by rfl) ?_ (fun wS hSw => ?_) ?_
          rotate_left
          · kernel_rfl
          · (try dsimp only at hSw); go_simp; (try with_reducible rfl)
          try simp only [Act.put, List.setIfInBounds_toArray, List.set_cons_zero, List.set_cons_succ]
          refine Reg.G_on (o := { dst := some 79, op := Op.pick (Operand.tmp 71) (Operand.const (Value.bool true)) (Operand.tmp 78), type := 4, pos := "law.go:50", after := #[{ on := 12, ground := Ground.data }, { on := 19, ground := Ground.data }], guard := Option.none }) (v := ?_) (by rfl) ?_ (fun wS hSw => ?_) ?_
          rotate_left
          · kernel_rfl
          · (try dsimp only at hSw); go_simp; (try with_reducible rfl)
          try simp only [Act.put, List.setIfInBounds_toArray, List.set_cons_zero, List.set_cons_succ]
          refine Reg.G_done ?_
          clear hHeld
          go_wp2
          rw [show (i : Int) + 1 = ((i + 1 : Nat) : Int) from rfl]
          refine ⟨⟨i + 1, F5, rfl, hlt2.out, by rw [hst2.out]; exact (HR6.out.below (w' := w10) B10).mono (fun k hk => ⟨hk.1, hk.2.1, Nat.lt_of_lt_of_le hk.2.2 B10.size⟩), by rw [hst2.out]; exact HS6.out.below (w' := w10) B10, hF5.out, HB6.out.trans (B10.mono (Nat.le_of_lt hbw6))⟩, meas _ _ hlt2.out⟩
      · have q1 : ¬ (i : Int) < (l.length : Int) := by omega
        have bbw : Below w.heap.size w wr := HB2.out.trans (bb.mono (by have := hbW.out; omega))
        clear r8 h8 hF bb hlt hi
        go_wp2_with fail
        refine (awake _).mono ?_
        rintro e w9 ⟨rfl, b9⟩
        go_wp2
        go_ret
        exact ⟨rfl, bstep bbw b9⟩
end Go.Proofs.Ytimalojaiaofkaa.His
namespace Go.Proofs.Ytimalojaiaofkaa.His
open Go.RowKit Base Sp Flat Go.Proofs.YtimalojaiaofkaaW.PrintWords Go.Shelf Smp
section
variable {H : Type} {enc : TypeId × Value → H} {w : World}
/-- An array argument of some ints. -/
theorem ints_arg {P : Program} {t e : TypeId} {n : Nat} {k : IntKind} {r : Reach} {base : Nat} {v : Value} {d : DataW H} {ps : List MemPlace} (hu : P.underlying t = some (.array n e)) (he : P.underlying e = some (.int k)) (hn : P.cellsOf t = n ∧ P.cellsOf e = 1)
    (hok : Value.okWide P w r base t v) (h : Open.TrodZ enc P w t v d ps) : ∃ xs : List Int, v = .agg (nums k xs).toArray ∧ xs.length = n ∧ ∀ x ∈ xs, (Lit.int k x).wf = true := by
  obtain ⟨cs, rfl, hs, ht⟩ := Open.agg_array hu hok h
  obtain ⟨hl, ha⟩ := Open.tr_array hu ht
  rw [hn.2] at ha
  have key : ∀ (l : List Value), (∀ v ∈ l, ∃ m, v = .int k m ∧ (Lit.int k m).wf = true) → ∃ xs : List Int, l = nums k xs ∧ ∀ x ∈ xs, (Lit.int k x).wf = true := by
    intro l
    induction l with
    | nil => exact fun _ => ⟨[], rfl, fun x hx => by cases hx⟩
    | cons u l ih =>
      intro hh
      obtain ⟨xs, rfl, hx⟩ := ih (fun u hu => hh u (List.mem_cons_of_mem _ hu))
      obtain ⟨m, rfl, hw⟩ := hh u (List.mem_cons_self ..)
      refine ⟨m :: xs, rfl, fun x hm => ?_⟩
      rcases List.mem_cons.1 hm with rfl | hm
      · exact hw
      · exact hx x hm
  have hcl : cs.toList.length = n := by rw [hl, hn.1]
  obtain ⟨xs, hx, hw⟩ := key cs.toList (fun v hv => by
    obtain ⟨i, hi, rfl⟩ := List.getElem_of_mem hv
    obtain ⟨m, e', hw⟩ := Open.tr_int he (ha i (by omega))
    refine ⟨m, ?_, hw⟩
    have := congrArg (·[0]?) e'
    simpa [List.getElem?_take, List.getElem?_drop, List.getElem?_eq_getElem hi] using this)
  refine ⟨xs, ?_, ?_, hw⟩
  · rw [← hx]
  · have := congrArg List.length hx
    rw [nums_length] at this
    omega
end
theorem two_of {k : IntKind} {xs : List Int} (h : xs.length = 2) : ∃ a b, xs = [a, b] := by
  match xs, h with
  | [a, b], _ => exact ⟨a, b, rfl⟩
end Go.Proofs.Ytimalojaiaofkaa.His
namespace Go.Proofs.Ytimalojaiaofkaa.Rng
open Go.RowKit Base Sp Flat Go.Proofs.YtimalojaiaofkaaW.PrintWords Go.Shelf Smp His
section
variable {P : Program} {ops : Array Oper} {rest : List Oper} {op : Oper} {a : Act} {W : World} {Q : Exit → Act → World → Prop}
/-- A guarded comparison of two aggregates whose result is known. -/
theorem eql_guarded (hw : Region.wanted op (yielded ops a.tmps) = true) (b : BinOp) (t t2 : TypeId) (x y : Operand) (ho : op.op = .binOp b t x y t2) (xs ys : Array Value) (hx : a.eval x = .agg xs) (hy : a.eval y = .agg ys) (hm : P.eqGuardType P.depth t = false) (r : Value)
    (hr : (binOp b t (.agg xs) (.agg ys)).run P W = .ok r W) (h : wpList P ops Q rest (a.put op.dst r) W) : wpList P ops Q (op :: rest) a W := by
  refine wpList_step fun K hK => ?_
  rw [if_pos hw]
  unfold Oper.wp execOp
  simp only [ho, hx, hy, Sem.run_bind, run_eqGuard_agg W b t x y xs ys hm, Result.andThen_ok, hr, Sem.run_pure]
  exact hK _ _ h
end
/-- Of a sample's instance, as the queue sees it. -/
def itr (s x : Smp) : Bool := decide (x.op = s.op) && (decide (x.writer = s.writer) && decide (x.key = s.key))
set_option maxRecDepth 20000 in
set_option maxHeartbeats 1000000 in
theorem its_call (g : Nat) (s x : Smp) (W : World) (h : W.heap[g]? = some (.cells (cells s).toArray 60 (0, 0))) :
    Calls Try.prog 98 (#[.agg (cells x).toArray] ++ #[.pointer (some ⟨g, 0, none⟩)]) W fun e w' => e = .returned (.bool (itr s x)) ∧ Below W.heap.size W w' := by
  have b1 : Below W.heap.size W (W.alloc (.cells (cells x).toArray 60)) := (Below.refl _ _).alloc (Nat.le_refl _) _
  have n1 := heap_alloc_new W (.cells (cells x).toArray 60)
  have n2 := blk_alloc h (.cells (cells x).toArray 60)
  have c0 : (W.alloc (.cells (cells x).toArray 60)).cell? ⟨W.heap.size, 0, none⟩ = some (.int .i64 x.op) := blk_cell n1 0
  have c1 : (W.alloc (.cells (cells x).toArray 60)).cell? ⟨W.heap.size, 1, none⟩ = some (.int .i64 x.writer) := blk_cell n1 1
  have d0 : (W.alloc (.cells (cells x).toArray 60)).cell? ⟨g, 0, none⟩ = some (.int .i64 s.op) := blk_cell n2 0
  have d1 : (W.alloc (.cells (cells x).toArray 60)).cell? ⟨g, 1, none⟩ = some (.int .i64 s.writer) := blk_cell n2 1
  have r1 := box_key n1
  have r2 := box_key n2
  have hq := fun w => keys_eql x.key s.key (smp_key x) (smp_key s) w
  unfold itr
  generalize x.op = xo at *
  generalize s.op = so at *
  generalize x.writer = xw at *
  generalize s.writer = sw at *
  clear n1 n2 h
  by_cases ho : xo = so
  · have ho1 : (xo == so) = true := beq_iff_eq.2 ho
    rw [decide_eq_true ho, Bool.true_and]
    by_cases hw : xw = sw
    · have hw1 : (xw == sw) = true := beq_iff_eq.2 hw
      rw [decide_eq_true hw, Bool.true_and]
      clear ho hw
      go_enter Try.func98, Try.ntmps98
      go_wp2_with (first | ((with_reducible refine gate_dst (N := 18) rfl ?_); refine load_guarded (by kernel_rfl) 53 (.tmp 17) rfl _ 5 rfl _ _ r1 Try.underlying53 rfl (key17 _ (key_len x)) ?_) | ((with_reducible refine gate_dst (N := 20) rfl ?_); refine load_guarded (by kernel_rfl) 53 (.tmp 19) rfl _ 5 rfl _ _ r2 Try.underlying53 rfl (key17 _ (key_len s)) ?_) | ((with_reducible refine gate_dst (N := 21) rfl ?_); refine eql_guarded (by kernel_rfl) .eql 53 53 (.tmp 18) (.tmp 20) rfl _ _ rfl rfl gd_key _ (hq _) ?_))
      go_ret
      exact ⟨rfl, b1⟩
    · have hw1 : (xw == sw) = false := beq_eq_false_iff_ne.2 hw
      rw [decide_eq_false hw, Bool.false_and]
      clear ho hw
      go_enter Try.func98, Try.ntmps98
      go_wp2
      go_ret
      exact ⟨rfl, b1⟩
  · have ho1 : (xo == so) = false := beq_eq_false_iff_ne.2 ho
    rw [decide_eq_false ho, Bool.false_and]
    clear ho
    go_enter Try.func98, Try.ntmps98
    go_wp2
    go_ret
    exact ⟨rfl, b1⟩
theorem its_pr (g : Nat) (s : Smp) (w : World) (h : w.heap[g]? = some (.cells (cells s).toArray 60 (0, 0))) : Pr 98 #[.pointer (some ⟨g, 0, none⟩)] (itr s) (fun k => k = g) w :=
  ⟨enters_of Try.func98 (by kernel_rfl) rfl, fun k hk => hk ▸ blk_lt h, fun W x hs => its_call g s x W ((hs g rfl).trans h)⟩
/-- It lived long enough. -/
def oldr (n f : Int) (x : Smp) : Bool := decide (x.op = 1) && Clock.over n x.frame f
set_option maxRecDepth 20000 in
theorem old_call (g1 g2 : Nat) (n f : Int) (x : Smp) (W : World) (h1 : W.heap[g1]? = some (.cells #[.int .u64 n] 58 (0, 0))) (h2 : W.heap[g2]? = some (.cells #[.int .i64 f] 3 (0, 0))) (hn : n < 18446744073709551616) (f0 : -9223372036854775808 ≤ f) (f1 : f < 9223372036854775808) :
    Calls Try.prog 81 (#[.agg (cells x).toArray] ++ #[.pointer (some ⟨g1, 0, none⟩), .pointer (some ⟨g2, 0, none⟩)]) W fun e w' => e = .returned (.bool (oldr n f x)) ∧ Below W.heap.size W w' := by
  have b1 : Below W.heap.size W (W.alloc (.cells (cells x).toArray 60)) := (Below.refl _ _).alloc (Nat.le_refl _) _
  have n1 := heap_alloc_new W (.cells (cells x).toArray 60)
  have c00 : (W.alloc (.cells (cells x).toArray 60)).cell? ⟨W.heap.size, 0, none⟩ = some (.int .i64 x.op) := blk_cell n1 0
  have c0 : (W.alloc (.cells (cells x).toArray 60)).cell? ⟨W.heap.size, 2, none⟩ = some (.int .u64 x.frame) := blk_cell n1 2
  have c1 : (W.alloc (.cells (cells x).toArray 60)).cell? ⟨g1, 0, none⟩ = some (.int .u64 n) := blk_cell (blk_alloc h1 _) 0
  have c2 : (W.alloc (.cells (cells x).toArray 60)).cell? ⟨g2, 0, none⟩ = some (.int .i64 f) := blk_cell (blk_alloc h2 _) 0
  have hx := wf_u64 x.good.2.2.1
  have C := fun w => Clock.over_u n x.frame f w hn hx.1 f0 f1
  unfold oldr
  clear h1 h2 n1 hx f0 f1
  generalize x.frame = q at *
  generalize x.op = o at *
  by_cases ho : o = 1
  · have ho1 : (o == 1) = true := beq_iff_eq.2 ho
    rw [decide_eq_true ho, Bool.true_and]
    clear ho
    go_enter Try.func81, Try.ntmps81
    go_wp2_with fail
    refine (C _).mono ?_
    rintro e w' ⟨rfl, rfl⟩
    go_wp2
    go_ret
    exact ⟨rfl, b1⟩
  · have ho1 : (o == 1) = false := beq_eq_false_iff_ne.2 ho
    rw [decide_eq_false ho, Bool.false_and]
    clear ho
    go_enter Try.func81, Try.ntmps81
    go_wp2
    go_ret
    exact ⟨rfl, b1⟩
theorem old_pr (g1 g2 : Nat) (n f : Int) (w : World) (h1 : w.heap[g1]? = some (.cells #[.int .u64 n] 58 (0, 0))) (h2 : w.heap[g2]? = some (.cells #[.int .i64 f] 3 (0, 0))) (hn : n < 18446744073709551616) (f0 : -9223372036854775808 ≤ f) (f1 : f < 9223372036854775808) :
    Pr 81 #[.pointer (some ⟨g1, 0, none⟩), .pointer (some ⟨g2, 0, none⟩)] (oldr n f) (fun k => k = g1 ∨ k = g2) w :=
  ⟨enters_of Try.func81 (by kernel_rfl) rfl, fun k hk => hk.elim (fun h => h ▸ blk_lt h1) (fun h => h ▸ blk_lt h2), fun W x hs => old_call g1 g2 n f x W ((hs g1 (.inl rfl)).trans h1) ((hs g2 (.inr rfl)).trans h2) hn f0 f1⟩
end Go.Proofs.Ytimalojaiaofkaa.Rng
namespace Go.Proofs.Ytimalojaiaofkaa.Rng
open Go.RowKit Base Sp Flat Go.Proofs.YtimalojaiaofkaaW.PrintWords Go.Shelf Smp His
set_option maxHeartbeats 2000000 in
set_option maxRecDepth 20000 in
theorem parted {f : Nat} {lb : Array Value} {p : Smp → Bool} {C F : Nat → Prop} {w : World} {v : Value} {xs : List Smp} (hP : Pr f lb p C w) (h : Row w F v xs) (hl : xs.length * 80 ≤ 140737488355328) :
    Calls Try.prog 80 #[v, .func (.func f) #[] lb] w fun e w' => ∃ v1 v2, e = .returned (.tuple #[v1, v2]) ∧ Row w' (New w.heap.size w') v1 (xs.filter p) ∧ Row w' (New w.heap.size w') v2 (xs.filter fun x => !p x) ∧ Below w.heap.size w w' := by
  have b0 := Below.refl w.heap.size w
  have HR := Lib.hid h
  have HP := Lib.hid hP
  have HL := Lib.hid hl
  have eg := hP.enters
  obtain ⟨A, c, rfl, _, hA⟩ := h.slice
  clear h hP hl hA
  go_enter Try.func80, Try.ntmps80
  go_wp2
  go_loopw [6, 7, 9, 12] (fun v6 v7 _ v12 wr => ∃ (k : Nat) (ys ns : List Smp) (F1 F2 : Nat → Prop), v12 = .int .i64 (k : Int) ∧ k ≤ xs.length ∧ Hid (ys = (xs.take k).filter p) ∧ Hid (ns = (xs.take k).filter fun x => !p x) ∧ Row wr F1 v6 ys ∧ Row wr F2 v7 ns ∧ Hid (∀ q, F1 q → New w.heap.size wr q ∧ ¬ F2 q) ∧ Hid (∀ q, F2 q → New w.heap.size wr q) ∧ Below w.heap.size w wr) (fun _ _ _ v12 _ => xs.length - (intOf v12).toNat)
  case atStart => exact ⟨0, [], [], fun _ => False, fun _ => False, rfl, Nat.zero_le _, Lib.hid rfl, Lib.hid rfl, Row.nil _ _, Row.nil _ _, Lib.hid (fun q h => h.elim), Lib.hid (fun q h => h.elim), b0⟩
  case round =>
    clear b0
    obtain ⟨k, ys, ns, F1, F2, rfl, hk, hys, hns, r6, r7, hF1, hF2, bb⟩ := hrel
    obtain ⟨A6, c6, rfl, _, hA6⟩ := r6.slice
    obtain ⟨A7, c7, rfl, _, hA7⟩ := r7.slice
    clear hA6 hA7
    by_cases hlt : k < xs.length
    · have hlt1 : (k : Int) < (xs.length : Int) := by omega
      have h0 : (0 : Int) ≤ (k : Int) := by omega
      obtain ⟨g, rfl⟩ := His.Row.addr HR.out hlt
      have hrng := (HR.out.below bb).range hlt
      have hwk : wrap64 ((k : Int) + 1) = ((k + 1 : Nat) : Int) := by have := HL.out; unfold wrap64; omega
      have hlt2 := Lib.hid hlt
      have hyb : Hid (ys.length + 1 ≤ xs.length) := Lib.hid (by
        have := List.length_filter_le p (xs.take k)
        rw [← hys.out, List.length_take] at this
        omega)
      have hnb : Hid (ns.length + 1 ≤ xs.length) := Lib.hid (by
        have := List.length_filter_le (fun x => !p x) (xs.take k)
        rw [← hns.out, List.length_take] at this
        omega)
      have hy1 : (xs.take (k + 1)).filter p = ys ++ [xs[k]].filter p := by rw [List.take_succ_eq_append_getElem hlt, List.filter_append, ← hys.out]; rfl
      have hn1 : (xs.take (k + 1)).filter (fun x => !p x) = ns ++ [xs[k]].filter fun x => !p x := by rw [List.take_succ_eq_append_getElem hlt, List.filter_append, ← hns.out]; rfl
      generalize xs[k] = x at hrng hy1 hn1
      have R6 := Lib.hid r6
      have R7 := Lib.hid r7
      have BB := Lib.hid bb
      have hbs := Lib.hid bb.size
      clear hlt hk hys hns r6 r7 bb
      have alive : ∀ w8 w9 : World, Below wr.heap.size wr w8 → (hb : w8.heap[wr.heap.size]? = some (.cells (cells zsmp).toArray 60 (0, 0))) → w9 = w8.setCells wr.heap.size 0 (cells x) → Below wr.heap.size wr w9 ∧ w9.heap[wr.heap.size]? = some (.cells (cells x).toArray 60 (0, 0)) := fun w8 w9 hb hbox e => by
        subst e
        exact ⟨(setCells_mod w8 wr.heap.size 0 (cells x)).below hb hb.size (fun k hk => Nat.le_of_eq (show k = wr.heap.size from hk).symm), box_set (x := x) hbox⟩
      have AL := Lib.hid alive
      clear alive
      cases hp : p x with
      | true =>
        go_wp2_with (first | ((with_reducible refine gate_dst (N := 15) rfl ?_); refine wpList_load_mid rfl 60 (.tmp 14) rfl g (k * 23) rfl (cells x) _ hrng Try.underlying60 rfl (size23 x) ?_) | ((with_reducible refine gate_dst (N := 9) rfl ?_); refine box_event rfl (N := 9) rfl (cs := (cells zsmp).toArray) (t := 60) ?hr ?_; (case hr => go_simp; rfl); intro gb hgb w8 hbox hb; subst hgb; clear hrng) | ((with_reducible refine gate_store (p := 9) (v := .tmp 15) rfl ?_); refine store_ev rfl 60 (.tmp 9) (.tmp 15) rfl wr.heap.size 0 (cells x) rfl rfl (there_of hbox (by rw [cells_len, cells_len]; omega)) (size23 x) (cells_one x) ?_; intro w9 hw9; obtain ⟨B9, n9⟩ := AL.out w8 w9 hb hbox hw9; have r9 := box_range n9; clear hb hbox hw9) | ((with_reducible refine gate_dst (N := 17) rfl ?_); refine wpList_load_mid rfl 60 (.tmp 9) rfl wr.heap.size 0 rfl (cells x) _ r9 Try.underlying60 rfl (size23 x) ?_) | (go_at_fn f; have hcall := HP.out.calls w9 x (fun j hj => (BB.out.trans (B9.mono hbs.out)).block j (HP.out.old j hj)); rw [hp] at hcall; refine hcall.mono ?_; rintro e w10 ⟨rfl, hb'⟩; have n10 := box_range (blk_below n9 hb'); have B10 := bstep B9 hb'; have r6 := R6.out.below B10; have r7 := R7.out.below B10; obtain ⟨v19, w19, hrun, r19, g19, s19⟩ := r6.append (fun q hq => Nat.lt_of_lt_of_le (hF1.out q hq).1.2 B10.size) x (by have := hyb.out; have := HL.out; omega) 56; have hown := r6.own; clear hcall hb' n9 B9 r9) | ((with_reducible refine gate_dst (N := 20) rfl ?_); refine wpList_load_mid rfl 60 (.tmp 9) rfl wr.heap.size 0 rfl (cells x) _ n10 Try.underlying60 rfl (size23 x) ?_) | ((with_reducible refine gate_dst (N := 21) rfl ?_); refine build1L (x := x) rfl rfl rfl ?_) | (at_builtin; refine wp_append rfl (.tmp 19) (.tmp 21) 56 rfl rfl rfl hrun ?_))
        rw [hwk]
        have B19 : Below w.heap.size w w19 := (BB.out.trans (B10.mono hbs.out)).grown g19 (Nat.le_trans hbs.out B10.size) (fun q hq => (hF1.out q (hown q hq).1).1.1)
        refine ⟨⟨k + 1, ys ++ [x], ns, _, F2, rfl, hlt2.out, Lib.hid (by rw [hy1, List.filter_cons_of_pos (by rw [hp])]; rfl), Lib.hid (by rw [hn1, List.filter_cons_of_neg (by rw [hp]; decide)]; simp), r19, r7.same (fun q hq => g19.block q (Nat.lt_of_lt_of_le (hF2.out q hq).2 B10.size) (fun e => (hF1.out q (hown q e.symm).1).2 hq)), Lib.hid (fun q hq => hq.elim (fun hh => ⟨⟨(hF1.out q hh).1.1, Nat.lt_of_lt_of_le (hF1.out q hh).1.2 (Nat.le_trans B10.size (Nat.le_of_lt s19))⟩, (hF1.out q hh).2⟩) (fun hh => ⟨⟨Nat.le_trans hbs.out (Nat.le_trans B10.size hh.1), hh.2⟩, fun h2 => by have := (hF2.out q h2).2; have := B10.size; have := hh.1; omega⟩)), Lib.hid (fun q hq => ⟨(hF2.out q hq).1, Nat.lt_of_lt_of_le (hF2.out q hq).2 (Nat.le_trans B10.size (Nat.le_of_lt s19))⟩), B19⟩, meas _ _ hlt2.out⟩
      | false =>
        go_wp2_with (first | ((with_reducible refine gate_dst (N := 15) rfl ?_); refine wpList_load_mid rfl 60 (.tmp 14) rfl g (k * 23) rfl (cells x) _ hrng Try.underlying60 rfl (size23 x) ?_) | ((with_reducible refine gate_dst (N := 9) rfl ?_); refine box_event rfl (N := 9) rfl (cs := (cells zsmp).toArray) (t := 60) ?hr ?_; (case hr => go_simp; rfl); intro gb hgb w8 hbox hb; subst hgb; clear hrng) | ((with_reducible refine gate_store (p := 9) (v := .tmp 15) rfl ?_); refine store_ev rfl 60 (.tmp 9) (.tmp 15) rfl wr.heap.size 0 (cells x) rfl rfl (there_of hbox (by rw [cells_len, cells_len]; omega)) (size23 x) (cells_one x) ?_; intro w9 hw9; obtain ⟨B9, n9⟩ := AL.out w8 w9 hb hbox hw9; have r9 := box_range n9; clear hb hbox hw9) | ((with_reducible refine gate_dst (N := 17) rfl ?_); refine wpList_load_mid rfl 60 (.tmp 9) rfl wr.heap.size 0 rfl (cells x) _ r9 Try.underlying60 rfl (size23 x) ?_) | (go_at_fn f; have hcall := HP.out.calls w9 x (fun j hj => (BB.out.trans (B9.mono hbs.out)).block j (HP.out.old j hj)); rw [hp] at hcall; refine hcall.mono ?_; rintro e w10 ⟨rfl, hb'⟩; have n10 := box_range (blk_below n9 hb'); have B10 := bstep B9 hb'; have r6 := R6.out.below B10; have r7 := R7.out.below B10; obtain ⟨v19, w19, hrun, r19, g19, s19⟩ := r7.append (fun q hq => Nat.lt_of_lt_of_le (hF2.out q hq).2 B10.size) x (by have := hnb.out; have := HL.out; omega) 56; have hown := r7.own; clear hcall hb' n9 B9 r9) | ((with_reducible refine gate_dst (N := 24) rfl ?_); refine wpList_load_mid rfl 60 (.tmp 9) rfl wr.heap.size 0 rfl (cells x) _ n10 Try.underlying60 rfl (size23 x) ?_) | ((with_reducible refine gate_dst (N := 25) rfl ?_); refine build1L (x := x) rfl rfl rfl ?_) | (at_builtin; refine wp_append rfl (.tmp 23) (.tmp 25) 56 rfl rfl rfl hrun ?_))
        rw [hwk]
        have B19 : Below w.heap.size w w19 := (BB.out.trans (B10.mono hbs.out)).grown g19 (Nat.le_trans hbs.out B10.size) (fun q hq => (hF2.out q (hown q hq).1).1)
        refine ⟨⟨k + 1, ys, ns ++ [x], F1, _, rfl, hlt2.out, Lib.hid (by rw [hy1, List.filter_cons_of_neg (by rw [hp]; decide)]; simp), Lib.hid (by rw [hn1, List.filter_cons_of_pos (by rw [hp]; rfl)]; rfl), r6.same (fun q hq => g19.block q (Nat.lt_of_lt_of_le (hF1.out q hq).1.2 B10.size) (fun e => (hF1.out q hq).2 (hown q e.symm).1)), r19, Lib.hid (fun q hq => ⟨⟨(hF1.out q hq).1.1, Nat.lt_of_lt_of_le (hF1.out q hq).1.2 (Nat.le_trans B10.size (Nat.le_of_lt s19))⟩, fun h2 => h2.elim (hF1.out q hq).2 (fun hh => by have := (hF1.out q hq).1.2; have := B10.size; have := hh.1; omega)⟩), Lib.hid (fun q hq => hq.elim (fun hh => ⟨(hF2.out q hh).1, Nat.lt_of_lt_of_le (hF2.out q hh).2 (Nat.le_trans B10.size (Nat.le_of_lt s19))⟩) (fun hh => ⟨Nat.le_trans hbs.out (Nat.le_trans B10.size hh.1), hh.2⟩)), B19⟩, meas _ _ hlt2.out⟩
    · have hlt1 : ¬ (k : Int) < (xs.length : Int) := by omega
      have HX : Hid (Row wr (New w.heap.size wr) (.slice A6 ys.length c6) (xs.filter p) ∧ Row wr (New w.heap.size wr) (.slice A7 ns.length c7) (xs.filter fun x => !p x)) := Lib.hid ⟨by
        have e : ys = xs.filter p := by rw [hys.out, List.take_of_length_le (by omega)]
        rw [← e]; exact r6.mono (fun q hq => (hF1.out q hq).1), by
        have e : ns = xs.filter fun x => !p x := by rw [hns.out, List.take_of_length_le (by omega)]
        rw [← e]; exact r7.mono hF2.out⟩
      clear hlt hk hys hns r6 r7
      go_wp2
      go_ret2
      exact ⟨_, _, rfl, HX.out.1, HX.out.2, bb⟩
end Go.Proofs.Ytimalojaiaofkaa.Rng
