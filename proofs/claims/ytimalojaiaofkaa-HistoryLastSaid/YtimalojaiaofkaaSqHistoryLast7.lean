import Derived.Test.YtimalojaiaofkaaSqHistoryLast6
set_option linter.unusedVariables false
set_option linter.unusedSimpArgs false
namespace Go.Proofs.Ytimalojaiaofkaa.His
open Go.RowKit Base Sp Flat Go.Proofs.YtimalojaiaofkaaW.PrintWords Go.Shelf Smp
set_option maxRecDepth 20000 in
theorem put_0 {w : World} {F : Nat → Prop} {v : Value} {xs : List Smp} (h : Row w F v xs) (d s : Int) (x : Smp) (hd : d ≤ 0) (hs : s ≤ 0) (ho : x.op = 1) :
    Calls Try.prog 33 #[v, .int .i64 d, .int .i64 s, .agg (cells x).toArray] w fun e w' => ∃ v', e = .returned v' ∧ Row w' (fun k => F k ∨ New w.heap.size w' k) v' xs ∧ Below w.heap.size w w' := by
  have bb0 : Below w.heap.size w (w.alloc (.cells (cells x).toArray 60)) := (Below.refl _ _).alloc (Nat.le_refl _) _
  have o0 : (w.alloc (.cells (cells x).toArray 60)).cell? ⟨w.heap.size, 0, none⟩ = some (.int .i64 x.op) := blk_cell (heap_alloc_new _ _) 0
  rw [ho] at o0
  have hd1 : ¬ 0 < d := by omega
  have HX := Lib.hid (And.intro (h.below bb0) bb0)
  obtain ⟨A, c, rfl, _, hA⟩ := h.slice
  clear h ho hA bb0
  go_enter Try.func33, Try.ntmps33
  go_wp2
  go_ret
  exact ⟨_, rfl, HX.out.1.mono (fun k hk => .inl hk), HX.out.2⟩
theorem rput {w : World} {F : Nat → Prop} {v : Value} {xs : List Smp} (h : Row w F v xs) (d s : Int) (x : Smp) (hlen : (xs.length + 1) * 80 ≤ 140737488355328) :
    Calls Try.prog 33 #[v, .int .i64 d, .int .i64 s, .agg (cells x).toArray] w fun e w' => ∃ v', e = .returned v' ∧ Row w' (fun k => F k ∨ New w.heap.size w' k) v' (hput (mx0 d) (mx0 s) xs x) ∧ Below w.heap.size w w' := by
  by_cases hne : d ≤ 0 ∧ s ≤ 0 ∧ x.op = 1
  · have e : hput (mx0 d) (mx0 s) xs x = xs := by
      have e1 : mx0 d = 0 := by have := hne.1; unfold mx0; split <;> omega
      have e2 : mx0 s = 0 := by have := hne.2.1; unfold mx0; split <;> omega
      unfold hput
      rw [if_neg (fun hh => hh hne.2.2), e1, e2, if_neg (fun hh => absurd hh.1 (by decide)), if_pos ⟨rfl, rfl⟩]
    rw [e]
    exact put_0 h d s x hne.1 hne.2.1 hne.2.2
  · by_cases ho : x.op = 1
    · by_cases hd : d ≤ 0
      · by_cases hl : s ≤ (xs.length : Int)
        · exact put_w h d s x hlen hne hd ho hl
        · exact put_x h d s x hlen hne hd ho hl
      · by_cases hc : d ≤ (cnt x.key xs : Int)
        · exact put_z1 h d s x hlen hne (by omega) ho hc
        · exact put_z2 h d s x hlen hne (by omega) ho hc
    · by_cases hd : d ≤ 0
      · by_cases hs : s ≤ 0
        · exact put_y1 h d s x hlen hne hd ho hs
        · by_cases hl : s ≤ (xs.length : Int)
          · exact put_y2 h d s x hlen hne hd ho hs hl
          · exact put_y3 h d s x hlen hne hd ho hs hl
      · by_cases hc : d ≤ (cnt x.key xs : Int)
        · exact put_z3 h d s x hlen hne (by omega) ho hc
        · exact put_z4 h d s x hlen hne (by omega) ho hc
end Go.Proofs.Ytimalojaiaofkaa.His
namespace Go.Proofs.Ytimalojaiaofkaa.His
open Go.RowKit Base Sp Flat Go.Proofs.YtimalojaiaofkaaW.PrintWords Go.Shelf Smp
set_option maxRecDepth 20000 in
theorem exp_nil (now f : Int) (w : World) : Calls Try.prog 42 #[.pointer none, .int .u64 now, .int .i64 f] w fun e w' => e = .returned (.tuple #[]) ∧ Below w.heap.size w w' := by
  have bb : Below w.heap.size w ((w.alloc (.cells #[.int .u64 now] 58)).alloc (.cells #[.int .i64 f] 3)) := ((Below.refl _ _).alloc (Nat.le_refl _) _).alloc (by simp) _
  go_enter Try.func42, Try.ntmps42
  go_wp2
  go_end0
  exact ⟨rfl, bb⟩
set_option maxHeartbeats 1000000 in
set_option maxRecDepth 20000 in
theorem exp {w : World} {F : Nat → Prop} {b : Nat} {d s : Int} {xs : List Smp} (h : HS w F b d s xs) (now f : Int) (hn : now < 18446744073709551616) (f0 : -9223372036854775808 ≤ f) (f1 : f < 9223372036854775808) :
    Calls Try.prog 42 #[.pointer (some ⟨b, 0, none⟩), .int .u64 now, .int .i64 f] w fun e w' => e = .returned (.tuple #[]) ∧ HS w' F b d s (hexp now f xs) ∧ Mod (HM F b) w w' := by
  have hmf : ∀ (fn : Fn) (first cap : Array Value) (w : World), (Instr.makeFunc fn first cap).run Try.prog w = .ok (.func fn first cap) w := fun _ _ _ _ => rfl
  have bb : Below w.heap.size w ((w.alloc (.cells #[.int .u64 now] 58)).alloc (.cells #[.int .i64 f] 3)) := ((Below.refl _ _).alloc (Nat.le_refl _) _).alloc (by simp) _
  have n1 : ((w.alloc (.cells #[.int .u64 now] 58)).alloc (.cells #[.int .i64 f] 3)).heap[w.heap.size]? = some (.cells #[.int .u64 now] 58 (0, 0)) := blk_alloc (heap_alloc_new _ _) _
  have n2 : ((w.alloc (.cells #[.int .u64 now] 58)).alloc (.cells #[.int .i64 f] 3)).heap[w.heap.size + 1]? = some (.cells #[.int .i64 f] 3 (0, 0)) := by
    have := heap_alloc_new (w.alloc (.cells #[.int .u64 now] 58)) (.cells #[.int .i64 f] 3)
    simpa using this
  have c2 : ((w.alloc (.cells #[.int .u64 now] 58)).alloc (.cells #[.int .i64 f] 3)).cell? ⟨w.heap.size + 1, 0, none⟩ = some (.int .i64 f) := blk_cell n2 0
  have M := Lib.hid (Mod.of (F := HM F b) bb)
  unfold hexp
  by_cases hf : 0 < f
  · rw [if_pos hf]
    have C := drop_ (h.below bb) (old_pr w.heap.size (w.heap.size + 1) now f _ n1 n2 hn f0 f1) (fun k hk hF => by have := h.old k hF; rcases hk with rfl | rfl <;> omega)
    clear h n1 n2 bb hn f0 f1
    go_enter Try.func42, Try.ntmps42
    go_wp2_with fail
    refine C.mono ?_
    rintro e w2 ⟨rfl, h2, m2⟩
    go_wp2
    go_end0
    exact ⟨rfl, h2, M.out.trans m2 (fun _ h => .inl h)⟩
  · rw [if_neg hf]
    have H2 := Lib.hid (h.below bb)
    clear h n1 n2 bb hn f0 f1
    go_enter Try.func42, Try.ntmps42
    go_wp2
    go_end0
    exact ⟨rfl, H2.out, M.out⟩
/-- A step. -/
structure Stp where
  ages : Bool
  s : Smp
  now : Int
  life : Int
  good : (Lit.int .u64 now).wf = true ∧ (Lit.int .i64 life).wf = true
def stc (x : Stp) : List Value := [.bool x.ages] ++ (cells x.s ++ [.int .u64 x.now, .int .i64 x.life])
theorem stc_len (x : Stp) : (stc x).length = 26 := by
  unfold stc
  rw [List.length_append, List.length_append, cells_len]
  rfl
theorem stc_one (x : Stp) : ∀ u ∈ stc x, u.oneCell' = true := by
  intro u hu
  unfold stc at hu
  rcases List.mem_append.1 hu with hu | hu
  · rw [List.mem_singleton.1 hu]; rfl
  · rcases List.mem_append.1 hu with hu | hu
    · exact cells_one _ u hu
    · simp at hu
      rcases hu with rfl | rfl <;> rfl
def kst : Kd Stp where
  sz := 26
  E := []
  K := fun _ x cs => cs = stc x
  M := fun _ _ _ x cs => cs = stc x
  K_len := fun h => by rw [h]; exact stc_len _
  K_one := fun h u hu => by rw [h] at hu; exact stc_one _ u hu
  K_below := fun _ h => h
  K_of_M := fun h => h
  M_mono := fun _ h => h
  M_bound := fun h => h
  M_move := fun _ h => h
  M_lower := fun _ h => h
theorem stp_opens : Open.Opens Try.prog 62 kst (fun x => GSmp x.s) := by
  intro H enc w cs h
  have hp : Open.Opens Try.prog 62 (Kd.pair Kd.bool (Kd.pair ks (Kd.pair (Kd.int .u64) (Kd.int .i64)))) (Open.GPair (fun _ => True) (Open.GPair GSmp (Open.GPair (fun n => (Lit.int .u64 n).wf = true) (fun n => (Lit.int .i64 n).wf = true)))) := by
    refine Open.opens_struct Try.underlying62 (by kernel_rfl) ?_
    refine Open.fields_cons (Open.opens_bool Try.underlying4) (by kernel_rfl) ?_
    refine Open.fields_cons opens (by kernel_rfl) ?_
    refine Open.fields_cons (Open.opens_int Try.underlying58) (by kernel_rfl) ?_
    exact Open.fields_last (Open.opens_int Try.underlying3) (by kernel_rfl)
  obtain ⟨⟨a, s, n, f⟩, hK, _, g2, g3, g4⟩ := hp H enc w cs h
  obtain ⟨_, _, rfl, rfl, _, _, rfl, rfl, _, _, rfl, rfl, rfl⟩ := hK
  exact ⟨⟨a, s, n, f, g3, g4⟩, rfl, g2⟩
/-- What a step leaves. -/
def hstep (d s : Int) (xs : List Smp) (x : Stp) : List Smp := if x.ages = true then hexp x.now x.life xs else hput d s xs x.s
theorem hstep_le (d s : Int) (xs : List Smp) (x : Stp) : (hstep d s xs x).length ≤ xs.length + 1 := by
  unfold hstep
  split
  · have := hexp_le x.now x.life xs; omega
  · exact hput_le _ _ _ _
/-- A step's cells in a new block. -/
theorem stp_smp {w : World} {g : Nat} {t : TypeId} {x : Stp} (h : w.heap[g]? = some (.cells (stc x).toArray t (0, 0))) : w.rangeAt g 1 (cells x.s) := fun j u hj => by
  have hj' : j < 23 := by rw [← cells_len x.s]; exact (List.getElem?_eq_some_iff.1 hj).1
  rw [blk_cell h, List.getElem?_toArray]
  unfold stc
  rw [List.getElem?_append_right (by simp), List.getElem?_append_left (by rw [cells_len]; simp; omega)]
  simpa using hj
theorem stp_now {w : World} {g : Nat} {t : TypeId} {x : Stp} (h : w.heap[g]? = some (.cells (stc x).toArray t (0, 0))) : w.cell? ⟨g, 0, none⟩ = some (.bool x.ages) ∧ w.cell? ⟨g, 24, none⟩ = some (.int .u64 x.now) ∧ w.cell? ⟨g, 25, none⟩ = some (.int .i64 x.life) := by
  refine ⟨blk_cell h 0, ?_, ?_⟩
  all_goals
    rw [blk_cell h, List.getElem?_toArray]
    unfold stc
    rw [List.getElem?_append_right (by simp), List.getElem?_append_right (by rw [cells_len]; simp), cells_len]
    rfl
set_option maxHeartbeats 1000000 in
set_option maxRecDepth 20000 in
theorem do_ {w : World} {F : Nat → Prop} {b : Nat} {d s : Int} {xs : List Smp} (h : HS w F b d s xs) (x : Stp) (hlen : (xs.length + 1) * 80 ≤ 140737488355328) :
    Calls Try.prog 31 #[.pointer (some ⟨b, 0, none⟩), .agg (stc x).toArray] w fun e w' => e = .returned (.tuple #[]) ∧ ∃ F', HS w' F' b d s (hstep d s xs x) ∧ Grow F F' w ∧ Mod (HM F b) w w' := by
  have b1 : Below w.heap.size w (w.alloc (.cells (stc x).toArray 62)) := (Below.refl _ _).alloc (Nat.le_refl _) _
  have n1 := heap_alloc_new w (.cells (stc x).toArray 62)
  obtain ⟨c0, c24, c25⟩ := stp_now n1
  have r1 := stp_smp n1
  have M := Lib.hid (Mod.of (F := HM F b) b1)
  have hsz : w.heap.size ≤ (w.alloc (.cells (stc x).toArray 62)).heap.size := by simp
  have HSZ := Lib.hid hsz
  unfold hstep
  generalize stc x = L at c0 c24 c25 r1 b1 n1 M hsz HSZ ⊢
  obtain ⟨ages, sm, now, life, hg1, hg2⟩ := x
  dsimp only at c0 c24 c25 r1 ⊢
  cases ages with
  | true =>
    have C := exp (h.below b1) now life (wf_u64 hg1).2 (wf_i64 hg2).1 (wf_i64 hg2).2
    rw [if_pos rfl]
    clear h b1 n1 r1 hsz hg1 hg2
    go_enter Try.func31, Try.ntmps31
    go_wp2_with fail
    refine C.mono ?_
    rintro e w2 ⟨rfl, h2, m2⟩
    go_wp2
    go_end0
    exact ⟨rfl, F, h2, Grow.refl _ _, M.out.trans m2 (fun _ h => .inl h)⟩
  | false =>
    have C := put (h.below b1) sm hlen
    rw [if_neg (by decide)]
    clear h b1 n1 hsz hg1 hg2
    go_enter Try.func31, Try.ntmps31
    go_wp2_with (first | ((with_reducible refine gate_dst (N := 14) rfl ?_); refine wpList_load_mid rfl 60 (.tmp 13) rfl w.heap.size 1 rfl (cells sm) _ r1 Try.underlying60 rfl (size23 sm) ?_) | fail)
    refine C.mono ?_
    rintro e w2 ⟨rfl, F', h2, g2, m2⟩
    go_wp2
    go_end0
    exact ⟨rfl, F', h2, fun k hk => (g2 k hk).imp id (fun hh => Nat.le_trans HSZ.out hh), M.out.trans m2 (fun _ h => .inl h)⟩
def sq (n : Int) (h : (Lit.int .u64 n).wf = true) : Smp := ⟨1, 0, 0, 0, n, List.replicate 17 0, ⟨#[]⟩, by refine ⟨by decide, by decide, by decide, by decide, h, ⟨rfl, fun k hk => ?_⟩, by decide⟩; rw [List.eq_of_mem_replicate hk]; decide⟩
set_option maxRecDepth 20000 in
set_option maxHeartbeats 1000000 in
theorem awake (w : World) : Calls Try.prog 29 #[] w fun e w' => e = .returned (.bool true) ∧ Below w.heap.size w w' := by
  have C0 := new 1 0 w (by decide) (by decide)
  have e1 := Lib.hid (show hput (mx0 1) (mx0 0) [] (sq 1 (by decide)) = [sq 1 (by decide)] by kernel_rfl)
  have e2 := Lib.hid (show hput (mx0 1) (mx0 0) [sq 1 (by decide)] (sq 2 (by decide)) = [sq 2 (by decide)] by kernel_rfl)
  go_enter Try.func29, Try.ntmps29
  go_wp2_with fail
  refine C0.mono ?_
  rintro e w1 ⟨rfl, h1, b1⟩
  have C1 := put h1 (sq 1 (by decide)) (by decide)
  rw [e1.out] at C1
  go_wp2_with fail
  refine C1.mono ?_
  rintro e w2 ⟨rfl, F2, h2, g2, m2⟩
  have C2 := put h2 (sq 2 (by decide)) (by decide)
  rw [e2.out] at C2
  go_wp2_with fail
  refine C2.mono ?_
  rintro e w3 ⟨rfl, F3, h3, g3, m3⟩
  have C3 := len h3
  have C4 := all h3 (by decide)
  have bb : Hid (Below w.heap.size w w3) := Lib.hid (m3.below (m2.below b1 b1.size (fun k hk => by rcases hk with rfl | hk; exact Nat.le_refl _; exact hk.elim)) (Nat.le_trans b1.size m2.size) (fun k hk => by
    rcases hk with rfl | hk
    · exact Nat.le_refl _
    · rcases g2 k hk with hk | hk
      · exact hk.elim
      · exact Nat.le_trans b1.size hk))
  clear C0 C1 C2 h1 h2 h3 m2 m3 g2 g3 b1
  go_wp2_with fail
  refine C3.mono ?_
  rintro e w4 ⟨rfl, rfl⟩
  go_wp2_with fail
  refine C4.mono ?_
  rintro e w5 ⟨v, rfl, hR, b5⟩
  obtain ⟨A, c, rfl, hle, hA⟩ := hR.slice
  clear hle hA
  obtain ⟨g, rfl⟩ := Row.addr hR (i := 0) (by decide)
  have c4 : w5.cell? ⟨g, 4, none⟩ = some (.int .u64 2) := hR.range (i := 0) (by decide) 4 _ rfl
  rw [show ([sq 2 (by decide)] : List Smp).length = 1 from rfl]
  clear hR C3 C4 e1 e2
  go_wp2
  go_ret
  exact ⟨rfl, bstep bb.out b5⟩
end Go.Proofs.Ytimalojaiaofkaa.His
namespace Go.Proofs.Ytimalojaiaofkaa.His
open Go.RowKit Base Sp Flat Go.Proofs.YtimalojaiaofkaaW.PrintWords Go.Shelf Smp
/-- Cells at an address, whatever it is. -/
def CellsAt (w : World) (a : Addr) (cs : List Value) : Prop := ∀ j v, cs[j]? = some v → w.cell? (a.add j) = some v
section
variable {P : Program} {ops : Array Oper} {rest : List Oper} {op : Oper} {a : Act} {w : World} {Q : Exit → Act → World → Prop}
theorem loadVar_any (p : Addr) (ty : TypeId) (cs : List Value) (d : TypeDesc) (hc : CellsAt w p cs) (hu : P.underlying ty = some d) (hd : d.isRow = true) (hi : (P.info? ty).map (·.size) = some cs.length) :
    (loadVar ty p).run P w = .ok (.agg cs.toArray) w := by
  have hl : (loadCells p cs.length).run P w = .ok cs.toArray w := run_loadCells_list (P := P) w p cs hc
  cases hq : P.info? ty with
  | none => simp [hq] at hi
  | some i =>
    have hs : i.size = cs.length := by simpa [hq] using hi
    have hagg : (isAgg ty).run P w = .ok true w := by
      unfold isAgg
      rw [Sem.run_bind, run_underlying hu w]
      cases d <;> simp_all
    simp [loadVar, Sem.run_bind, hagg, sizeOf, typeInfo, hq, hs, hl]
theorem load_any (hw : Region.wanted op (yielded ops a.tmps) = true) (ty : TypeId) (x : Operand) (ho : op.op = .load ty x) (p : Addr) (hx : a.eval x = .pointer (some p)) (cs : List Value) (d : TypeDesc) (hc : CellsAt w p cs)
    (hu : P.underlying ty = some d) (hd : d.isRow = true) (hi : (P.info? ty).map (·.size) = some cs.length) (h : wpList P ops Q rest (a.put op.dst (.agg cs.toArray)) w) : wpList P ops Q (op :: rest) a w := by
  refine wpList_step fun K hK => ?_
  rw [if_pos hw]
  unfold Oper.wp execOp
  simp only [ho, hx, Instr.loadAt, Instr.sureAddr, Sem.run_bind, Sem.run_pure, Result.andThen_ok, loadVar_any p ty cs d hc hu hd hi]
  exact hK _ _ h
end
theorem range_below {w w' : World} {g o : Nat} {cs : List Value} (h : w.rangeAt g o cs) (hb : Below w.heap.size w w') (hg : g < w.heap.size) : w'.rangeAt g o cs := fun j v hj => cbel hb (h j v hj) hg
theorem add_block (a : Addr) (j : Nat) : (a.add j).block = a.block := by unfold Addr.add; split <;> rfl
theorem add_pos (a : Addr) {j : Nat} (h : 0 < j) : a.add j = ⟨a.block, a.off + j, none⟩ := by unfold Addr.add; rw [if_neg (by omega)]
theorem add_add (a : Addr) (i j : Nat) : (a.add i).add j = a.add (i + j) := by
  unfold Addr.add
  by_cases h1 : i = 0 <;> by_cases h2 : j = 0 <;> simp [h1, h2, Nat.add_assoc]
/-- A step of the argument's list, cell by cell. -/
structure StpAt (w : World) (a : Addr) (x : Stp) : Prop where
  all : CellsAt w a (stc x)
  ages : w.cell? a = some (.bool x.ages)
  smp : w.rangeAt a.block (a.off + 1) (cells x.s)
  now : w.cell? ⟨a.block, a.off + 24, none⟩ = some (.int .u64 x.now)
  life : w.cell? ⟨a.block, a.off + 25, none⟩ = some (.int .i64 x.life)
theorem StpAt.of {w : World} {a : Addr} {x : Stp} (h : CellsAt w a (stc x)) : StpAt w a x := by
  refine ⟨h, ?_, fun j v hj => ?_, ?_, ?_⟩
  · have := h 0 _ (show (stc x)[0]? = some (.bool x.ages) from rfl)
    unfold Addr.add at this
    simpa using this
  · have hj' : j < 23 := by rw [← cells_len x.s]; exact (List.getElem?_eq_some_iff.1 hj).1
    have := h (1 + j) v (by
      unfold stc
      rw [List.getElem?_append_right (by simp), List.getElem?_append_left (by rw [cells_len]; simp; omega)]
      simpa using hj)
    rw [add_pos a (by omega)] at this
    rw [Nat.add_assoc]
    exact this
  · have := h 24 (.int .u64 x.now) (by
      unfold stc
      rw [List.getElem?_append_right (by simp), List.getElem?_append_right (by rw [cells_len]; simp), cells_len]
      rfl)
    rwa [add_pos a (by omega)] at this
  · have := h 25 (.int .i64 x.life) (by
      unfold stc
      rw [List.getElem?_append_right (by simp), List.getElem?_append_right (by rw [cells_len]; simp), cells_len]
      rfl)
    rwa [add_pos a (by omega)] at this
theorem StpAt.lt {w : World} {a : Addr} {x : Stp} (h : StpAt w a x) : a.block < w.heap.size := World.block_lt_of_cell? w a h.ages
theorem StpAt.below {w w' : World} {a : Addr} {x : Stp} {B : Nat} (h : StpAt w a x) (hb : Below B w w') (hl : a.block < B) : StpAt w' a x :=
  ⟨fun j v hj => cbel hb (h.all j v hj) (by rw [add_block]; exact hl), cbel hb h.ages hl, fun j v hj => cbel hb (h.smp j v hj) hl, cbel hb h.now hl, cbel hb h.life hl⟩
theorem step_at {w : World} {A : Option Addr} {l : List Stp} (h : Kd.C kst w A l.length l) {i : Nat} (hi : i < l.length) : ∃ ad, A = some ad ∧ StpAt w (ad.add (i * 26)) l[i] := by
  obtain ⟨ad, e, hc⟩ := h.2.2 (by omega)
  refine ⟨ad, e, StpAt.of fun j v hj => ?_⟩
  obtain ⟨c, _, hK, hcell⟩ := hc i _ (List.getElem?_eq_getElem hi)
  have hK' : c = stc l[i] := hK
  rw [add_add]
  exact hcell j v (by rw [hK']; exact hj)
theorem stp26 (x : Stp) : (Try.prog.info? 62).map (·.size) = some (stc x).length := by rw [stc_len]; kernel_rfl
/-- What steps leave. -/
def hruns (d s : Int) (l : List Stp) : List Smp := l.foldl (fun xs x => hstep d s xs x) []
theorem hruns_step (d s : Int) (l : List Stp) (i : Nat) (hi : i < l.length) : hruns d s (l.take (i + 1)) = hstep d s (hruns d s (l.take i)) l[i] := by
  unfold hruns
  rw [List.take_succ_eq_append_getElem hi, List.foldl_append]
  rfl
theorem hruns_le (d s : Int) (l : List Stp) (i : Nat) (hi : i ≤ l.length) : (hruns d s (l.take i)).length ≤ i := by
  induction i with
  | zero => rw [List.take_zero]; exact Nat.le_refl _
  | succ i ih =>
    rw [hruns_step d s l i (by omega)]
    have := ih (by omega)
    have := hstep_le d s (hruns d s (l.take i)) l[i]
    omega
/-- A row that is none of the history's. -/
abbrev Oth (B : Nat) (F : Nat → Prop) (w : World) : Nat → Prop := fun k => B < k ∧ ¬ F k ∧ k < w.heap.size
theorem oth_do {B : Nat} {F F' : Nat → Prop} {w w' : World} {v : Value} {xs : List Smp} (h : Row w (Oth B F w) v xs) (hg : Grow F F' w) (hm : Mod (HM F B) w w') : Row w' (Oth B F' w') v xs :=
  (h.same (w' := w') (fun k hk => hm.block k hk.2.2 (fun hh => hh.elim (fun e => by have := hk.1; omega) hk.2.1))).mono (fun k hk => ⟨hk.1, fun hf => (hg k hf).elim hk.2.1 (fun hh => by have := hk.2.2; omega), Nat.lt_of_lt_of_le hk.2.2 hm.size⟩)
theorem oth_new {B : Nat} {F : Nat → Prop} {w w' : World} {v : Value} {xs : List Smp} (hF : ∀ k, F k → k < w.heap.size) (hB : B < w.heap.size) (hb : Below w.heap.size w w') (h : Row w' (fun k => Oth B F w k ∨ New w.heap.size w' k) v xs) : Row w' (Oth B F w') v xs :=
  h.mono (fun k hk => hk.elim (fun hh => ⟨hh.1, hh.2.1, Nat.lt_of_lt_of_le hh.2.2 hb.size⟩) (fun hh => ⟨by have := hh.1; omega, fun hf => by have := hF k hf; have := hh.1; omega, hh.2⟩))
end Go.Proofs.Ytimalojaiaofkaa.His
namespace Go.Proofs.Ytimalojaiaofkaa.His
open Go.RowKit Base Sp Flat Go.Proofs.YtimalojaiaofkaaW.PrintWords Go.Shelf Smp
set_option maxHeartbeats 4000000 in
set_option maxRecDepth 20000 in
theorem steps (ka kb : Int) (A : Option Addr) (cap : Nat) (l : List Stp) (key : List Int) (w : World) (hC : Kd.C kst w A l.length l) (hk : GKey key) (ha : ka < 9223372036854775808) (hb : kb < 9223372036854775808) :
    Calls Try.prog 8 #[.agg #[.int .i64 ka, .int .i64 kb], .slice A l.length cap, .agg (nums .u8 key).toArray] w fun e w' => e = .returned (.bool true) ∧ Below w.heap.size w w' := by
  have bb1 : Below w.heap.size w ((w.alloc (.cells #[.int .i64 ka, .int .i64 kb] 50)).alloc (.cells (nums .u8 key).toArray 53)) := ((Below.refl _ _).alloc (Nat.le_refl _) _).alloc (by simp) _
  by_cases hl : (l.length : Int) > 150
  · have hl1 : (150 : Int) < (l.length : Int) := by omega
    clear hl ha hb
    go_enter Try.func8, Try.ntmps8
    go_wp2_with fail
    refine (awake _).mono ?_
    rintro e w1 ⟨rfl, b1⟩
    go_wp2
    go_ret
    exact ⟨rfl, bstep bb1 b1⟩
  · have hl1 : ¬ (150 : Int) < (l.length : Int) := by omega
    have n0 : ((w.alloc (.cells #[.int .i64 ka, .int .i64 kb] 50)).alloc (.cells (nums .u8 key).toArray 53)).heap[w.heap.size]? = some (.cells #[.int .i64 ka, .int .i64 kb] 50 (0, 0)) := blk_alloc (heap_alloc_new _ _) _
    have n1 : ((w.alloc (.cells #[.int .i64 ka, .int .i64 kb] 50)).alloc (.cells (nums .u8 key).toArray 53)).heap[w.heap.size + 1]? = some (.cells (nums .u8 key).toArray 53 (0, 0)) := by
      have := heap_alloc_new (w.alloc (.cells #[.int .i64 ka, .int .i64 kb] 50)) (.cells (nums .u8 key).toArray 53)
      simpa using this
    have C0 := new ka kb ((w.alloc (.cells #[.int .i64 ka, .int .i64 kb] 50)).alloc (.cells (nums .u8 key).toArray 53)) ha hb
    have hC1 := Kd.C_below hC bb1
    have hbW := Lib.hid (show w.heap.size + 1 < ((w.alloc (.cells #[.int .i64 ka, .int .i64 kb] 50)).alloc (.cells (nums .u8 key).toArray 53)).heap.size from by simp)
    have HB1 := Lib.hid bb1
    have HK := Lib.hid hk
    have HC := Lib.hid hC
    have HL : Hid (l.length ≤ 150) := Lib.hid (by omega)
    have k0 : ((w.alloc (.cells #[.int .i64 ka, .int .i64 kb] 50)).alloc (.cells (nums .u8 key).toArray 53)).cell? ⟨w.heap.size, 0, none⟩ = some (.int .i64 ka) := blk_cell n0 0
    have k1 : ((w.alloc (.cells #[.int .i64 ka, .int .i64 kb] 50)).alloc (.cells (nums .u8 key).toArray 53)).cell? ⟨w.heap.size, 1, none⟩ = some (.int .i64 kb) := blk_cell n0 1
    obtain ⟨b, hbd⟩ : ∃ b, b = ((w.alloc (.cells #[.int .i64 ka, .int .i64 kb] 50)).alloc (.cells (nums .u8 key).toArray 53)).heap.size := ⟨_, rfl⟩
    have hb1 : ∀ w2, Below b ((w.alloc (.cells #[.int .i64 ka, .int .i64 kb] 50)).alloc (.cells (nums .u8 key).toArray 53)) w2 → Below ((w.alloc (.cells #[.int .i64 ka, .int .i64 kb] 50)).alloc (.cells (nums .u8 key).toArray 53)).heap.size ((w.alloc (.cells #[.int .i64 ka, .int .i64 kb] 50)).alloc (.cells (nums .u8 key).toArray 53)) w2 := fun w2 h => hbd ▸ h
    rw [← hbd] at C0 hbW
    have hb0 : Hid (b = ((w.alloc (.cells #[.int .i64 ka, .int .i64 kb] 50)).alloc (.cells (nums .u8 key).toArray 53)).heap.size) := Lib.hid hbd
    clear hl hC hk bb1 n0 hbd
    go_enter Try.func8, Try.ntmps8
    go_wp2_with fail
    refine C0.mono ?_
    rintro e w2 ⟨rfl, h2, b2⟩
    have c0 := cbel b2 k0 (by have := hbW.out; show w.heap.size < b; omega)
    have c1 := cbel b2 k1 (by have := hbW.out; show w.heap.size < b; omega)
    have ky : w2.rangeAt (w.heap.size + 1) 0 (nums .u8 key) := fun j u hj => by
      refine cbel b2 ?_ hbW.out
      rw [blk_cell n1, Nat.zero_add, List.getElem?_toArray]
      exact hj
    have hC2 := Kd.C_below hC1 (hb1 w2 b2)
    have HB2 : Hid (Below w.heap.size w w2) := Lib.hid (bstep HB1.out (hb1 w2 b2))
    have hblt := Lib.hid h2.lt
    clear C0 hC1 k0 k1 n1 hb1 hb0 b2 HB1
    go_wp2
    go_loopw [8, 9] (fun v8 v9 wr => ∃ (i : Nat) (F : Nat → Prop), v9 = .int .i64 (i : Int) ∧ i ≤ l.length ∧ Row wr (Oth b F wr) v8 (hruns (mx0 ka) (mx0 kb) (l.take i)) ∧ HS wr F b (mx0 ka) (mx0 kb) (hruns (mx0 ka) (mx0 kb) (l.take i)) ∧ (∀ k, F k → b < k) ∧ Below b w2 wr) (fun _ v9 _ => l.length - (intOf v9).toNat)
    case atStart => exact ⟨0, fun _ => False, rfl, Nat.zero_le _, Row.nil _ _, h2, fun k h => h.elim, Below.refl _ _⟩
    case round =>
      clear h2
      obtain ⟨i, F, rfl, hi, r8, h8, hF, bb⟩ := hrel
      by_cases hlt : i < l.length
      · have q0 : (0 : Int) ≤ (i : Int) := by omega
        have q1 : (i : Int) < (l.length : Int) := by omega
        obtain ⟨ad, rfl, st⟩ := step_at hC2 hlt
        have hlen : ((hruns (mx0 ka) (mx0 kb) (l.take i)).length + 1) * 80 ≤ 140737488355328 := by have := hruns_le (mx0 ka) (mx0 kb) l i hi; have := HL.out; omega
        have hlen6 : Hid ((hstep (mx0 ka) (mx0 kb) (hruns (mx0 ka) (mx0 kb) (l.take i)) l[i]).length * 80 ≤ 140737488355328) := Lib.hid (by have := hruns_le (mx0 ka) (mx0 kb) l i hi; have := HL.out; have := hstep_le (mx0 ka) (mx0 kb) (hruns (mx0 ka) (mx0 kb) (l.take i)) l[i]; omega)
        have hst2 := Lib.hid (hruns_step (mx0 ka) (mx0 kb) l i hlt)
        have hlt2 := Lib.hid hlt
        have hwi : wrap64 ((i : Int) + 1) = ((i + 1 : Nat) : Int) := by have := HL.out; unfold wrap64; omega
        have hsl : (ad.add (i * 26)).block < b := by
          obtain ⟨ad', e, st'⟩ := step_at HC.out hlt
          obtain rfl := Option.some.inj e
          have := st'.lt
          have := hbW.out
          omega
        generalize l[i] = x at st hlen6 hst2
        have st8 := st.below bb hsl
        have C1 := do_ h8 x hlen
        generalize hruns (mx0 ka) (mx0 kb) (l.take i) = xs at *
        have hbr := Lib.hid h8.lt
        have HF := Lib.hid hF
        have BB := Lib.hid bb
        have HR8 := Lib.hid r8
        have HSL := Lib.hid hsl
        have ST := Lib.hid st
        obtain ⟨A1, c1', rfl, hle1, hA1⟩ := r8.slice
        clear hle1 hA1
        have hxl := Lib.hid hlen
        clear h8 hlt hi hlen st r8 bb hF hsl
        go_wp2_with (first | ((with_reducible refine gate_dst (N := 29) rfl ?_); refine load_any (by kernel_rfl) 62 (.tmp 28) rfl _ rfl (stc x) _ st8.all Try.underlying62 rfl (stp26 x) ?_) | fail)
        refine C1.mono ?_
        rintro e w5 ⟨rfl, F5, h5, g5, m5⟩
        have bb5 : Below b w2 w5 := m5.below BB.out (Nat.le_of_lt hbr.out) (fun k hk => hk.elim (fun e => by omega) (fun hh => Nat.le_of_lt (HF.out k hh)))
        have r5 := oth_do HR8.out g5 m5
        have hF5 := Lib.hid (fun k (hk : F5 k) => (g5 k hk).elim (HF.out k) (fun hh => Nat.lt_of_lt_of_le hbr.out hh))
        have st5 := ST.out.below bb5 HSL.out
        have h50 := st5.ages
        have h51 := st5.now
        have h52 := st5.life
        have h53 := st5.smp
        have hsl5 : (ad.add (i * 26)).block < w5.heap.size := Nat.lt_of_lt_of_le HSL.out (Nat.le_of_lt (Nat.lt_of_lt_of_le hbr.out m5.size))
        have hwb5 : w.heap.size < w5.heap.size := by have := hbW.out; have := hbr.out; have := m5.size; omega
        have hbw5 : b < w5.heap.size := Nat.lt_of_lt_of_le hbr.out m5.size
        have c50 := cbel bb5 c0 (by have := hbW.out; show w.heap.size < b; omega)
        have c51 := cbel bb5 c1 (by have := hbW.out; show w.heap.size < b; omega)
        have hn := x.good
        have hylt := hbW
        have hy5 : w2.heap.size ≤ w2.heap.size := Nat.le_refl _
        unfold hstep at h5 hst2 hlen6
        clear C1 st5 st8 m5 g5 ST HR8 BB HF
        cases hag : x.ages with
        | true =>
          rw [hag] at h50
          rw [hag, if_pos rfl] at h5 hst2 hlen6
          have C2 := rexp (r5.drew) x.now x.life (by have := hxl.out; omega) (wf_u64 hn.1).2 (wf_i64 hn.2).1 (wf_i64 hn.2).2
          generalize hexp x.now x.life xs = ys at *
          generalize x.now = now at *
          generalize x.life = life at *
          clear h53 c50 c51 hn hag
          go_wp2_with fail
          refine Reg.wp_plan (S := fun w' => w'.cell? ⟨(ad.add (i * 26)).block, (ad.add (i * 26)).off + 24, none⟩ = some (.int .u64 now) ∧ w'.cell? ⟨(ad.add (i * 26)).block, (ad.add (i * 26)).off + 25, none⟩ = some (.int .i64 life)) 13 (.fl 0 (.fl 1 (.fl 2 (.fl 3 (.fl 4 (.fl 5 (.fl 6 (.fl 7 (.fl 8 (.fl 9 (.fl 10 (.one 11 (.fl 12 .done))))))))))))) (by kernel_rfl) (by kernel_rfl) (by kernel_rfl) (by kernel_rfl) (fun _ _ _ d _ h => by cases d <;> exact h) ?_ (fun hHeld => ?_)
          · exact ⟨by simpa using h51, by simpa using h52⟩
          refine Reg.G_on (o := { dst := some 36, op := Op.move (Operand.tmp 8), type := 56, pos := "law.go:46", after := #[], guard := Option.none }) (v := ?_) (by rfl) ?_ (fun wS hSw => ?_) ?_
          rotate_left
          · kernel_rfl
          · (try dsimp only at hSw); go_simp; (try with_reducible rfl)
          try simp only [Act.put, List.setIfInBounds_toArray, List.set_cons_zero, List.set_cons_succ]
          refine Reg.G_on (o := { dst := some 37, op := Op.move (Operand.tmp 1), type := 51, pos := "law.go:46", after := #[], guard := Option.none }) (v := ?_) (by rfl) ?_ (fun wS hSw => ?_) ?_
          rotate_left
          · kernel_rfl
          · (try dsimp only at hSw); go_simp; (try with_reducible rfl)
          try simp only [Act.put, List.setIfInBounds_toArray, List.set_cons_zero, List.set_cons_succ]
          refine Reg.G_on (o := { dst := some 38, op := Op.move (Operand.tmp 9), type := 3, pos := "law.go:46", after := #[], guard := Option.none }) (v := ?_) (by rfl) ?_ (fun wS hSw => ?_) ?_
          rotate_left
          · kernel_rfl
          · (try dsimp only at hSw); go_simp; (try with_reducible rfl)
          try simp only [Act.put, List.setIfInBounds_toArray, List.set_cons_zero, List.set_cons_succ]
          refine Reg.G_on (o := { dst := some 39, op := Op.indexAddr 51 (Operand.tmp 37) (Operand.tmp 38), type := 0, pos := "law.go:46", after := #[{ on := 1, ground := Ground.data }, { on := 2, ground := Ground.data }], guard := Option.none }) (v := ?_) (by rfl) ?_ (fun wS hSw => ?_) ?_
          rotate_left
          · kernel_rfl
          · (try dsimp only at hSw); go_simp; (try with_reducible rfl)
          try simp only [Act.put, List.setIfInBounds_toArray, List.set_cons_zero, List.set_cons_succ]
          refine Reg.G_on (o := { dst := some 40, op := Op.fieldAddr 62 (Operand.tmp 39) 2, type := 0, pos := "law.go:46", after := #[{ on := 3, ground := Ground.data }], guard := Option.none }) (v := ?_) (by rfl) ?_ (fun wS hSw => ?_) ?_
          rotate_left
          · kernel_rfl
          · (try dsimp only at hSw); go_simp; (try with_reducible rfl)
          try simp only [Act.put, List.setIfInBounds_toArray, List.set_cons_zero, List.set_cons_succ]
          refine Reg.G_on (o := { dst := some 41, op := Op.load 58 (Operand.tmp 40), type := 58, pos := "law.go:46", after := #[{ on := 4, ground := Ground.data }], guard := Option.none }) (v := ?_) (by rfl) ?_ (fun wS hSw => ?_) ?_
          rotate_left
          · kernel_rfl
          · (try dsimp only at hSw); go_simp; (try with_reducible rfl)
          try simp only [Act.put, List.setIfInBounds_toArray, List.set_cons_zero, List.set_cons_succ]
          refine Reg.G_on (o := { dst := some 42, op := Op.move (Operand.tmp 1), type := 51, pos := "law.go:46", after := #[], guard := Option.none }) (v := ?_) (by rfl) ?_ (fun wS hSw => ?_) ?_
          rotate_left
          · kernel_rfl
          · (try dsimp only at hSw); go_simp; (try with_reducible rfl)
          try simp only [Act.put, List.setIfInBounds_toArray, List.set_cons_zero, List.set_cons_succ]
          refine Reg.G_on (o := { dst := some 43, op := Op.move (Operand.tmp 9), type := 3, pos := "law.go:46", after := #[], guard := Option.none }) (v := ?_) (by rfl) ?_ (fun wS hSw => ?_) ?_
          rotate_left
          · kernel_rfl
          · (try dsimp only at hSw); go_simp; (try with_reducible rfl)
          try simp only [Act.put, List.setIfInBounds_toArray, List.set_cons_zero, List.set_cons_succ]
          refine Reg.G_on (o := { dst := some 44, op := Op.indexAddr 51 (Operand.tmp 42) (Operand.tmp 43), type := 0, pos := "law.go:46", after := #[{ on := 6, ground := Ground.data }, { on := 7, ground := Ground.data }], guard := Option.none }) (v := ?_) (by rfl) ?_ (fun wS hSw => ?_) ?_
          rotate_left
          · kernel_rfl
          · (try dsimp only at hSw); go_simp; (try with_reducible rfl)
          try simp only [Act.put, List.setIfInBounds_toArray, List.set_cons_zero, List.set_cons_succ]
          refine Reg.G_on (o := { dst := some 45, op := Op.fieldAddr 62 (Operand.tmp 44) 3, type := 0, pos := "law.go:46", after := #[{ on := 8, ground := Ground.data }], guard := Option.none }) (v := ?_) (by rfl) ?_ (fun wS hSw => ?_) ?_
          rotate_left
          · kernel_rfl
          · (try dsimp only at hSw); go_simp; (try with_reducible rfl)
          try simp only [Act.put, List.setIfInBounds_toArray, List.set_cons_zero, List.set_cons_succ]
          refine Reg.G_on (o := { dst := some 46, op := Op.load 3 (Operand.tmp 45), type := 3, pos := "law.go:46", after := #[{ on := 9, ground := Ground.data }], guard := Option.none }) (v := ?_) (by rfl) ?_ (fun wS hSw => ?_) ?_
          rotate_left
          · kernel_rfl
          · (try dsimp only at hSw); go_simp; (try with_reducible rfl)
          try simp only [Act.put, List.setIfInBounds_toArray, List.set_cons_zero, List.set_cons_succ]
          refine Reg.G_step (o := { dst := some 47, op := Op.call { callee := Callee.value (Operand.func 32), args := #[Operand.tmp 36, Operand.tmp 41, Operand.tmp 46], argTypes := #[56, 58, 3] }, type := 56, pos := "law.go:46", after := #[{ on := 0, ground := Ground.data }, { on := 5, ground := Ground.data }, { on := 10, ground := Ground.data }], guard := Option.none }) (by rfl) ?_ (fun K hK => ?_)
          · kernel_rfl
          go_simp
          refine (C2).mono ?_
          rintro e w' ⟨v6, rfl, r6, b6⟩
          refine hK.out _ _ ?_ (fun hHeld => ?_)
          · exact ⟨cbel b6 (by simpa using h51) hsl5, cbel b6 (by simpa using h52) hsl5⟩
          clear hK K
          try simp only [Act.put, List.setIfInBounds_toArray, List.set_cons_zero, List.set_cons_succ]
          rename World => w6
          have r6 := oth_new (F := F5) (w := w5.drew) h5.old hbw5 b6 (r6.mono (fun k hk => .inr hk))
          have h6 := h5.below (w' := w6) (bstep (below_drew (Below.refl _ _)) b6)
          have bb6 : Below b w2 w6 := bb5.trans ((bstep (below_drew (Below.refl w5.heap.size w5)) b6).mono (Nat.le_of_lt hbw5))
          clear C2 r5 h5 bb5 b6 h50 h51 h52
          refine Reg.G_on (o := { dst := some 8, op := Op.assign (Operand.tmp 47), type := 56, pos := "law.go:46", after := #[{ on := 11, ground := Ground.data }, { on := 11, ground := Ground.chain }, { on := 0, ground := Ground.phase }, { on := 1, ground := Ground.phase }, { on := 2, ground := Ground.phase }, { on := 3, ground := Ground.phase }, { on := 4, ground := Ground.phase }, { on := 5, ground := Ground.phase }, { on := 6, ground := Ground.phase }, { on := 7, ground := Ground.phase }, { on := 8, ground := Ground.phase }, { on := 9, ground := Ground.phase }, { on := 10, ground := Ground.phase }, { on := 11, ground := Ground.phase }], guard := Option.none }) (v := ?_) (by rfl) ?_ (fun wS hSw => ?_) ?_
          rotate_left
          · kernel_rfl
          · (try dsimp only at hSw); go_simp; (try with_reducible rfl)
          try simp only [Act.put, List.setIfInBounds_toArray, List.set_cons_zero, List.set_cons_succ]
          refine Reg.G_done ?_
          clear hHeld
          go_wp2_with fail
          obtain ⟨A8, c8, rfl, hle8, hA8⟩ := r6.slice
          clear hle8 hA8
          have HS6 := Lib.hid (h6.below (w' := w6.drew) (below_drew (Below.refl _ _)))
          have HR6 := Lib.hid r6.drew
          have HB6 : Hid (Below b w2 w6.drew) := Lib.hid (bb6.trans ((below_drew (Below.refl w6.heap.size w6)).mono (Nat.le_of_lt h6.lt)))
          have ky6 : w6.drew.rangeAt (w.heap.size + 1) 0 (nums .u8 key) := fun j v hj => cbel HB6.out (ky j v hj) hbW.out
          have hbw6 : b < w6.drew.heap.size := h6.lt
          have hy6 : w.heap.size + 1 < w6.drew.heap.size := by have := hbW.out; omega
          have C1 := all HS6.out hlen6.out
          clear h6 r6 bb6
          refine Reg.wp_plan (S := fun w' => w'.rangeAt (w.heap.size + 1) 0 (nums .u8 key)) 21 (.fl 0 (.fl 2 (.one 1 (.one 3 (.fl 4 (.fl 5 (.fl 6 (.fl 8 (.fl 9 (.one 7 (.fl 10 (.fl 11 (.fl 12 (.fl 13 (.fl 14 (.fl 16 (.fl 17 (.one 15 (.one 18 (.fl 19 (.fl 20 .done))))))))))))))))))))) (by kernel_rfl) (by kernel_rfl) (by kernel_rfl) (by kernel_rfl) (fun _ _ _ d _ h => by cases d <;> exact h) ?_ (fun hHeld => ?_)
          · exact ky6
          refine Reg.G_on (o := { dst := some 59, op := Op.move (Operand.tmp 7), type := 54, pos := "law.go:50", after := #[], guard := Option.none }) (v := ?_) (by rfl) ?_ (fun wS hSw => ?_) ?_
          rotate_left
          · kernel_rfl
          · (try dsimp only at hSw); go_simp; (try with_reducible rfl)
          try simp only [Act.put, List.setIfInBounds_toArray, List.set_cons_zero, List.set_cons_succ]
          refine Reg.G_on (o := { dst := some 61, op := Op.move (Operand.tmp 8), type := 56, pos := "law.go:50", after := #[], guard := Option.none }) (v := ?_) (by rfl) ?_ (fun wS hSw => ?_) ?_
          rotate_left
          · kernel_rfl
          · (try dsimp only at hSw); go_simp; (try with_reducible rfl)
          try simp only [Act.put, List.setIfInBounds_toArray, List.set_cons_zero, List.set_cons_succ]
          refine Reg.G_step (o := { dst := some 60, op := Op.call { callee := Callee.value (Operand.func 35), args := #[Operand.tmp 59], argTypes := #[54] }, type := 56, pos := "law.go:50", after := #[{ on := 0, ground := Ground.data }], guard := Option.none }) (by rfl) ?_ (fun K hK => ?_)
          · kernel_rfl
          go_simp
          refine (C1).mono ?_
          rintro e w' ⟨v7, rfl, r7, b7⟩
          refine hK.out _ _ ?_ (fun hHeld => ?_)
          · exact range_below ky6 b7 hy6
          clear hK K
          try simp only [Act.put, List.setIfInBounds_toArray, List.set_cons_zero, List.set_cons_succ]
          rename World => w7
          have C2 := rsame r7 (HR6.out.below (w' := w7) b7)
          rw [decide_eq_true rfl] at C2
          obtain ⟨A7, c7, rfl, hle7, hA7⟩ := r7.slice
          clear hle7 hA7
          skip
          refine Reg.G_step (o := { dst := some 62, op := Op.call { callee := Callee.value (Operand.func 34), args := #[Operand.tmp 60, Operand.tmp 61], argTypes := #[56, 56] }, type := 4, pos := "law.go:50", after := #[{ on := 1, ground := Ground.data }, { on := 2, ground := Ground.data }, { on := 1, ground := Ground.chain }], guard := Option.none }) (by rfl) ?_ (fun K hK => ?_)
          · kernel_rfl
          go_simp
          refine (C2).mono ?_
          rintro e w' ⟨rfl, b8⟩
          refine hK.out _ _ ?_ (fun hHeld => ?_)
          · exact range_below ky6 (bstep (a := w6.drew) b7 b8) hy6
          clear hK K
          try simp only [Act.put, List.setIfInBounds_toArray, List.set_cons_zero, List.set_cons_succ]
          rename World => w8
          have B8 := bstep (a := w6.drew) b7 b8
          clear C1 C2 b7 b8 r7
          have C3 := len (HS6.out.below (w' := w8) B8)
          refine Reg.G_on (o := { dst := some 63, op := Op.unOp UnOp.not 4 (Operand.tmp 62), type := 4, pos := "law.go:50", after := #[{ on := 3, ground := Ground.data }], guard := Option.none }) (v := ?_) (by rfl) ?_ (fun wS hSw => ?_) ?_
          rotate_left
          · kernel_rfl
          · (try dsimp only at hSw); go_simp; (try with_reducible rfl)
          try simp only [Act.put, List.setIfInBounds_toArray, List.set_cons_zero, List.set_cons_succ]
          refine Reg.G_on (o := { dst := some 64, op := Op.move (Operand.tmp 63), type := 4, pos := "law.go:50", after := #[{ on := 4, ground := Ground.data }, { on := 3, ground := Ground.chain }], guard := Option.none }) (v := ?_) (by rfl) ?_ (fun wS hSw => ?_) ?_
          rotate_left
          · kernel_rfl
          · (try dsimp only at hSw); go_simp; (try with_reducible rfl)
          try simp only [Act.put, List.setIfInBounds_toArray, List.set_cons_zero, List.set_cons_succ]
          refine Reg.G_on (o := { dst := some 65, op := Op.move (Operand.tmp 7), type := 54, pos := "law.go:50", after := #[{ on := 5, ground := Ground.guard }], guard := some (5, false) }) (v := ?_) (by rfl) ?_ (fun wS hSw => ?_) ?_
          rotate_left
          · kernel_rfl
          · (try dsimp only at hSw); go_simp; (try with_reducible rfl)
          try simp only [Act.put, List.setIfInBounds_toArray, List.set_cons_zero, List.set_cons_succ]
          refine Reg.G_on (o := { dst := some 67, op := Op.move (Operand.tmp 8), type := 56, pos := "law.go:50", after := #[{ on := 5, ground := Ground.guard }], guard := some (5, false) }) (v := ?_) (by rfl) ?_ (fun wS hSw => ?_) ?_
          rotate_left
          · kernel_rfl
          · (try dsimp only at hSw); go_simp; (try with_reducible rfl)
          try simp only [Act.put, List.setIfInBounds_toArray, List.set_cons_zero, List.set_cons_succ]
          refine Reg.G_on (o := { dst := some 68, op := Op.call { callee := Callee.builtin Builtin.len, args := #[Operand.tmp 67], argTypes := #[56] }, type := 3, pos := "law.go:50", after := #[{ on := 8, ground := Ground.data }, { on := 5, ground := Ground.guard }], guard := some (5, false) }) (v := ?_) (by rfl) ?_ (fun wS hSw => ?_) ?_
          rotate_left
          · kernel_rfl
          · (try dsimp only at hSw); go_simp; (try with_reducible rfl)
          try simp only [Act.put, List.setIfInBounds_toArray, List.set_cons_zero, List.set_cons_succ]
          refine Reg.G_step (o := { dst := some 66, op := Op.call { callee := Callee.value (Operand.func 36), args := #[Operand.tmp 65], argTypes := #[54] }, type := 3, pos := "law.go:50", after := #[{ on := 6, ground := Ground.data }, { on := 5, ground := Ground.chain }, { on := 5, ground := Ground.guard }], guard := some (5, false) }) (by rfl) ?_ (fun K hK => ?_)
          · kernel_rfl
          go_simp
          refine (C3).mono ?_
          rintro e w' ⟨rfl, rfl⟩
          refine hK.out _ _ ?_ (fun hHeld => ?_)
          · exact range_below ky6 B8 hy6
          clear hK K
          try simp only [Act.put, List.setIfInBounds_toArray, List.set_cons_zero, List.set_cons_succ]
          have C4 := of (HS6.out.below (w' := w8) B8) hlen6.out key HK.out
          refine Reg.G_on (o := { dst := some 69, op := Op.binOp BinOp.neq 3 (Operand.tmp 66) (Operand.tmp 68) 3, type := 4, pos := "law.go:50", after := #[{ on := 7, ground := Ground.data }, { on := 9, ground := Ground.data }, { on := 5, ground := Ground.guard }], guard := some (5, false) }) (v := ?_) (by rfl) ?_ (fun wS hSw => ?_) ?_
          rotate_left
          · kernel_rfl
          · (try dsimp only at hSw); go_simp; (try with_reducible rfl)
          try simp only [Act.put, List.setIfInBounds_toArray, List.set_cons_zero, List.set_cons_succ]
          refine Reg.G_on (o := { dst := some 70, op := Op.pick (Operand.tmp 64) (Operand.const (Value.bool true)) (Operand.tmp 69), type := 4, pos := "law.go:50", after := #[{ on := 5, ground := Ground.data }, { on := 10, ground := Ground.data }], guard := Option.none }) (v := ?_) (by rfl) ?_ (fun wS hSw => ?_) ?_
          rotate_left
          · kernel_rfl
          · (try dsimp only at hSw); go_simp; (try with_reducible rfl)
          try simp only [Act.put, List.setIfInBounds_toArray, List.set_cons_zero, List.set_cons_succ]
          refine Reg.G_on (o := { dst := some 71, op := Op.move (Operand.tmp 70), type := 4, pos := "law.go:50", after := #[{ on := 11, ground := Ground.data }, { on := 7, ground := Ground.chain }], guard := Option.none }) (v := ?_) (by rfl) ?_ (fun wS hSw => ?_) ?_
          rotate_left
          · kernel_rfl
          · (try dsimp only at hSw); go_simp; (try with_reducible rfl)
          try simp only [Act.put, List.setIfInBounds_toArray, List.set_cons_zero, List.set_cons_succ]
          refine Reg.G_on (o := { dst := some 72, op := Op.move (Operand.tmp 7), type := 54, pos := "law.go:50", after := #[{ on := 12, ground := Ground.guard }], guard := some (12, false) }) (v := ?_) (by rfl) ?_ (fun wS hSw => ?_) ?_
          rotate_left
          · kernel_rfl
          · (try dsimp only at hSw); go_simp; (try with_reducible rfl)
          try simp only [Act.put, List.setIfInBounds_toArray, List.set_cons_zero, List.set_cons_succ]
          refine Reg.G_on (o := { dst := some 73, op := Op.load 53 (Operand.tmp 5), type := 53, pos := "law.go:50", after := #[{ on := 12, ground := Ground.guard }], guard := some (12, false) }) (v := .agg (nums .u8 key).toArray) (by rfl) ?_ (fun wS hSw => ?_) ?_
          · kernel_rfl
          · exact load_yields rfl rfl hSw Try.underlying53 rfl (key17 _ HK.out.1)
          try simp only [Act.put, List.setIfInBounds_toArray, List.set_cons_zero, List.set_cons_succ]
          refine Reg.G_on (o := { dst := some 75, op := Op.move (Operand.tmp 8), type := 56, pos := "law.go:50", after := #[{ on := 12, ground := Ground.guard }], guard := some (12, false) }) (v := ?_) (by rfl) ?_ (fun wS hSw => ?_) ?_
          rotate_left
          · kernel_rfl
          · (try dsimp only at hSw); go_simp; (try with_reducible rfl)
          try simp only [Act.put, List.setIfInBounds_toArray, List.set_cons_zero, List.set_cons_succ]
          refine Reg.G_on (o := { dst := some 76, op := Op.load 53 (Operand.tmp 5), type := 53, pos := "law.go:50", after := #[{ on := 12, ground := Ground.guard }], guard := some (12, false) }) (v := .agg (nums .u8 key).toArray) (by rfl) ?_ (fun wS hSw => ?_) ?_
          · kernel_rfl
          · exact load_yields rfl rfl hSw Try.underlying53 rfl (key17 _ HK.out.1)
          try simp only [Act.put, List.setIfInBounds_toArray, List.set_cons_zero, List.set_cons_succ]
          refine Reg.G_step (o := { dst := some 74, op := Op.call { callee := Callee.value (Operand.func 37), args := #[Operand.tmp 72, Operand.tmp 73], argTypes := #[54, 53] }, type := 3, pos := "law.go:50", after := #[{ on := 13, ground := Ground.data }, { on := 14, ground := Ground.data }, { on := 12, ground := Ground.chain }, { on := 12, ground := Ground.guard }], guard := some (12, false) }) (by rfl) ?_ (fun K hK => ?_)
          · kernel_rfl
          go_simp
          refine (C4).mono ?_
          rintro e w' ⟨rfl, b9⟩
          refine hK.out _ _ ?_ (fun hHeld => ?_)
          · exact range_below ky6 (bstep (a := w6.drew) B8 b9) hy6
          clear hK K
          try simp only [Act.put, List.setIfInBounds_toArray, List.set_cons_zero, List.set_cons_succ]
          rename World => w9
          have B9 := bstep (a := w6.drew) B8 b9
          have C5 := rof (HR6.out.below (w' := w9) B9) key HK.out
          skip
          refine Reg.G_step (o := { dst := some 77, op := Op.call { callee := Callee.value (Operand.func 38), args := #[Operand.tmp 75, Operand.tmp 76], argTypes := #[56, 53] }, type := 3, pos := "law.go:50", after := #[{ on := 16, ground := Ground.data }, { on := 17, ground := Ground.data }, { on := 15, ground := Ground.chain }, { on := 12, ground := Ground.guard }], guard := some (12, false) }) (by rfl) ?_ (fun K hK => ?_)
          · kernel_rfl
          go_simp
          refine (C5).mono ?_
          rintro e w' ⟨rfl, b10⟩
          refine hK.out _ _ ?_ (fun hHeld => ?_)
          · exact range_below ky6 (bstep (a := w6.drew) B9 b10) hy6
          clear hK K
          try simp only [Act.put, List.setIfInBounds_toArray, List.set_cons_zero, List.set_cons_succ]
          rename World => w10
          have B10 := bstep (a := w6.drew) B9 b10
          clear B8 B9 b9 b10 C3 C4 C5
          refine Reg.G_on (o := { dst := some 78, op := Op.binOp BinOp.neq 3 (Operand.tmp 74) (Operand.tmp 77) 3, type := 4, pos := "law.go:50", after := #[{ on := 15, ground := Ground.data }, { on := 18, ground := Ground.data }, { on := 12, ground := Ground.guard }], guard := some (12, false) }) (v := ?_) (by rfl) ?_ (fun wS hSw => ?_) ?_
          rotate_left
          · kernel_rfl
          · (try dsimp only at hSw); go_simp; (try with_reducible rfl)
          try simp only [Act.put, List.setIfInBounds_toArray, List.set_cons_zero, List.set_cons_succ]
          refine Reg.G_on (o := { dst := some 79, op := Op.pick (Operand.tmp 71) (Operand.const (Value.bool true)) (Operand.tmp 78), type := 4, pos := "law.go:50", after := #[{ on := 12, ground := Ground.data }, { on := 19, ground := Ground.data }], guard := Option.none }) (v := ?_) (by rfl) ?_ (fun wS hSw => ?_) ?_
          rotate_left
          · kernel_rfl
          · (try dsimp only at hSw); go_simp; (try with_reducible rfl)
          try simp only [Act.put, List.setIfInBounds_toArray, List.set_cons_zero, List.set_cons_succ]
          refine Reg.G_done ?_
          clear hHeld
          go_wp2
          rw [show (i : Int) + 1 = ((i + 1 : Nat) : Int) from rfl]
          refine ⟨⟨i + 1, F5, rfl, hlt2.out, by rw [hst2.out]; exact (HR6.out.below (w' := w10) B10).mono (fun k hk => ⟨hk.1, hk.2.1, Nat.lt_of_lt_of_le hk.2.2 B10.size⟩), by rw [hst2.out]; exact HS6.out.below (w' := w10) B10, hF5.out, HB6.out.trans (B10.mono (Nat.le_of_lt hbw6))⟩, meas _ _ hlt2.out⟩
        | false =>
          rw [hag] at h50
          rw [hag, if_neg (by decide)] at h5 hst2 hlen6
          have C2 := rput (r5.drew) ka kb x.s hxl.out
          generalize hput (mx0 ka) (mx0 kb) xs x.s = ys at *
          generalize x.s = sm at *
          clear h51 h52 hn hag
          go_wp2_with fail
          refine Reg.wp_plan (S := fun w' => w'.cell? ⟨w.heap.size, 0, none⟩ = some (.int .i64 ka) ∧ w'.cell? ⟨w.heap.size, 1, none⟩ = some (.int .i64 kb) ∧ w'.rangeAt (ad.add (i * 26)).block ((ad.add (i * 26)).off + 1) (cells sm)) 12 (.fl 0 (.fl 1 (.fl 2 (.fl 3 (.fl 4 (.fl 5 (.fl 6 (.fl 7 (.fl 8 (.fl 9 (.one 10 (.fl 11 .done)))))))))))) (by kernel_rfl) (by kernel_rfl) (by kernel_rfl) (by kernel_rfl) (fun _ _ _ d _ h => by cases d <;> exact h) ?_ (fun hHeld => ?_)
          · exact ⟨by simpa using c50, by simpa using c51, h53⟩
          refine Reg.G_on (o := { dst := some 48, op := Op.move (Operand.tmp 8), type := 56, pos := "law.go:48", after := #[], guard := Option.none }) (v := ?_) (by rfl) ?_ (fun wS hSw => ?_) ?_
          rotate_left
          · kernel_rfl
          · (try dsimp only at hSw); go_simp; (try with_reducible rfl)
          try simp only [Act.put, List.setIfInBounds_toArray, List.set_cons_zero, List.set_cons_succ]
          refine Reg.G_on (o := { dst := some 49, op := Op.indexAddr 50 (Operand.tmp 3) (Operand.const (Value.int IntKind.i64 0)), type := 0, pos := "law.go:48", after := #[], guard := Option.none }) (v := ?_) (by rfl) ?_ (fun wS hSw => ?_) ?_
          rotate_left
          · kernel_rfl
          · (try dsimp only at hSw); go_simp; (try with_reducible rfl)
          try simp only [Act.put, List.setIfInBounds_toArray, List.set_cons_zero, List.set_cons_succ]
          refine Reg.G_on (o := { dst := some 50, op := Op.load 3 (Operand.tmp 49), type := 3, pos := "law.go:48", after := #[{ on := 1, ground := Ground.data }], guard := Option.none }) (v := ?_) (by rfl) ?_ (fun wS hSw => ?_) ?_
          rotate_left
          · kernel_rfl
          · (try dsimp only at hSw); go_simp; (try with_reducible rfl)
          try simp only [Act.put, List.setIfInBounds_toArray, List.set_cons_zero, List.set_cons_succ]
          refine Reg.G_on (o := { dst := some 51, op := Op.indexAddr 50 (Operand.tmp 3) (Operand.const (Value.int IntKind.i64 1)), type := 0, pos := "law.go:48", after := #[], guard := Option.none }) (v := ?_) (by rfl) ?_ (fun wS hSw => ?_) ?_
          rotate_left
          · kernel_rfl
          · (try dsimp only at hSw); go_simp; (try with_reducible rfl)
          try simp only [Act.put, List.setIfInBounds_toArray, List.set_cons_zero, List.set_cons_succ]
          refine Reg.G_on (o := { dst := some 52, op := Op.load 3 (Operand.tmp 51), type := 3, pos := "law.go:48", after := #[{ on := 3, ground := Ground.data }], guard := Option.none }) (v := ?_) (by rfl) ?_ (fun wS hSw => ?_) ?_
          rotate_left
          · kernel_rfl
          · (try dsimp only at hSw); go_simp; (try with_reducible rfl)
          try simp only [Act.put, List.setIfInBounds_toArray, List.set_cons_zero, List.set_cons_succ]
          refine Reg.G_on (o := { dst := some 53, op := Op.move (Operand.tmp 1), type := 51, pos := "law.go:48", after := #[], guard := Option.none }) (v := ?_) (by rfl) ?_ (fun wS hSw => ?_) ?_
          rotate_left
          · kernel_rfl
          · (try dsimp only at hSw); go_simp; (try with_reducible rfl)
          try simp only [Act.put, List.setIfInBounds_toArray, List.set_cons_zero, List.set_cons_succ]
          refine Reg.G_on (o := { dst := some 54, op := Op.move (Operand.tmp 9), type := 3, pos := "law.go:48", after := #[], guard := Option.none }) (v := ?_) (by rfl) ?_ (fun wS hSw => ?_) ?_
          rotate_left
          · kernel_rfl
          · (try dsimp only at hSw); go_simp; (try with_reducible rfl)
          try simp only [Act.put, List.setIfInBounds_toArray, List.set_cons_zero, List.set_cons_succ]
          refine Reg.G_on (o := { dst := some 55, op := Op.indexAddr 51 (Operand.tmp 53) (Operand.tmp 54), type := 0, pos := "law.go:48", after := #[{ on := 5, ground := Ground.data }, { on := 6, ground := Ground.data }], guard := Option.none }) (v := ?_) (by rfl) ?_ (fun wS hSw => ?_) ?_
          rotate_left
          · kernel_rfl
          · (try dsimp only at hSw); go_simp; (try with_reducible rfl)
          try simp only [Act.put, List.setIfInBounds_toArray, List.set_cons_zero, List.set_cons_succ]
          refine Reg.G_on (o := { dst := some 56, op := Op.fieldAddr 62 (Operand.tmp 55) 1, type := 0, pos := "law.go:48", after := #[{ on := 7, ground := Ground.data }], guard := Option.none }) (v := ?_) (by rfl) ?_ (fun wS hSw => ?_) ?_
          rotate_left
          · kernel_rfl
          · (try dsimp only at hSw); go_simp; (try with_reducible rfl)
          try simp only [Act.put, List.setIfInBounds_toArray, List.set_cons_zero, List.set_cons_succ]
          refine Reg.G_on (o := { dst := some 57, op := Op.load 60 (Operand.tmp 56), type := 60, pos := "law.go:48", after := #[{ on := 8, ground := Ground.data }], guard := Option.none }) (v := .agg (cells sm).toArray) (by rfl) ?_ (fun wS hSw => ?_) ?_
          · kernel_rfl
          · exact load_yields rfl rfl hSw.2.2 Try.underlying60 rfl (size23 sm)
          try simp only [Act.put, List.setIfInBounds_toArray, List.set_cons_zero, List.set_cons_succ]
          refine Reg.G_step (o := { dst := some 58, op := Op.call { callee := Callee.value (Operand.func 33), args := #[Operand.tmp 48, Operand.tmp 50, Operand.tmp 52, Operand.tmp 57], argTypes := #[56, 3, 3, 60] }, type := 56, pos := "law.go:48", after := #[{ on := 0, ground := Ground.data }, { on := 2, ground := Ground.data }, { on := 4, ground := Ground.data }, { on := 9, ground := Ground.data }], guard := Option.none }) (by rfl) ?_ (fun K hK => ?_)
          · kernel_rfl
          go_simp
          refine (C2).mono ?_
          rintro e w' ⟨v6, rfl, r6, b6⟩
          refine hK.out _ _ ?_ (fun hHeld => ?_)
          · exact ⟨cbel b6 (by simpa using c50) hwb5, cbel b6 (by simpa using c51) hwb5, range_below (w := w5.drew) h53 b6 hsl5⟩
          clear hK K
          try simp only [Act.put, List.setIfInBounds_toArray, List.set_cons_zero, List.set_cons_succ]
          rename World => w6
          have r6 := oth_new (F := F5) (w := w5.drew) h5.old hbw5 b6 r6
          have h6 := h5.below (w' := w6) (bstep (below_drew (Below.refl _ _)) b6)
          have bb6 : Below b w2 w6 := bb5.trans ((bstep (below_drew (Below.refl w5.heap.size w5)) b6).mono (Nat.le_of_lt hbw5))
          clear C2 r5 h5 bb5 b6 h50 h53 c50 c51
          refine Reg.G_on (o := { dst := some 8, op := Op.assign (Operand.tmp 58), type := 56, pos := "law.go:48", after := #[{ on := 10, ground := Ground.data }, { on := 10, ground := Ground.chain }, { on := 0, ground := Ground.phase }, { on := 1, ground := Ground.phase }, { on := 2, ground := Ground.phase }, { on := 3, ground := Ground.phase }, { on := 4, ground := Ground.phase }, { on := 5, ground := Ground.phase }, { on := 6, ground := Ground.phase }, { on := 7, ground := Ground.phase }, { on := 8, ground := Ground.phase }, { on := 9, ground := Ground.phase }, { on := 10, ground := Ground.phase }], guard := Option.none }) (v := ?_) (by rfl) ?_ (fun wS hSw => ?_) ?_
          rotate_left
          · kernel_rfl
          · (try dsimp only at hSw); go_simp; (try with_reducible rfl)
          try simp only [Act.put, List.setIfInBounds_toArray, List.set_cons_zero, List.set_cons_succ]
          refine Reg.G_done ?_
          clear hHeld
          go_wp2_with fail
          obtain ⟨A8, c8, rfl, hle8, hA8⟩ := r6.slice
          clear hle8 hA8
          have HS6 := Lib.hid (h6.below (w' := w6.drew) (below_drew (Below.refl _ _)))
          have HR6 := Lib.hid r6.drew
          have HB6 : Hid (Below b w2 w6.drew) := Lib.hid (bb6.trans ((below_drew (Below.refl w6.heap.size w6)).mono (Nat.le_of_lt h6.lt)))
          have ky6 : w6.drew.rangeAt (w.heap.size + 1) 0 (nums .u8 key) := fun j v hj => cbel HB6.out (ky j v hj) hbW.out
          have hbw6 : b < w6.drew.heap.size := h6.lt
          have hy6 : w.heap.size + 1 < w6.drew.heap.size := by have := hbW.out; omega
          have C1 := all HS6.out hlen6.out
          clear h6 r6 bb6
          refine Reg.wp_plan (S := fun w' => w'.rangeAt (w.heap.size + 1) 0 (nums .u8 key)) 21 (.fl 0 (.fl 2 (.one 1 (.one 3 (.fl 4 (.fl 5 (.fl 6 (.fl 8 (.fl 9 (.one 7 (.fl 10 (.fl 11 (.fl 12 (.fl 13 (.fl 14 (.fl 16 (.fl 17 (.one 15 (.one 18 (.fl 19 (.fl 20 .done))))))))))))))))))))) (by kernel_rfl) (by kernel_rfl) (by kernel_rfl) (by kernel_rfl) (fun _ _ _ d _ h => by cases d <;> exact h) ?_ (fun hHeld => ?_)
          · exact ky6
          refine Reg.G_on (o := { dst := some 59, op := Op.move (Operand.tmp 7), type := 54, pos := "law.go:50", after := #[], guard := Option.none }) (v := ?_) (by rfl) ?_ (fun wS hSw => ?_) ?_
          rotate_left
          · kernel_rfl
          · (try dsimp only at hSw); go_simp; (try with_reducible rfl)
          try simp only [Act.put, List.setIfInBounds_toArray, List.set_cons_zero, List.set_cons_succ]
          refine Reg.G_on (o := { dst := some 61, op := Op.move (Operand.tmp 8), type := 56, pos := "law.go:50", after := #[], guard := Option.none }) (v := ?_) (by rfl) ?_ (fun wS hSw => ?_) ?_
          rotate_left
          · kernel_rfl
          · (try dsimp only at hSw); go_simp; (try with_reducible rfl)
          try simp only [Act.put, List.setIfInBounds_toArray, List.set_cons_zero, List.set_cons_succ]
          refine Reg.G_step (o := { dst := some 60, op := Op.call { callee := Callee.value (Operand.func 35), args := #[Operand.tmp 59], argTypes := #[54] }, type := 56, pos := "law.go:50", after := #[{ on := 0, ground := Ground.data }], guard := Option.none }) (by rfl) ?_ (fun K hK => ?_)
          · kernel_rfl
          go_simp
          refine (C1).mono ?_
          rintro e w' ⟨v7, rfl, r7, b7⟩
          refine hK.out _ _ ?_ (fun hHeld => ?_)
          · exact range_below ky6 b7 hy6
          clear hK K
          try simp only [Act.put, List.setIfInBounds_toArray, List.set_cons_zero, List.set_cons_succ]
          rename World => w7
          have C2 := rsame r7 (HR6.out.below (w' := w7) b7)
          rw [decide_eq_true rfl] at C2
          obtain ⟨A7, c7, rfl, hle7, hA7⟩ := r7.slice
          clear hle7 hA7
          skip
          refine Reg.G_step (o := { dst := some 62, op := Op.call { callee := Callee.value (Operand.func 34), args := #[Operand.tmp 60, Operand.tmp 61], argTypes := #[56, 56] }, type := 4, pos := "law.go:50", after := #[{ on := 1, ground := Ground.data }, { on := 2, ground := Ground.data }, { on := 1, ground := Ground.chain }], guard := Option.none }) (by rfl) ?_ (fun K hK => ?_)
          · kernel_rfl
          go_simp
          refine (C2).mono ?_
          rintro e w' ⟨rfl, b8⟩
          refine hK.out _ _ ?_ (fun hHeld => ?_)
          · exact range_below ky6 (bstep (a := w6.drew) b7 b8) hy6
          clear hK K
          try simp only [Act.put, List.setIfInBounds_toArray, List.set_cons_zero, List.set_cons_succ]
          rename World => w8
          have B8 := bstep (a := w6.drew) b7 b8
          clear C1 C2 b7 b8 r7
          have C3 := len (HS6.out.below (w' := w8) B8)
          refine Reg.G_on (o := { dst := some 63, op := Op.unOp UnOp.not 4 (Operand.tmp 62), type := 4, pos := "law.go:50", after := #[{ on := 3, ground := Ground.data }], guard := Option.none }) (v := ?_) (by rfl) ?_ (fun wS hSw => ?_) ?_
          rotate_left
          · kernel_rfl
          · (try dsimp only at hSw); go_simp; (try with_reducible rfl)
          try simp only [Act.put, List.setIfInBounds_toArray, List.set_cons_zero, List.set_cons_succ]
          refine Reg.G_on (o := { dst := some 64, op := Op.move (Operand.tmp 63), type := 4, pos := "law.go:50", after := #[{ on := 4, ground := Ground.data }, { on := 3, ground := Ground.chain }], guard := Option.none }) (v := ?_) (by rfl) ?_ (fun wS hSw => ?_) ?_
          rotate_left
          · kernel_rfl
          · (try dsimp only at hSw); go_simp; (try with_reducible rfl)
          try simp only [Act.put, List.setIfInBounds_toArray, List.set_cons_zero, List.set_cons_succ]
          refine Reg.G_on (o := { dst := some 65, op := Op.move (Operand.tmp 7), type := 54, pos := "law.go:50", after := #[{ on := 5, ground := Ground.guard }], guard := some (5, false) }) (v := ?_) (by rfl) ?_ (fun wS hSw => ?_) ?_
          rotate_left
          · kernel_rfl
          · (try dsimp only at hSw); go_simp; (try with_reducible rfl)
          try simp only [Act.put, List.setIfInBounds_toArray, List.set_cons_zero, List.set_cons_succ]
          refine Reg.G_on (o := { dst := some 67, op := Op.move (Operand.tmp 8), type := 56, pos := "law.go:50", after := #[{ on := 5, ground := Ground.guard }], guard := some (5, false) }) (v := ?_) (by rfl) ?_ (fun wS hSw => ?_) ?_
          rotate_left
          · kernel_rfl
          · (try dsimp only at hSw); go_simp; (try with_reducible rfl)
          try simp only [Act.put, List.setIfInBounds_toArray, List.set_cons_zero, List.set_cons_succ]
          refine Reg.G_on (o := { dst := some 68, op := Op.call { callee := Callee.builtin Builtin.len, args := #[Operand.tmp 67], argTypes := #[56] }, type := 3, pos := "law.go:50", after := #[{ on := 8, ground := Ground.data }, { on := 5, ground := Ground.guard }], guard := some (5, false) }) (v := ?_) (by rfl) ?_ (fun wS hSw => ?_) ?_
          rotate_left
          · kernel_rfl
          · (try dsimp only at hSw); go_simp; (try with_reducible rfl)
          try simp only [Act.put, List.setIfInBounds_toArray, List.set_cons_zero, List.set_cons_succ]
          refine Reg.G_step (o := { dst := some 66, op := Op.call { callee := Callee.value (Operand.func 36), args := #[Operand.tmp 65], argTypes := #[54] }, type := 3, pos := "law.go:50", after := #[{ on := 6, ground := Ground.data }, { on := 5, ground := Ground.chain }, { on := 5, ground := Ground.guard }], guard := some (5, false) }) (by rfl) ?_ (fun K hK => ?_)
          · kernel_rfl
          go_simp
          refine (C3).mono ?_
          rintro e w' ⟨rfl, rfl⟩
          refine hK.out _ _ ?_ (fun hHeld => ?_)
          · exact range_below ky6 B8 hy6
          clear hK K
          try simp only [Act.put, List.setIfInBounds_toArray, List.set_cons_zero, List.set_cons_succ]
          have C4 := of (HS6.out.below (w' := w8) B8) hlen6.out key HK.out
          refine Reg.G_on (o := { dst := some 69, op := Op.binOp BinOp.neq 3 (Operand.tmp 66) (Operand.tmp 68) 3, type := 4, pos := "law.go:50", after := #[{ on := 7, ground := Ground.data }, { on := 9, ground := Ground.data }, { on := 5, ground := Ground.guard }], guard := some (5, false) }) (v := ?_) (by rfl) ?_ (fun wS hSw => ?_) ?_
          rotate_left
          · kernel_rfl
          · (try dsimp only at hSw); go_simp; (try with_reducible rfl)
          try simp only [Act.put, List.setIfInBounds_toArray, List.set_cons_zero, List.set_cons_succ]
          refine Reg.G_on (o := { dst := some 70, op := Op.pick (Operand.tmp 64) (Operand.const (Value.bool true)) (Operand.tmp 69), type := 4, pos := "law.go:50", after := #[{ on := 5, ground := Ground.data }, { on := 10, ground := Ground.data }], guard := Option.none }) (v := ?_) (by rfl) ?_ (fun wS hSw => ?_) ?_
          rotate_left
          · kernel_rfl
          · (try dsimp only at hSw); go_simp; (try with_reducible rfl)
          try simp only [Act.put, List.setIfInBounds_toArray, List.set_cons_zero, List.set_cons_succ]
          refine Reg.G_on (o := { dst := some 71, op := Op.move (Operand.tmp 70), type := 4, pos := "law.go:50", after := #[{ on := 11, ground := Ground.data }, { on := 7, ground := Ground.chain }], guard := Option.none }) (v := ?_) (by rfl) ?_ (fun wS hSw => ?_) ?_
          rotate_left
          · kernel_rfl
          · (try dsimp only at hSw); go_simp; (try with_reducible rfl)
          try simp only [Act.put, List.setIfInBounds_toArray, List.set_cons_zero, List.set_cons_succ]
          refine Reg.G_on (o := { dst := some 72, op := Op.move (Operand.tmp 7), type := 54, pos := "law.go:50", after := #[{ on := 12, ground := Ground.guard }], guard := some (12, false) }) (v := ?_) (by rfl) ?_ (fun wS hSw => ?_) ?_
          rotate_left
          · kernel_rfl
          · (try dsimp only at hSw); go_simp; (try with_reducible rfl)
          try simp only [Act.put, List.setIfInBounds_toArray, List.set_cons_zero, List.set_cons_succ]
          refine Reg.G_on (o := { dst := some 73, op := Op.load 53 (Operand.tmp 5), type := 53, pos := "law.go:50", after := #[{ on := 12, ground := Ground.guard }], guard := some (12, false) }) (v := .agg (nums .u8 key).toArray) (by rfl) ?_ (fun wS hSw => ?_) ?_
          · kernel_rfl
          · exact load_yields rfl rfl hSw Try.underlying53 rfl (key17 _ HK.out.1)
          try simp only [Act.put, List.setIfInBounds_toArray, List.set_cons_zero, List.set_cons_succ]
          refine Reg.G_on (o := { dst := some 75, op := Op.move (Operand.tmp 8), type := 56, pos := "law.go:50", after := #[{ on := 12, ground := Ground.guard }], guard := some (12, false) }) (v := ?_) (by rfl) ?_ (fun wS hSw => ?_) ?_
          rotate_left
          · kernel_rfl
          · (try dsimp only at hSw); go_simp; (try with_reducible rfl)
          try simp only [Act.put, List.setIfInBounds_toArray, List.set_cons_zero, List.set_cons_succ]
          refine Reg.G_on (o := { dst := some 76, op := Op.load 53 (Operand.tmp 5), type := 53, pos := "law.go:50", after := #[{ on := 12, ground := Ground.guard }], guard := some (12, false) }) (v := .agg (nums .u8 key).toArray) (by rfl) ?_ (fun wS hSw => ?_) ?_
          · kernel_rfl
          · exact load_yields rfl rfl hSw Try.underlying53 rfl (key17 _ HK.out.1)
          try simp only [Act.put, List.setIfInBounds_toArray, List.set_cons_zero, List.set_cons_succ]
          refine Reg.G_step (o := { dst := some 74, op := Op.call { callee := Callee.value (Operand.func 37), args := #[Operand.tmp 72, Operand.tmp 73], argTypes := #[54, 53] }, type := 3, pos := "law.go:50", after := #[{ on := 13, ground := Ground.data }, { on := 14, ground := Ground.data }, { on := 12, ground := Ground.chain }, { on := 12, ground := Ground.guard }], guard := some (12, false) }) (by rfl) ?_ (fun K hK => ?_)
          · kernel_rfl
          go_simp
          refine (C4).mono ?_
          rintro e w' ⟨rfl, b9⟩
          refine hK.out _ _ ?_ (fun hHeld => ?_)
          · exact range_below ky6 (bstep (a := w6.drew) B8 b9) hy6
          clear hK K
          try simp only [Act.put, List.setIfInBounds_toArray, List.set_cons_zero, List.set_cons_succ]
          rename World => w9
          have B9 := bstep (a := w6.drew) B8 b9
          have C5 := rof (HR6.out.below (w' := w9) B9) key HK.out
          skip
          refine Reg.G_step (o := { dst := some 77, op := Op.call { callee := Callee.value (Operand.func 38), args := #[Operand.tmp 75, Operand.tmp 76], argTypes := #[56, 53] }, type := 3, pos := "law.go:50", after := #[{ on := 16, ground := Ground.data }, { on := 17, ground := Ground.data }, { on := 15, ground := Ground.chain }, { on := 12, ground := Ground.guard }], guard := some (12, false) }) (by rfl) ?_ (fun K hK => ?_)
          · kernel_rfl
          go_simp
          refine (C5).mono ?_
          rintro e w' ⟨rfl, b10⟩
          refine hK.out _ _ ?_ (fun hHeld => ?_)
          · exact range_below ky6 (bstep (a := w6.drew) B9 b10) hy6
          clear hK K
          try simp only [Act.put, List.setIfInBounds_toArray, List.set_cons_zero, List.set_cons_succ]
          rename World => w10
          have B10 := bstep (a := w6.drew) B9 b10
          clear B8 B9 b9 b10 C3 C4 C5
          refine Reg.G_on (o := { dst := some 78, op := Op.binOp BinOp.neq 3 (Operand.tmp 74) (Operand.tmp 77) 3, type := 4, pos := "law.go:50", after := #[{ on := 15, ground := Ground.data }, { on := 18, ground := Ground.data }, { on := 12, ground := Ground.guard }], guard := some (12, false) }) (v := ?_) (by rfl) ?_ (fun wS hSw => ?_) ?_
          rotate_left
          · kernel_rfl
          · (try dsimp only at hSw); go_simp; (try with_reducible rfl)
          try simp only [Act.put, List.setIfInBounds_toArray, List.set_cons_zero, List.set_cons_succ]
          refine Reg.G_on (o := { dst := some 79, op := Op.pick (Operand.tmp 71) (Operand.const (Value.bool true)) (Operand.tmp 78), type := 4, pos := "law.go:50", after := #[{ on := 12, ground := Ground.data }, { on := 19, ground := Ground.data }], guard := Option.none }) (v := ?_) (by rfl) ?_ (fun wS hSw => ?_) ?_
          rotate_left
          · kernel_rfl
          · (try dsimp only at hSw); go_simp; (try with_reducible rfl)
          try simp only [Act.put, List.setIfInBounds_toArray, List.set_cons_zero, List.set_cons_succ]
          refine Reg.G_done ?_
          clear hHeld
          go_wp2
          rw [show (i : Int) + 1 = ((i + 1 : Nat) : Int) from rfl]
          refine ⟨⟨i + 1, F5, rfl, hlt2.out, by rw [hst2.out]; exact (HR6.out.below (w' := w10) B10).mono (fun k hk => ⟨hk.1, hk.2.1, Nat.lt_of_lt_of_le hk.2.2 B10.size⟩), by rw [hst2.out]; exact HS6.out.below (w' := w10) B10, hF5.out, HB6.out.trans (B10.mono (Nat.le_of_lt hbw6))⟩, meas _ _ hlt2.out⟩
      · have q1 : ¬ (i : Int) < (l.length : Int) := by omega
        have bbw : Below w.heap.size w wr := HB2.out.trans (bb.mono (by have := hbW.out; omega))
        clear r8 h8 hF bb hlt hi
        go_wp2_with fail
        refine (awake _).mono ?_
        rintro e w9 ⟨rfl, b9⟩
        go_wp2
        go_ret
        exact ⟨rfl, bstep bbw b9⟩
end Go.Proofs.Ytimalojaiaofkaa.His
namespace Go.Proofs.Ytimalojaiaofkaa.His
open Go.RowKit Base Sp Flat Go.Proofs.YtimalojaiaofkaaW.PrintWords Go.Shelf Smp
/-- A later step lets a sample go: it expires, or its instance's note comes. -/
def hits (x : Smp) (m : Stp) : Bool := if m.ages = true then decide (0 < m.life) && Clock.over m.now x.frame m.life else decide (m.s.key = x.key) && decide (m.s.op ≠ 1)
/-- A later step is of the sample's instance. -/
def mate (x : Smp) (m : Stp) : Bool := !m.ages && decide (m.s.key = x.key)
def gone (x : Smp) (r : List Stp) : Bool := r.any (hits x)
def later (x : Smp) (r : List Stp) : Nat := r.countP (mate x)
/-- Is it kept behind the steps r? -/
def okk (d : Int) (x : Stp) (r : List Stp) : Bool := !x.ages && decide (x.s.op = 1) && !gone x.s r && decide ((later x.s r : Int) < d)
def kl (d : Int) : List Stp → List Smp
  | [] => []
  | x :: r => if okk d x r = true then x.s :: kl d r else kl d r
/-- Frames do not fall. -/
def rising (l : List Stp) : Prop := l.Pairwise fun a b => a.ages = false → b.ages = false → a.s.frame ≤ b.s.frame
theorem over_mono {n a b f : Int} (h : a ≤ b) (ho : Clock.over n b f = true) : Clock.over n a f = true := by
  unfold Clock.over at *
  rw [decide_eq_true_eq] at *
  have : Clock.age n b ≤ Clock.age n a := by unfold Clock.age; split <;> split <;> omega
  omega
theorem itk_eq {x y : Smp} (h : y.key = x.key) : itk x.key y = true := by unfold itk; exact decide_eq_true h
theorem gone_cons (x : Smp) (m : Stp) (r : List Stp) : gone x (m :: r) = (hits x m || gone x r) := rfl
theorem later_cons (x : Smp) (m : Stp) (r : List Stp) : later x (m :: r) = later x r + (if mate x m = true then 1 else 0) := by unfold later; rw [List.countP_cons]
theorem cnt_cons (k : List Int) (y : Smp) (l : List Smp) : cnt k (y :: l) = cnt k l + (if itk k y = true then 1 else 0) := by unfold cnt; rw [List.countP_cons]
theorem not_gone_mate {x : Smp} {m : Stp} (hm : mate x m = true) (h : hits x m = false) : m.ages = false ∧ m.s.op = 1 ∧ m.s.key = x.key := by
  unfold mate at hm
  simp only [Bool.and_eq_true, Bool.not_eq_true', decide_eq_true_eq] at hm
  refine ⟨hm.1, ?_, hm.2⟩
  unfold hits at h
  rw [if_neg (by rw [hm.1]; decide), decide_eq_true hm.2, Bool.true_and, decide_eq_false_iff_not] at h
  exact Classical.not_not.1 h
theorem not_gone_of {x : Smp} {m : Stp} {r : List Stp} (hk : m.s.key = x.key) (hf : x.frame ≤ m.s.frame) (h : gone x r = false) : gone m.s r = false := by
  unfold gone at *
  rw [List.any_eq_false] at *
  intro y hy hh
  refine h y hy ?_
  unfold hits at *
  by_cases ha : y.ages = true
  · rw [if_pos ha] at *
    simp only [Bool.and_eq_true] at *
    exact ⟨hh.1, over_mono hf hh.2⟩
  · rw [if_neg ha] at *
    rw [← hk]
    exact hh
theorem later_of {x y : Smp} (hk : y.key = x.key) (r : List Stp) : later y r = later x r := by
  unfold later mate
  rw [hk]
/-- Of an instance, as many are kept as came, depth at most. -/
theorem cnt_kl (d : Int) (hd : 1 ≤ d) (x : Smp) : ∀ (r : List Stp), rising r → (∀ m ∈ r, m.ages = false → x.frame ≤ m.s.frame) → gone x r = false → (cnt x.key (kl d r) : Int) = min d (later x r)
  | [], _, _, _ => by
    show (0 : Int) = min d ((0 : Nat) : Int)
    omega
  | m :: r, hr, hx, hg => by
    rw [gone_cons, Bool.or_eq_false_iff] at hg
    have hr' := List.pairwise_cons.1 hr
    have ih := cnt_kl d hd x r hr'.2 (fun y hy => hx y (List.mem_cons_of_mem _ hy)) hg.2
    rw [later_cons, kl]
    by_cases hm : mate x m = true
    · obtain ⟨h1, h2, h3⟩ := not_gone_mate hm hg.1
      have hf := hx m (List.mem_cons_self ..) h1
      have hgm := not_gone_of h3 hf hg.2
      rw [if_pos hm]
      by_cases hl : (later x r : Int) < d
      · have hok : okk d m r = true := by
          unfold okk
          rw [h1, decide_eq_true h2, hgm, later_of h3, decide_eq_true hl]
          rfl
        rw [if_pos hok, cnt_cons, if_pos (itk_eq h3)]
        omega
      · have hok : ¬ okk d m r = true := by
          unfold okk
          rw [later_of h3, decide_eq_false hl]
          simp
        rw [if_neg hok]
        omega
    · rw [if_neg hm]
      by_cases hok : okk d m r = true
      · have hnk : ¬ itk x.key m.s = true := by
          intro hh
          unfold itk at hh
          rw [decide_eq_true_eq] at hh
          refine hm ?_
          unfold mate
          unfold okk at hok
          simp only [Bool.and_eq_true, Bool.not_eq_true'] at hok
          rw [hok.1.1.1, decide_eq_true hh]
          rfl
        rw [if_pos hok, cnt_cons, if_neg hnk]
        omega
      · rw [if_neg hok]
        omega
theorem gone_snoc (x : Smp) (r : List Stp) (y : Stp) : gone x (r ++ [y]) = (gone x r || hits x y) := by unfold gone; rw [List.any_append]; simp
theorem later_snoc (x : Smp) (r : List Stp) (y : Stp) : later x (r ++ [y]) = later x r + (if mate x y = true then 1 else 0) := by unfold later; rw [List.countP_append, List.countP_singleton]
theorem okk_iff {d : Int} {x : Stp} {r : List Stp} : okk d x r = true ↔ x.ages = false ∧ x.s.op = 1 ∧ gone x.s r = false ∧ (later x.s r : Int) < d := by
  unfold okk
  simp only [Bool.and_eq_true, Bool.not_eq_true', decide_eq_true_eq, and_assoc]
theorem okk_snoc {d : Int} {x y : Stp} {r : List Stp} : okk d x (r ++ [y]) = true ↔ okk d x r = true ∧ hits x.s y = false ∧ ((later x.s r : Int) + (if mate x.s y = true then 1 else 0)) < d := by
  rw [okk_iff, okk_iff, gone_snoc, later_snoc, Bool.or_eq_false_iff]
  by_cases hm : mate x.s y = true
  · simp only [if_pos hm]
    constructor
    · rintro ⟨a, b, ⟨c, e⟩, f⟩; exact ⟨⟨a, b, c, by omega⟩, e, by omega⟩
    · rintro ⟨⟨a, b, c, _⟩, e, f⟩; exact ⟨a, b, ⟨c, e⟩, by omega⟩
  · simp only [if_neg hm]
    constructor
    · rintro ⟨a, b, ⟨c, e⟩, f⟩; exact ⟨⟨a, b, c, by omega⟩, e, by omega⟩
    · rintro ⟨⟨a, b, c, _⟩, e, f⟩; exact ⟨a, b, ⟨c, e⟩, by omega⟩
/-- A step that only lets go. -/
theorem kl_filter (d : Int) (y : Stp) (q : Smp → Bool) (hy : okk d y [] = false) (hq : ∀ x : Smp, hits x y = q x) (hm : ∀ x : Smp, mate x y = true → q x = true) : ∀ l : List Stp, kl d (l ++ [y]) = (kl d l).filter fun x => !q x
  | [] => by
    show kl d [y] = []
    unfold kl
    rw [hy, if_neg (by decide)]
    rfl
  | x :: r => by
    have ih := kl_filter d y q hy hq hm r
    rw [List.cons_append, kl, kl, ih]
    by_cases hok : okk d x r = true
    · rw [if_pos hok]
      by_cases hqx : q x.s = true
      · have : ¬ okk d x (r ++ [y]) = true := fun hh => by have := (okk_snoc.1 hh).2.1; rw [hq, hqx] at this; cases this
        rw [if_neg this, List.filter_cons_of_neg (by simp [hqx])]
      · have hm' : ¬ mate x.s y = true := fun hh => hqx (hm _ hh)
        have : okk d x (r ++ [y]) = true := okk_snoc.2 ⟨hok, by rw [hq]; exact Bool.eq_false_iff.2 hqx, by rw [if_neg hm']; have := (okk_iff.1 hok).2.2.2; omega⟩
        rw [if_pos this, List.filter_cons_of_pos (by simp [hqx])]
    · rw [if_neg (fun hh => hok (okk_snoc.1 hh).1), if_neg hok]
/-- A write: the first of its instance goes, if there are as many as may be. -/
theorem kl_write (d : Int) (hd : 1 ≤ d) (y : Stp) (ha : y.ages = false) (ho : y.s.op = 1) : ∀ l : List Stp, rising l → kl d (l ++ [y]) = (if d ≤ (cnt y.s.key (kl d l) : Int) then dr (itk y.s.key) (kl d l) else kl d l) ++ [y.s]
  | [], _ => by
    have h0 : okk d y [] = true := okk_iff.2 ⟨ha, ho, rfl, by show ((0 : Nat) : Int) < d; omega⟩
    have hc : ¬ d ≤ (cnt y.s.key (kl d []) : Int) := by show ¬ d ≤ ((0 : Nat) : Int); omega
    rw [if_neg hc]
    show kl d [y] = [] ++ [y.s]
    unfold kl
    rw [if_pos h0]
    rfl
  | x :: r, hr => by
    have hr' := List.pairwise_cons.1 hr
    have ih := kl_write d hd y ha ho r hr'.2
    have hhit : ∀ z : Smp, hits z y = false := fun z => by unfold hits; rw [if_neg (by rw [ha]; decide), decide_eq_false (show ¬ y.s.op ≠ 1 from fun hh => hh ho), Bool.and_false]
    have hmt : ∀ z : Smp, mate z y = decide (y.s.key = z.key) := fun z => by unfold mate; rw [ha]; rfl
    rw [List.cons_append, kl, kl, ih]
    by_cases hok : okk d x r = true
    · rw [if_pos hok]
      have h2 := okk_iff.1 hok
      by_cases hk : y.s.key = x.s.key
      · have hmk : mate x.s y = true := by rw [hmt]; exact decide_eq_true hk
        have hc := cnt_kl d hd x.s r hr'.2 (fun m hm hma => hr'.1 m hm h2.1 hma) h2.2.2.1
        rw [← hk] at hc
        have hc1 : cnt y.s.key (x.s :: kl d r) = cnt y.s.key (kl d r) + 1 := by rw [cnt_cons, if_pos (itk_eq hk.symm)]
        have hn : ¬ d ≤ (cnt y.s.key (kl d r) : Int) := by omega
        rw [if_neg hn]
        by_cases hl : (later x.s r : Int) + 1 < d
        · have h3 : okk d x (r ++ [y]) = true := okk_snoc.2 ⟨hok, hhit _, by rw [if_pos hmk]; exact hl⟩
          have h4 : ¬ d ≤ (cnt y.s.key (x.s :: kl d r) : Int) := by omega
          rw [if_pos h3, if_neg h4]
          rfl
        · have h3 : ¬ okk d x (r ++ [y]) = true := fun hh => by have := (okk_snoc.1 hh).2.2; rw [if_pos hmk] at this; exact hl this
          have h4 : d ≤ (cnt y.s.key (x.s :: kl d r) : Int) := by omega
          rw [if_neg h3, if_pos h4, dr, if_pos (itk_eq hk.symm)]
      · have hnk : ¬ itk y.s.key x.s = true := fun hh => by unfold itk at hh; rw [decide_eq_true_eq] at hh; exact hk hh.symm
        have hmk : ¬ mate x.s y = true := by rw [hmt, decide_eq_false hk]; decide
        have h3 : okk d x (r ++ [y]) = true := okk_snoc.2 ⟨hok, hhit _, by rw [if_neg hmk]; have := h2.2.2.2; omega⟩
        rw [if_pos h3, cnt_cons, if_neg hnk, Nat.add_zero]
        by_cases hc : d ≤ (cnt y.s.key (kl d r) : Int)
        · rw [if_pos hc, if_pos hc, dr, if_neg hnk]; rfl
        · rw [if_neg hc, if_neg hc]; rfl
    · rw [if_neg (fun hh => hok (okk_snoc.1 hh).1), if_neg hok]
/-- What is kept are the last ones. -/
theorem hruns_kl (d : Int) (hd : 1 ≤ d) (l : List Stp) (hr : rising l) : ∀ i, i ≤ l.length → hruns d 0 (l.take i) = kl d (l.take i)
  | 0, _ => by rw [List.take_zero]; rfl
  | i + 1, hi => by
    have ih := hruns_kl d hd l hr i (by omega)
    rw [hruns_step d 0 l i (by omega), ih, List.take_succ_eq_append_getElem (by omega)]
    have hri : rising (l.take i) := List.Pairwise.sublist (List.take_sublist i l) hr
    generalize l.take i = r at *
    generalize l[i] = y
    unfold hstep
    by_cases ha : y.ages = true
    · rw [if_pos ha]
      have hy : okk d y [] = false := by unfold okk; rw [ha]; rfl
      rw [kl_filter d y (fun x => decide (0 < y.life) && Clock.over y.now x.frame y.life) hy (fun x => by unfold hits; rw [if_pos ha]) (fun x hm => by unfold mate at hm; rw [ha] at hm; exact absurd hm (by simp))]
      unfold hexp
      by_cases hf : 0 < y.life
      · rw [if_pos hf, decide_eq_true hf]
        simp only [Bool.true_and]
      · rw [if_neg hf, decide_eq_false hf]
        first | exact List.filter_eq_self.2 (fun x _ => rfl) | exact (List.filter_eq_self.2 (fun x _ => rfl)).symm
    · have ha' : y.ages = false := by simpa using ha
      rw [if_neg ha]
      unfold hput
      by_cases ho : y.s.op = 1
      · rw [if_neg (fun hh => hh ho), kl_write d hd y ha' ho r hri]
        by_cases hc : d ≤ (cnt y.s.key (kl d r) : Int)
        · rw [if_pos ⟨by omega, hc⟩, if_pos hc, dropf_dr]
        · rw [if_neg (fun hh => hc hh.2), if_neg hc, if_neg (fun hh => by omega), if_neg (fun hh => by omega)]
      · rw [if_pos ho]
        have hy : okk d y [] = false := by unfold okk; rw [decide_eq_false ho]; simp
        rw [kl_filter d y (itk y.s.key) hy (fun x => by
          unfold hits itk
          rw [if_neg ha, decide_eq_true (show y.s.op ≠ 1 from ho), Bool.and_true]
          exact decide_eq_decide.2 ⟨fun h => h.symm, fun h => h.symm⟩) (fun x hm => by
          unfold mate at hm
          simp only [Bool.and_eq_true, decide_eq_true_eq] at hm
          exact itk_eq hm.2.symm)]
/-- rises, from a last frame on. -/
def rs (last : Int) : List Stp → Bool
  | [] => true
  | x :: r => if x.ages = true then rs last r else if x.s.frame < last then false else rs x.s.frame r
theorem rs_low : ∀ (l : List Stp) (last : Int), rs last l = true → rising l ∧ ∀ x ∈ l, x.ages = false → last ≤ x.s.frame
  | [], _, _ => ⟨List.Pairwise.nil, fun x hx => nomatch hx⟩
  | x :: r, last, h => by
    rw [rs] at h
    by_cases ha : x.ages = true
    · rw [if_pos ha] at h
      obtain ⟨h1, h2⟩ := rs_low r last h
      refine ⟨List.pairwise_cons.2 ⟨fun y _ hx => absurd (ha.symm.trans hx) (by decide), h1⟩, fun y hy hya => ?_⟩
      rcases List.mem_cons.1 hy with rfl | hy
      · rw [ha] at hya; cases hya
      · exact h2 y hy hya
    · rw [if_neg ha] at h
      by_cases hf : x.s.frame < last
      · rw [if_pos hf] at h; cases h
      · rw [if_neg hf] at h
        obtain ⟨h1, h2⟩ := rs_low r x.s.frame h
        refine ⟨List.pairwise_cons.2 ⟨fun y hy _ hya => h2 y hy hya, h1⟩, fun y hy hya => ?_⟩
        rcases List.mem_cons.1 hy with rfl | hy
        · omega
        · have := h2 y hy hya; omega
set_option maxHeartbeats 1000000 in
set_option maxRecDepth 20000 in
theorem rises (A : Option Addr) (cap : Nat) (l : List Stp) (w : World) (hC : Kd.C kst w A l.length l) (hl : l.length ≤ 9223372036854775807) :
    Calls Try.prog 39 #[.slice A l.length cap] w fun e w' => e = .returned (.bool (rs 0 l)) ∧ w' = w := by
  have HL := Lib.hid hl
  clear hl
  go_enter Try.func39, Try.ntmps39
  go_wp2
  go_loopw [3, 4] (fun v3 v4 wr => ∃ (i : Nat) (last : Int), v4 = .int .i64 (i : Int) ∧ v3 = .int .u64 last ∧ i ≤ l.length ∧ Hid (rs last (l.drop i) = rs 0 l) ∧ wr = w) (fun _ v4 _ => l.length - (intOf v4).toNat)
  case atStart => exact ⟨0, 0, rfl, rfl, Nat.zero_le _, Lib.hid rfl, rfl⟩
  case round =>
    obtain ⟨i, last, rfl, rfl, hi, hr, rfl⟩ := hrel
    by_cases hlt : i < l.length
    · have q0 : (0 : Int) ≤ (i : Int) := by omega
      have q1 : (i : Int) < (l.length : Int) := by omega
      obtain ⟨ad, rfl, st⟩ := step_at hC hlt
      have hlt2 := Lib.hid hlt
      have hwi : wrap64 ((i : Int) + 1) = ((i + 1 : Nat) : Int) := by have := HL.out; unfold wrap64; omega
      have hcons := hr.out
      rw [List.drop_eq_getElem_cons hlt, rs] at hcons
      generalize l[i] = x at st hcons
      have c0 := st.ages
      have c3 : wr.cell? ⟨(ad.add (i * 26)).block, (ad.add (i * 26)).off + 1 + 2, none⟩ = some (.int .u64 x.s.frame) := st.smp 2 _ rfl
      clear st hlt hi hr
      cases ha : x.ages with
      | true =>
        rw [ha] at c0
        rw [ha, if_pos rfl] at hcons
        have hs := Lib.hid hcons
        clear hcons c3 ha
        go_wp2
        rw [hwi]
        exact ⟨⟨i + 1, last, rfl, rfl, hlt2.out, hs, by first | rfl | trivial⟩, meas _ _ hlt2.out⟩
      | false =>
        rw [ha] at c0
        rw [ha, if_neg (by decide)] at hcons
        generalize x.s.frame = fr at c3 hcons
        by_cases hf : fr < last
        · rw [if_pos hf] at hcons
          have hs := Lib.hid hcons
          clear hcons ha
          go_wp2
          go_ret
          exact ⟨by rw [← hs.out]; rfl, rfl⟩
        · rw [if_neg hf] at hcons
          have hs := Lib.hid hcons
          clear hcons ha
          go_wp2
          rw [hwi]
          exact ⟨⟨i + 1, fr, rfl, rfl, hlt2.out, hs, by first | rfl | trivial⟩, meas _ _ hlt2.out⟩
    · have q1 : ¬ (i : Int) < (l.length : Int) := by omega
      have hs : Hid (rs 0 l = true) := Lib.hid (by rw [← hr.out, List.drop_eq_nil_of_le (by omega)]; rfl)
      clear hlt hi hr
      go_wp2
      go_ret
      exact ⟨by rw [hs.out]; rfl, rfl⟩
end Go.Proofs.Ytimalojaiaofkaa.His
