import Derived.Test.YtmlfnlmdnhblmaaFlat
import Derived.Test.YtmlfnlmdnhblmaaOpenS
import Derived.DeepKeys
set_option linter.unusedVariables false
set_option linter.unusedSimpArgs false
namespace Go.Proofs.Ytmlfnlmdnhblmaa.Smp
open Go.RowKit Base Sp Flat Go.Proofs.YtmlfnlmdnhblmaaW.PrintWords
/-- A sample. -/
structure Smp where
  op : Int
  writer : Int
  frame : Int
  run : Int
  seq : Int
  key : List Int
  data : ByteArray
  good : (Lit.int .i64 op).wf = true ∧ (Lit.int .i64 writer).wf = true ∧ (Lit.int .u64 frame).wf = true ∧ (Lit.int .u64 run).wf = true ∧ (Lit.int .u64 seq).wf = true ∧ (key.length = 17 ∧ ∀ k ∈ key, (Lit.int .u8 k).wf = true) ∧ data.size ≤ maxLen
theorem Smp.ext' {x y : Smp} (h1 : x.op = y.op) (h2 : x.writer = y.writer) (h3 : x.frame = y.frame) (h4 : x.run = y.run) (h5 : x.seq = y.seq) (h6 : x.key = y.key) (h7 : x.data = y.data) : x = y := by
  cases x; cases y; simp_all
def head (x : Smp) : List Value := [.int .i64 x.op, .int .i64 x.writer, .int .u64 x.frame, .int .u64 x.run, .int .u64 x.seq]
def cells (x : Smp) : List Value := head x ++ (nums .u8 x.key ++ [.string x.data])
theorem key_len (x : Smp) : x.key.length = 17 := x.good.2.2.2.2.2.1.1
theorem cells_len (x : Smp) : (cells x).length = 23 := by
  unfold cells head
  rw [List.length_append, List.length_append, nums_length, key_len]
  rfl
theorem cells_one (x : Smp) : ∀ u ∈ cells x, u.oneCell' = true := by
  intro u hu
  unfold cells head at hu
  rcases List.mem_append.1 hu with hu | hu
  · simp at hu
    rcases hu with rfl | rfl | rfl | rfl | rfl <;> rfl
  · rcases List.mem_append.1 hu with hu | hu
    · unfold nums at hu
      obtain ⟨k, _, rfl⟩ := List.mem_map.1 hu
      rfl
    · rw [List.mem_singleton.1 hu]; rfl
/-- A sample's cells. -/
def ks : Kd Smp where
  sz := 23
  E := []
  K := fun _ x cs => cs = cells x
  M := fun _ _ _ x cs => cs = cells x
  K_len := fun h => by rw [h]; exact cells_len _
  K_one := fun h u hu => by rw [h] at hu; exact cells_one _ u hu
  K_below := fun _ h => h
  K_of_M := fun h => h
  M_mono := fun _ h => h
  M_bound := fun h => h
  M_move := fun _ h => h
  M_lower := fun _ h => h
theorem flat_ks : Flat ks := ⟨fun h => h, fun h => h⟩
theorem cells_inj {x y : Smp} (h : cells x = cells y) : x = y := by
  unfold cells at h
  obtain ⟨h1, h2⟩ := List.append_inj h rfl
  obtain ⟨h3, h4⟩ := List.append_inj h2 (by rw [nums_length, nums_length, key_len, key_len])
  unfold head at h1
  simp only [List.cons.injEq, Value.int.injEq, true_and, and_true] at h1
  have hk : x.key = y.key := by
    have := congrArg (List.map fun v => match v with | Value.int _ n => n | _ => 0) h3
    simpa [nums, List.map_map, Function.comp_def] using this
  simp only [List.cons.injEq, Value.string.injEq, and_true] at h4
  exact Smp.ext' h1.1 h1.2.1 h1.2.2.1 h1.2.2.2.1 h1.2.2.2.2 hk h4
/-- Bytes, one behind the other. -/
def kkey : Kd (List Int) where
  sz := 17
  E := []
  K := fun _ x cs => cs = nums .u8 x ∧ x.length = 17
  M := fun _ _ _ x cs => cs = nums .u8 x ∧ x.length = 17
  K_len := fun h => by rw [h.1, nums_length]; exact h.2
  K_one := fun h u hu => by
    rw [h.1] at hu
    unfold nums at hu
    obtain ⟨k, _, rfl⟩ := List.mem_map.1 hu
    rfl
  K_below := fun _ h => h
  K_of_M := fun h => h
  M_mono := fun _ h => h
  M_bound := fun h => h
  M_move := fun _ h => h
  M_lower := fun _ h => h
theorem bytes_of (cs : List Value) (h : ∀ v ∈ cs, ∃ n, v = .int .u8 n ∧ (Lit.int .u8 n).wf = true) : ∃ xs : List Int, cs = nums .u8 xs ∧ ∀ x ∈ xs, (Lit.int .u8 x).wf = true := by
  induction cs with
  | nil => exact ⟨[], rfl, fun x hx => by cases hx⟩
  | cons v cs ih =>
    obtain ⟨xs, rfl, hx⟩ := ih (fun u hu => h u (List.mem_cons_of_mem _ hu))
    obtain ⟨n, rfl, hw⟩ := h v (List.mem_cons_self ..)
    refine ⟨n :: xs, rfl, fun x hm => ?_⟩
    rcases List.mem_cons.1 hm with rfl | hm
    · exact hw
    · exact hx x hm
theorem opens_key : Open.Opens Try.prog 24 kkey (fun l => ∀ k ∈ l, (Lit.int .u8 k).wf = true) := by
  intro H enc w cs h
  obtain ⟨hl, ha⟩ := Open.tr_array Try.underlying24 h
  have e1 : Try.prog.cellsOf 24 = 17 := by kernel_rfl
  have e2 : Try.prog.cellsOf 5 = 1 := by kernel_rfl
  rw [e1] at hl
  rw [e2] at ha
  obtain ⟨xs, rfl, hx⟩ := bytes_of cs (fun v hv => by
    obtain ⟨i, hi, rfl⟩ := List.getElem_of_mem hv
    obtain ⟨n, e, hw⟩ := Open.tr_int Try.underlying5 (ha i (by omega))
    refine ⟨n, ?_, hw⟩
    have := congrArg (·[0]?) e
    simpa [List.getElem?_take, List.getElem?_drop, List.getElem?_eq_getElem hi] using this)
  rw [nums_length] at hl
  exact ⟨xs, ⟨rfl, hl⟩, hx⟩
def GSmp (x : Smp) : Prop := x.data.size ≤ reachBytes
theorem opens : Open.Opens Try.prog 26 ks GSmp := by
  intro H enc w cs h
  have hp : Open.Opens Try.prog 26 (Kd.pair (Kd.int .i64) (Kd.pair (Kd.int .i64) (Kd.pair (Kd.int .u64) (Kd.pair (Kd.int .u64) (Kd.pair (Kd.int .u64) (Kd.pair kkey Kd.string))))))
      (Open.GPair (fun n => (Lit.int .i64 n).wf = true) (Open.GPair (fun n => (Lit.int .i64 n).wf = true) (Open.GPair (fun n => (Lit.int .u64 n).wf = true) (Open.GPair (fun n => (Lit.int .u64 n).wf = true) (Open.GPair (fun n => (Lit.int .u64 n).wf = true) (Open.GPair (fun l => ∀ k ∈ l, (Lit.int .u8 k).wf = true) (fun s : ByteArray => s.size ≤ reachBytes))))))) := by
    refine Open.opens_struct Try.underlying26 (by kernel_rfl) ?_
    refine Open.fields_cons (Open.opens_int Try.underlying3) (by kernel_rfl) ?_
    refine Open.fields_cons (Open.opens_int Try.underlying3) (by kernel_rfl) ?_
    refine Open.fields_cons (Open.opens_int Try.underlying22) (by kernel_rfl) ?_
    refine Open.fields_cons (Open.opens_int Try.underlying22) (by kernel_rfl) ?_
    refine Open.fields_cons (Open.opens_int Try.underlying22) (by kernel_rfl) ?_
    refine Open.fields_cons opens_key (by kernel_rfl) ?_
    exact Open.fields_last (Open.opens_string Try.underlying9) (by kernel_rfl)
  obtain ⟨⟨a, b, c, d, e, k, s⟩, hK, g1, g2, g3, g4, g5, g6, g7⟩ := hp H enc w cs h
  obtain ⟨_, _, rfl, rfl, _, _, rfl, rfl, _, _, rfl, rfl, _, _, rfl, rfl, _, _, rfl, rfl, _, _, rfl, ⟨rfl, hk⟩, rfl⟩ := hK
  exact ⟨⟨a, b, c, d, e, k, s, g1, g2, g3, g4, g5, ⟨hk, g6⟩, Nat.le_trans g7 (by decide)⟩, rfl, g7⟩
def lits (x : Smp) : List Lit := [.int .i64 x.op, .int .i64 x.writer, .int .u64 x.frame, .int .u64 x.run, .int .u64 x.seq] ++ (x.key.map (Lit.int .u8) ++ [.string x.data.data.toList])
theorem key_lits (xs : List Int) (hl : xs.length = 17) (hw : ∀ k ∈ xs, (Lit.int .u8 k).wf = true) : Try.prog.keyLits 2 24 (nums .u8 xs) = some (xs.map (Lit.int .u8)) := by
  have e1 : Try.prog.cellsOf 24 = 17 := by kernel_rfl
  have e2 : Try.prog.cellsOf 5 = 1 := by kernel_rfl
  unfold Program.keyLits
  simp only [Try.underlying24, e1, e2, nums_length, hl, if_true]
  have : ∀ n, n ≤ xs.length → (List.range n).mapM (fun i => Try.prog.keyLits 1 5 (((nums .u8 xs).drop (i * 1)).take 1)) = some ((xs.take n).map fun k => [Lit.int .u8 k]) := by
    intro n
    induction n with
    | zero => intro _; rfl
    | succ n ih =>
      intro hn
      rw [List.range_succ, List.mapM_append, ih (by omega)]
      have hc : ((nums .u8 xs).drop (n * 1)).take 1 = [.int .u8 xs[n]] := by
        rw [Nat.mul_one]
        unfold nums
        rw [← List.map_drop, ← List.map_take, List.drop_eq_getElem_cons (by omega : n < xs.length)]
        rfl
      have hk : Try.prog.keyLits 1 5 [.int .u8 xs[n]] = some [Lit.int .u8 xs[n]] := by
        unfold Program.keyLits
        simp only [Try.underlying5]
        rw [if_pos ⟨trivial, hw _ (List.getElem_mem (by omega))⟩]
      simp only [List.mapM_cons, List.mapM_nil, hc, hk]
      rw [List.take_succ_eq_append_getElem (by omega), List.map_append]
      rfl
  have h17 := this 17 (by omega)
  rw [h17, List.take_of_length_le (by omega)]
  simp only [Option.map_some, Option.some.injEq]
  clear h17 this hw hl
  induction xs with
  | nil => rfl
  | cons x xs ih => simp only [List.map_cons, List.flatten_cons, ih]; rfl
theorem smp_lits (x : Smp) : Try.prog.keyLits 3 26 (cells x) = some (lits x) := by
  have e1 : Try.prog.cellsOf 26 = 23 := by kernel_rfl
  have e2 : Try.prog.cellsOf 24 = 17 := by kernel_rfl
  have e3 : Try.prog.cellsOf 3 = 1 := by kernel_rfl
  have e4 : Try.prog.cellsOf 22 = 1 := by kernel_rfl
  have e5 : Try.prog.cellsOf 9 = 1 := by kernel_rfl
  obtain ⟨g1, g2, g3, g4, g5, ⟨g6, g7⟩, g8⟩ := x.good
  have hk := key_lits x.key g6 g7
  have hi : ∀ n, (Lit.int .i64 n).wf = true → Try.prog.keyLits 2 3 [.int .i64 n] = some [.int .i64 n] := fun n h => by
    unfold Program.keyLits
    simp only [Try.underlying3]
    rw [if_pos ⟨trivial, h⟩]
  have hu : ∀ n, (Lit.int .u64 n).wf = true → Try.prog.keyLits 2 22 [.int .u64 n] = some [.int .u64 n] := fun n h => by
    unfold Program.keyLits
    simp only [Try.underlying22]
    rw [if_pos ⟨trivial, h⟩]
  have hs : Try.prog.keyLits 2 9 [.string x.data] = some [.string x.data.data.toList] := by
    unfold Program.keyLits
    simp only [Try.underlying9]
    rw [if_pos g8]
  have d5 : ((cells x).drop 5).take 17 = nums .u8 x.key := by
    unfold cells head
    simp only [List.cons_append, List.nil_append, List.drop_succ_cons, List.drop_zero]
    rw [List.take_append_of_le_length (by rw [nums_length]; omega), List.take_of_length_le (by rw [nums_length]; omega)]
  have d6 : ((cells x).drop 22).take 1 = [.string x.data] := by
    unfold cells head
    simp only [List.cons_append, List.nil_append, List.drop_succ_cons]
    rw [List.drop_append, nums_length, g6, List.drop_eq_nil_of_le (by rw [nums_length]; omega)]
    rfl
  unfold Program.keyLits
  simp only [Try.underlying26, e1, cells_len, if_true]
  rw [if_pos ⟨trivial, by kernel_rfl⟩]
  simp only [List.mapM_cons, List.mapM_nil, e2, e3, e4, e5, d5, d6, hk, hs]
  have h0 : ((cells x).drop 0).take 1 = [.int .i64 x.op] := rfl
  have h1 : ((cells x).drop 1).take 1 = [.int .i64 x.writer] := rfl
  have h2 : ((cells x).drop 2).take 1 = [.int .u64 x.frame] := rfl
  have h3 : ((cells x).drop 3).take 1 = [.int .u64 x.run] := rfl
  have h4 : ((cells x).drop 4).take 1 = [.int .u64 x.seq] := rfl
  rw [h0, h1, h2, h3, h4, hi _ g1, hi _ g2, hu _ g3, hu _ g4, hu _ g5]
  simp [lits]
theorem lits_inj {x y : Smp} (h : lits x = lits y) : x = y := by
  unfold lits at h
  obtain ⟨h1, h2⟩ := List.append_inj h rfl
  obtain ⟨h3, h4⟩ := List.append_inj h2 (by rw [List.length_map, List.length_map, key_len, key_len])
  simp only [List.cons.injEq, Lit.int.injEq, true_and, and_true] at h1
  have hk : x.key = y.key := by
    have := congrArg (List.map fun v => match v with | Lit.int _ n => n | _ => 0) h3
    simpa [List.map_map, Function.comp_def] using this
  simp only [List.cons.injEq, Lit.string.injEq, and_true] at h4
  exact Smp.ext' h1.1 h1.2.1 h1.2.2.1 h1.2.2.2.1 h1.2.2.2.2 hk (by
    have h5 : x.data.data = y.data.data := by
      rw [← Array.toArray_toList (xs := x.data.data), h4, Array.toArray_toList]
    exact (fun (a b : ByteArray) (h : a.data = b.data) => (by cases a; cases b; cases h; rfl : a = b)) _ _ h5)
instance : DecidableEq Smp := fun x y => if h : x.op = y.op ∧ x.writer = y.writer ∧ x.frame = y.frame ∧ x.run = y.run ∧ x.seq = y.seq ∧ x.key = y.key ∧ x.data = y.data then isTrue (Smp.ext' h.1 h.2.1 h.2.2.1 h.2.2.2.1 h.2.2.2.2.1 h.2.2.2.2.2.1 h.2.2.2.2.2.2) else isFalse (fun e => h (by subst e; simp))
theorem smp_deep (x y : Smp) (W : World) : (Op.equalIn 10000 26 (.agg (cells x).toArray) (.agg (cells y).toArray)).run Try.prog W = .ok (decide (x = y)) W := by
  have e1 : Try.prog.cellsOf 26 = 23 := by kernel_rfl
  have hf : ∀ z : Smp, (Value.agg (cells z).toArray).formed Try.prog 26 = true := fun z => by
    unfold Value.formed
    simp only [Try.underlying26, e1]
    rw [List.size_toArray, cells_len]
    rfl
  obtain ⟨r, hr, hi⟩ := run_equalIn_deep (P := Try.prog) 9995 5 26 (by kernel_rfl) W 3 3 _ _ _ _ (hf x) (hf y) (smp_lits x) (smp_lits y)
  rw [show (9995 + 5 : Nat) = 10000 from rfl] at hr
  rw [hr]
  have : r = decide (x = y) := by
    cases r
    · refine (decide_eq_false (fun e => ?_)).symm
      subst e
      exact absurd (hi.2 rfl) (by simp)
    · exact (decide_eq_true (lits_inj (hi.1 rfl))).symm
  rw [this]
theorem smp_eql (x y : Smp) (W : World) : (binOp .eql 26 (.agg (cells x).toArray) (.agg (cells y).toArray)).run Try.prog W = .ok (.bool (decide (x = y))) W := by
  rw [run_eql_struct, smp_deep]
  rfl
theorem smp_neq (x y : Smp) (W : World) : (binOp .neq 26 (.agg (cells x).toArray) (.agg (cells y).toArray)).run Try.prog W = .ok (.bool (!decide (x = y))) W := by
  rw [run_neq_struct, smp_deep]
  rfl
theorem key_deep (xs ys : List Int) (hx : xs.length = 17) (hy : ys.length = 17) (wx : ∀ k ∈ xs, (Lit.int .u8 k).wf = true) (wy : ∀ k ∈ ys, (Lit.int .u8 k).wf = true) (W : World) : (Op.equalIn 10000 24 (.agg (nums .u8 xs).toArray) (.agg (nums .u8 ys).toArray)).run Try.prog W = .ok (decide (xs = ys)) W := by
  have e1 : Try.prog.cellsOf 24 = 17 := by kernel_rfl
  have hf : ∀ z : List Int, z.length = 17 → (Value.agg (nums .u8 z).toArray).formed Try.prog 24 = true := fun z hz => by
    unfold Value.formed
    simp only [Try.underlying24, e1]
    rw [List.size_toArray, nums_length, hz]
    rfl
  obtain ⟨r, hr, hi⟩ := run_equalIn_deep (P := Try.prog) 9995 5 24 (by kernel_rfl) W 2 2 _ _ _ _ (hf xs hx) (hf ys hy) (key_lits xs hx wx) (key_lits ys hy wy)
  rw [show (9995 + 5 : Nat) = 10000 from rfl] at hr
  rw [hr]
  have : r = decide (xs = ys) := by
    cases r
    · refine (decide_eq_false (fun e => ?_)).symm
      subst e
      exact absurd (hi.2 rfl) (by simp)
    · refine (decide_eq_true ?_).symm
      have := congrArg (List.map fun v => match v with | Lit.int _ n => n | _ => 0) (hi.1 rfl)
      simpa [List.map_map, Function.comp_def] using this
  rw [this]
theorem key_eql (x y : Smp) (W : World) : (binOp .eql 24 (.agg (nums .u8 x.key).toArray) (.agg (nums .u8 y.key).toArray)).run Try.prog W = .ok (.bool (decide (x.key = y.key))) W := by
  rw [run_eql_struct, key_deep _ _ (key_len x) (key_len y) x.good.2.2.2.2.2.1.2 y.good.2.2.2.2.2.1.2]
  rfl
end Go.Proofs.Ytmlfnlmdnhblmaa.Smp
